/- The walks of the functions that GuideSurest reaches: each call comes to what its mirror says. The conditions are those of each contract. -/
import Derived.Test.YtpcebngchmgckaaGreatDoorProg
import Derived.Test.YtpcebngchmgckaaGreatDoorFpTight
import Derived.Test.YtpcebngchmgckaaGreatDoorGuideSurestM
import Derived.Test.YtpcebngchmgckaaGreatDoorFpAllX
import Derived.Test.YtpcebngchmgckaaGreatDoorGuideSurestS
import Derived.Test.YtpcebngchmgckaaGreatDoorFpMapS
import Derived.Test.YtpcebngchmgckaaGreatDoorFpFld
import Derived.Test.YtpcebngchmgckaaGreatDoorFpMapG
import Derived.Test.YtpcebngchmgckaaGreatDoorFpMapV
import Derived.Test.YtpcebngchmgckaaGreatDoorFpMaps
import Derived.Test.YtpcebngchmgckaaGreatDoorFpOrd
import Derived.Test.YtpcebngchmgckaaGreatDoorFpRf
import Derived.Test.YtpcebngchmgckaaGreatDoorFpRng
import Derived.Test.YtpcebngchmgckaaGreatDoorGuideSurestW1
set_option maxRecDepth 10000
namespace Go.Proofs.YtpcebngchmgckaaGreatDoor
open Go Go.Fp
set_option maxHeartbeats 8000000 in
theorem GuideNetcount_1_v1_ok : ∀ {fu : Nat} {w : World} {s : Sg} {R : List HP} {pb0 : Nat} {pb1 : Nat} {pb2 : Nat} {pb3 : Nat} {pb4 : Nat} {pb5 : Nat} {pb6 : Nat} {x0 : Int} {x1 : Int} {y0 : List Int} {a_v0 : Option Addr} {c_v0 n_v0 : Nat} {cs_v0 : List Value} {y1 : List GuideOdds} {a_y1_0 : Option Addr} {c_y1_0 : Nat} {y3_0 : List (Int × Int)} {b_v1 : Nat} {y4 : GuideCases} {y5 : GuideJourney} {a_y5_0 : Option Addr} {c_y5_0 : Nat} {y6 : GuideNet} {a_y6_0 : Option Addr} {c_y6_0 : Nat} {a_y6_1 : Option Addr} {c_y6_1 : Nat} (_hS : St w s (pc pb0 #[.slice a_v0 n_v0 c_v0] 65 :: pc pb1 #[.slice a_y1_0 y1.length c_y1_0] 26 :: pc pb2 #[.func (.func 97) #[] #[pp pb0, pp pb1, pp pb2, pp pb3, pp pb4, pp pb5, pp pb6]] 182 :: pc pb3 #[.map (some b_v1)] 167 :: pc pb4 #[vi y4.holds, vi y4.all, vi y4.late] 93 :: pc pb5 #[.slice a_y5_0 y5.Rides.length c_y5_0] 29 :: pc pb6 #[.slice a_y6_0 y6.Day.Trains.length c_y6_0, .slice a_y6_1 y6.Day.Turns.length c_y6_1, vi y6.least] 91 :: vecC 3 1 a_v0 c_v0 n_v0 cs_v0 :: mapC keyI.f (Value.int .i64) b_v1 y3_0 :: R)) (_h_v0 : Ev 1 (RI .i64) s cs_v0 y0) (_hn_v0 : y0.length = n_v0) (_h_y1_0 : Sl 3 RGuideOdds s a_y1_0 c_y1_0 y1) (_h_y5_0 : Sl 3 RGuideRide s a_y5_0 c_y5_0 y5.Rides) (_h_y6_0 : Sl 4 RApiTrain s a_y6_0 c_y6_0 y6.Day.Trains) (_h_y6_1 : Sl 1 (RL 1 (RI .i64)) s a_y6_1 c_y6_1 y6.Day.Turns) {r : (List (Int × Int)) × Int × Int × Int} (_hr : GuideNetcount_1_v1 fu x0 x1 y0 y1 y3_0 y4 y5 y6 = some r),
  Calls Tryz.prog 97 [vi x0, vi x1, pp pb0, pp pb1, pp pb2, pp pb3, pp pb4, pp pb5, pp pb6].toArray w (fun e w => e = .returned (.tuple #[]) ∧ St w s (pc pb0 #[.slice a_v0 n_v0 c_v0] 65 :: pc pb1 #[.slice a_y1_0 y1.length c_y1_0] 26 :: pc pb2 #[.func (.func 97) #[] #[pp pb0, pp pb1, pp pb2, pp pb3, pp pb4, pp pb5, pp pb6]] 182 :: pc pb3 #[.map (some b_v1)] 167 :: pc pb4 #[vi r.2.1, vi r.2.2.1, vi r.2.2.2] 93 :: pc pb5 #[.slice a_y5_0 y5.Rides.length c_y5_0] 29 :: pc pb6 #[.slice a_y6_0 y6.Day.Trains.length c_y6_0, .slice a_y6_1 y6.Day.Turns.length c_y6_1, vi y6.least] 91 :: vecC 3 1 a_v0 c_v0 n_v0 cs_v0 :: mapC keyI.f (Value.int .i64) b_v1 r.1 :: R)) := by
 intro fu
 induction fu with
 | zero => intro w s R pb0 pb1 pb2 pb3 pb4 pb5 pb6 x0 x1 y0 a_v0 c_v0 n_v0 cs_v0 y1 a_y1_0 c_y1_0 y3_0 b_v1 y4 y5 a_y5_0 c_y5_0 y6 a_y6_0 c_y6_0 a_y6_1 c_y6_1 hS h_v0 hn_v0 h_y1_0 h_y5_0 h_y6_0 h_y6_1 r hr; rw [GuideNetcount_1_v1] at hr; exact absurd hr (by simp)
 | succ fu ih_GuideNetcount_1_v1 =>
  intro w s R pb0 pb1 pb2 pb3 pb4 pb5 pb6 x0 x1 y0 a_v0 c_v0 n_v0 cs_v0 y1 a_y1_0 c_y1_0 y3_0 b_v1 y4 y5 a_y5_0 c_y5_0 y6 a_y6_0 c_y6_0 a_y6_1 c_y6_1 hS h_v0 hn_v0 h_y1_0 h_y5_0 h_y6_0 h_y6_1 r hr
  rw [GuideNetcount_1_v1] at hr
  generalize GuideNetcount_1_v1 fu = self_GuideNetcount_1_v1 at hr ih_GuideNetcount_1_v1
  refine enter Tryz.func97 rfl rfl rfl fun a hE => ?_
  subst hn_v0
  refine W.seq (W.region ?_)
  refine WL.box hE hS (runs_plain rfl) rfl rfl rfl ?_; clear hE hS a w; intro b55 a w hE hS
  refine WL.nil ?_
  refine W.seq ?_
  refine W.seq (W.region (vP hS hE (Gives.loadB hE 0 rfl rfl rfl ty3) rfl fun a hE => ?_))
  refine vP hS hE (Gives.loadB hE 1 rfl rfl rfl ty65) rfl fun a hE => ?_
  refine vP hS hE (Gives.len hE rfl sl65) rfl fun a hE => ?_
  refine vp hS hE rfl rfl fun a hE => WL.nil ?_
  refine W.cond hE rfl (fun hc56 => ?_) (fun hc56 => ?_)
  ·replace hr := iteT hc56 hr
   refine W.seq (W.region (vP hS hE (Gives.loadB hE 2 rfl rfl rfl ty26) rfl fun a hE => ?_))
   refine vP hS hE (Gives.mkfn hE (vs := [pp pb0, pp b55]) rfl) rfl fun a hE => ?_
   obtain ⟨q57, hq58, hr⟩ := bindS hr
   replace hS := hS.front 8 rfl
   replace hS := hS.front 1 rfl
   replace hS := hS.front 2 rfl
   have hc_ := SlicesIndexFuncLguideOdds_v2_ok hS h_y1_0 h_v0 (rfl) hq58
   refine WL.fnq hE (hc_) (runs_plain rfl) bd98 rfl rfl rfl ?_
   clear hE hS hc_; rintro e w ⟨rfl, hS⟩; refine ⟨_, rfl, ?_⟩; clear a; intro a hE
   refine vp hS hE rfl rfl fun a hE => WL.nil ?_
   refine W.seq ?_
   refine W.seq (W.region (v2 hS hE rfl rfl rfl rfl fun a hE => WL.nil ?_))
   refine W.cond hE rfl (fun hc59 => ?_) (fun hc59 => ?_)
   ·replace hr := iteT hc59 hr
    refine W.seq (W.region (vP hS hE (Gives.loadB hE 4 rfl rfl rfl ty182) rfl fun a hE => ?_))
    refine vP hS hE (Gives.loadB hE 1 rfl rfl rfl ty3) rfl fun a hE => ?_
    refine v2 hS hE rfl rfl rfl rfl fun a hE => ?_
    obtain ⟨q60, hq61, hr⟩ := bindS hr
    replace hS := hS.front 9 rfl
    replace hS := hS.front 3 rfl
    replace hS := hS.front 9 rfl
    replace hS := hS.front 9 rfl
    replace hS := hS.front 9 rfl
    replace hS := hS.front 9 rfl
    replace hS := hS.front 9 rfl
    replace hS := hS.front 9 rfl
    replace hS := hS.front 8 rfl
    have hc_ := ih_GuideNetcount_1_v1 (y4 := y4) (y6 := y6) hS h_v0 (rfl) h_y1_0 h_y5_0 h_y6_0 h_y6_1 hq61
    refine WL.fnw hE (hc_) rfl (runs_plain rfl) bd97 rfl rfl rfl ?_
    clear hE hS hc_; rintro e w ⟨rfl, hS⟩; refine ⟨_, rfl, ?_⟩; clear a; intro a hE
    refine WL.nil ?_
    refine W.ret ?_
    refine finG (fn := Tryz.f97) (rs := []) (vs := []) hE rfl trivial ?_
    obtain rfl := Option.some.inj hr
    replace hS := hS.dropAt 9
    exact ⟨rfl, hS⟩
   replace hr := iteF hc59 hr
   refine W.skip ?_
   refine W.seq ?_
   refine W.seq (W.region (vP hS hE (Gives.loadB hE 3 rfl rfl rfl ty26) rfl fun a hE => ?_))
   refine vp hS hE rfl rfl fun a hE => ?_
   obtain ⟨x62, hx63, hr⟩ := bindS hr
   obtain ⟨hi64, hlt65, hy66⟩ := gx_some hx63
   obtain ⟨cs67, hl68, hR69, hat70⟩ := h_y1_0.at hy66
   obtain ⟨a71, c72, a74, c75, rfl, h73, h76⟩ := hR69
   refine vP hS hE (Gives.idx hE (q57).toNat rfl rfl sl26 hi64 hlt65 (h_y1_0.aok hlt65)) rfl fun a hE => ?_
   refine vP hS hE (Gives.fld hE rfl fl114_1) rfl fun a hE => ?_
   refine vP hS hE (Gives.load1 hE rfl (fun w h => (hat70 w _ h).one rfl) ty65) rfl fun a hE => ?_
   refine vP hS hE (Gives.len hE rfl sl65) rfl fun a hE => ?_
   refine vp hS hE rfl rfl fun a hE => WL.nil ?_
   obtain ⟨q78, hq77, hr⟩ := bindS hr
   refine W.cut (fun a w => ∃ (q88 : List (Int × Int)), ∃ (q89 : Int), ∃ (q90 : Int), ∃ (q91 : Int), (q88, q89, q90, q91) = q78 ∧ Rep a 129 [] ∧ St w s (pc pb0 #[.slice a_v0 y0.length c_v0] 65 :: pc b55 #[vi x0] 3 :: vecC 3 1 a_v0 c_v0 y0.length cs_v0 :: pc pb1 #[.slice a_y1_0 y1.length c_y1_0] 26 :: pc pb2 #[.func (.func 97) #[] #[pp pb0, pp pb1, pp pb2, pp pb3, pp pb4, pp pb5, pp pb6]] 182 :: pc pb3 #[.map (some b_v1)] 167 :: pc pb4 #[vi q89, vi q90, vi q91] 93 :: pc pb5 #[.slice a_y5_0 y5.Rides.length c_y5_0] 29 :: pc pb6 #[.slice a_y6_0 y6.Day.Trains.length c_y6_0, .slice a_y6_1 y6.Day.Turns.length c_y6_1, vi y6.least] 91 :: mapC keyI.f (Value.int .i64) b_v1 q88 :: R)) ?_ ?_
   ·refine W.block ?_
    refine W.loop (fun m a w => ∃ (rest81 : List Int) (k79 : Nat), ∃ (q88 : List (Int × Int)), ∃ (q89 : Int), ∃ (q90 : Int), ∃ (q91 : Int), rest81.length = m ∧ x62.Late.drop k79 = rest81 ∧ GuideNetcount_1_v1.loop1 x0 x1 y0 y1 y5 y6 self_GuideNetcount_1_v1 q57 rest81 k79 q88 q89 q90 q91 = some q78 ∧ Rep a 129 [(1, vi x1), (2, pp pb0), (3, pp pb1), (4, pp pb2), (5, pp pb3), (9, pp b55), (11, vi q57), (35, .slice a71 x62.Late.length c72), (36, vi ((x62.Late).length : Int)), (37, vi ((k79 : Nat) : Int))] ∧ St w s (pc pb0 #[.slice a_v0 y0.length c_v0] 65 :: pc b55 #[vi x0] 3 :: vecC 3 1 a_v0 c_v0 y0.length cs_v0 :: pc pb1 #[.slice a_y1_0 y1.length c_y1_0] 26 :: pc pb2 #[.func (.func 97) #[] #[pp pb0, pp pb1, pp pb2, pp pb3, pp pb4, pp pb5, pp pb6]] 182 :: pc pb3 #[.map (some b_v1)] 167 :: pc pb4 #[vi q89, vi q90, vi q91] 93 :: pc pb5 #[.slice a_y5_0 y5.Rides.length c_y5_0] 29 :: pc pb6 #[.slice a_y6_0 y6.Day.Trains.length c_y6_0, .slice a_y6_1 y6.Day.Turns.length c_y6_1, vi y6.least] 91 :: mapC keyI.f (Value.int .i64) b_v1 q88 :: R)) (m := x62.Late.length) ⟨x62.Late, 0, y3_0, y4.holds, y4.all, y4.late, rfl, rfl, hq77, hE.pick _ ⟨rfl, rfl, rfl, rfl, rfl, rfl, rfl, rfl, rfl, rfl, trivial⟩, hS⟩ ?_
    clear hE hS a w hq77; rintro m85 a w ⟨rest81, k79, q88, q89, q90, q91, rfl, hd82, hq77, hE, hS⟩
    refine W.gen fun K92 hK92 => ?_
    rcases rest81 with _ | ⟨x80, rest81⟩
    ·have hlt83 := drop_nil hd82
     refine W.seq (W.region (vp hS hE rfl rfl fun a hE => WL.nil ?_))
     refine W.seq ?_
     refine W.condF hE rfl (decide_eq_false (by omega)) ?_
     subst hK92
     refine W.exit rfl ?_
     exact ⟨q88, q89, q90, q91, Option.some.inj hq77, hE.pick _ trivial, hS⟩
    obtain ⟨hlt83, hx84, hd82⟩ := drop_cons hd82
    rw [GuideNetcount_1_v1.loop1] at hq77
    refine W.seq (W.region (vp hS hE rfl rfl fun a hE => WL.nil ?_))
    refine W.seq ?_
    refine W.condT hE rfl (decide_eq_true (by omega)) ?_
    refine W.skip ?_
    refine W.seq ?_
    refine W.block ?_
    refine W.seq (W.region (vp hS hE rfl rfl fun a hE => ?_))
    obtain ⟨cs93, hl94, hR95, hat96⟩ := h73.at hx84
    subst hR95
    refine vP hS hE (Gives.idx hE k79 rfl rfl sl65 rfl hlt83 (h73.aok hlt83)) rfl fun a hE => ?_
    refine vP hS hE (Gives.load1 hE rfl (fun w h => hat96 w _ h) ty3) rfl fun a hE => ?_
    refine v2 hS hE rfl rfl rfl rfl fun a hE => WL.nil ?_
    refine W.seq ?_
    refine W.gen fun K97 hK97 => ?_
    refine W.regionE (sel (fun w => St w s (pc pb0 #[.slice a_v0 y0.length c_v0] 65 :: pc b55 #[vi x0] 3 :: vecC 3 1 a_v0 c_v0 y0.length cs_v0 :: pc pb1 #[.slice a_y1_0 y1.length c_y1_0] 26 :: pc pb2 #[.func (.func 97) #[] #[pp pb0, pp pb1, pp pb2, pp pb3, pp pb4, pp pb5, pp pb6]] 182 :: pc pb3 #[.map (some b_v1)] 167 :: pc pb4 #[vi q89, vi q90, vi q91] 93 :: pc pb5 #[.slice a_y5_0 y5.Rides.length c_y5_0] 29 :: pc pb6 #[.slice a_y6_0 y6.Day.Trains.length c_y6_0, .slice a_y6_1 y6.Day.Turns.length c_y6_1, vi y6.least] 91 :: mapC keyI.f (Value.int .i64) b_v1 q88 :: R)) (fun w => St w s (pc pb0 #[.slice a_v0 y0.length c_v0] 65 :: pc b55 #[vi x0] 3 :: vecC 3 1 a_v0 c_v0 y0.length cs_v0 :: pc pb1 #[.slice a_y1_0 y1.length c_y1_0] 26 :: pc pb2 #[.func (.func 97) #[] #[pp pb0, pp pb1, pp pb2, pp pb3, pp pb4, pp pb5, pp pb6]] 182 :: pc pb3 #[.map (some b_v1)] 167 :: pc pb4 #[vi q89, vi q90, vi q91] 93 :: pc pb5 #[.slice a_y5_0 y5.Rides.length c_y5_0] 29 :: pc pb6 #[.slice a_y6_0 y6.Day.Trains.length c_y6_0, .slice a_y6_1 y6.Day.Turns.length c_y6_1, vi y6.least] 91 :: R))) (fun b i => cond b ([0, 1, 2, 3, 4, 5].contains i) ([0, 1, 2, 3, 4, 5, 6].contains i)) mixed ?_
    replace hS := hS.drew
    refine tT (i := 0) true rfl hE rfl (by kernel_rfl) (Gives.loadB hE 5 rfl rfl rfl ty167) rfl hS (hS.dropAt 9) fun a hE => ?_
    have hT := tw_sel (A := fun w => St w s _) (B := fun w => St w s _) (w := _) (x := true) (y := true) (fun _ => hS) (fun _ => (hS.dropAt 9))
    have hF := hS; replace hS := hS
    refine Rg.take (i := 1) true rfl hE rfl (by kernel_rfl) (runs_plain rfl) (Gives.loadB hE 0 rfl rfl rfl ty65) rfl hT fun a hE => ?_
    replace hS := hF; clear hF hT
    refine tT (i := 2) true rfl hE rfl (by kernel_rfl) (Gives.loadB hE 1 rfl rfl rfl ty3) rfl hS (hS.dropAt 9) fun a hE => ?_
    obtain ⟨x98, hx99, hq77⟩ := bindS hq77
    obtain ⟨hi100, hlt101, hy102⟩ := gx_some hx99
    obtain ⟨vs103, hl104, hR105, hd106, hget107⟩ := h_v0.at hy102
    subst hR105
    refine tP (i := 3) hE rfl (by kernel_rfl) (Gives.idx hE ((x0).toNat) rfl rfl sl65 hi100 (by omega) (hS.vecAok 2 rfl (by omega : (x0).toNat < y0.length))) rfl hS (hS.dropAt 9) fun a hE => ?_
    refine tT (i := 4) true rfl hE rfl (by kernel_rfl) (Gives.load1 hE rfl (fun w h => St.vecSees h 2 rfl ((x0).toNat * 1) _ hget107) ty3) rfl hS (hS.dropAt 9) fun a hE => ?_
    refine tP (i := 5) hE rfl (by kernel_rfl) (Gives.p hE rfl) rfl hS (hS.dropAt 9) fun a hE => ?_
    refine Rg.one (i := 6) false true rfl (by kernel_rfl) (by kernel_rfl) (by kernel_rfl) ?_
    refine WL.mapSet keyI hE hS 9 (k := x98) (v := x80) (.inl rfl) (runs_plain rfl) rfl rfl rfl rfl mp167 rfl ?_; clear hE hS a w; intro a w hE hS
    refine WL.nil ?_
    refine ⟨⟨fun h => absurd h (by decide), fun _ => (hS.dropAt 9)⟩, ?_⟩
    refine Rg.done (by kernel_rfl) ?_
    subst hK97
    refine W.gen fun K108 hK108 => ?_
    refine W.regionE (sel (fun w => St w s (pc pb0 #[.slice a_v0 y0.length c_v0] 65 :: pc b55 #[vi x0] 3 :: vecC 3 1 a_v0 c_v0 y0.length cs_v0 :: pc pb1 #[.slice a_y1_0 y1.length c_y1_0] 26 :: pc pb2 #[.func (.func 97) #[] #[pp pb0, pp pb1, pp pb2, pp pb3, pp pb4, pp pb5, pp pb6]] 182 :: pc pb3 #[.map (some b_v1)] 167 :: pc pb4 #[vi q89, vi q90, vi q91] 93 :: pc pb5 #[.slice a_y5_0 y5.Rides.length c_y5_0] 29 :: pc pb6 #[.slice a_y6_0 y6.Day.Trains.length c_y6_0, .slice a_y6_1 y6.Day.Turns.length c_y6_1, vi y6.least] 91 :: mapC keyI.f (Value.int .i64) b_v1 (mput q88 x98 x80) :: R)) (fun w => St w s (pc pb0 #[.slice a_v0 y0.length c_v0] 65 :: pc b55 #[vi x0] 3 :: vecC 3 1 a_v0 c_v0 y0.length cs_v0 :: pc pb1 #[.slice a_y1_0 y1.length c_y1_0] 26 :: pc pb2 #[.func (.func 97) #[] #[pp pb0, pp pb1, pp pb2, pp pb3, pp pb4, pp pb5, pp pb6]] 182 :: pc pb3 #[.map (some b_v1)] 167 :: pc pb5 #[.slice a_y5_0 y5.Rides.length c_y5_0] 29 :: pc pb6 #[.slice a_y6_0 y6.Day.Trains.length c_y6_0, .slice a_y6_1 y6.Day.Turns.length c_y6_1, vi y6.least] 91 :: R))) (fun b i => cond b ([0, 1, 2, 3, 4, 5, 6, 7, 8, 9, 10, 11, 12].contains i) ([0, 1, 2, 3, 4, 5, 6, 7, 8, 9, 10, 11, 12, 13].contains i)) mixed ?_
    replace hS := hS.drew
    refine tT (i := 0) true rfl hE rfl (by kernel_rfl) (Gives.loadB hE 4 rfl rfl rfl ty182) rfl hS ((hS.dropAt 6).dropAt 8) fun a hE => ?_
    have hT := tw_sel (A := fun w => St w s _) (B := fun w => St w s _) (w := _) (x := true) (y := true) (fun _ => hS) (fun _ => ((hS.dropAt 6).dropAt 8))
    have hF := hS; replace hS := ((hS.dropAt 6).dropAt 8)
    refine Rg.take (i := 1) false rfl hE rfl (by kernel_rfl) (runs_plain rfl) (Gives.loadB hE 1 rfl rfl rfl ty3) rfl hT fun a hE => ?_
    replace hS := hF; clear hF hT
    refine tP (i := 2) hE rfl (by kernel_rfl) (Gives.p hE rfl) rfl hS ((hS.dropAt 6).dropAt 8) fun a hE => ?_
    refine tP (i := 3) hE rfl (by kernel_rfl) (Gives.p hE rfl) rfl hS ((hS.dropAt 6).dropAt 8) fun a hE => ?_
    have hT := tw_sel (A := fun w => St w s _) (B := fun w => St w s _) (w := _) (x := true) (y := true) (fun _ => hS) (fun _ => ((hS.dropAt 6).dropAt 8))
    have hF := hS; replace hS := ((hS.dropAt 6).dropAt 8)
    refine Rg.take (i := 4) false rfl hE rfl (by kernel_rfl) (runs_plain rfl) (Gives.loadB hE 3 rfl rfl rfl ty26) rfl hT fun a hE => ?_
    replace hS := hF; clear hF hT
    refine tP (i := 5) hE rfl (by kernel_rfl) (Gives.p hE rfl) rfl hS ((hS.dropAt 6).dropAt 8) fun a hE => ?_
    obtain ⟨x109, hx110, hq77⟩ := bindS hq77
    obtain ⟨hi111, hlt112, hy113⟩ := gx_some hx110
    obtain ⟨cs114, hl115, hR116, hat117⟩ := h_y1_0.at hy113
    obtain ⟨a118, c119, a121, c122, rfl, h120, h123⟩ := hR116
    refine tP (i := 6) hE rfl (by kernel_rfl) (Gives.idx hE (q57).toNat rfl rfl sl26 hi111 hlt112 (h_y1_0.aok hlt112)) rfl hS ((hS.dropAt 6).dropAt 8) fun a hE => ?_
    refine tP (i := 7) hE rfl (by kernel_rfl) (Gives.fld hE rfl fl114_2) rfl hS ((hS.dropAt 6).dropAt 8) fun a hE => ?_
    have hT := tw_sel (A := fun w => St w s _) (B := fun w => St w s _) (w := _) (x := true) (y := true) (fun _ => hS) (fun _ => ((hS.dropAt 6).dropAt 8))
    have hF := hS; replace hS := ((hS.dropAt 6).dropAt 8)
    refine Rg.take (i := 8) false rfl hE rfl (by kernel_rfl) (runs_plain rfl) (Gives.load1 hE rfl (fun w h => (hat117 w _ h).one rfl) ty65) rfl hT fun a hE => ?_
    replace hS := hF; clear hF hT
    refine tP (i := 9) hE rfl (by kernel_rfl) (Gives.p hE rfl) rfl hS ((hS.dropAt 6).dropAt 8) fun a hE => ?_
    obtain ⟨x124, hx125, hq77⟩ := bindS hq77
    obtain ⟨hi126, hlt127, hy128⟩ := gx_some hx125
    obtain ⟨cs129, hl130, hR131, hat132⟩ := h123.at hy128
    subst hR131
    refine tP (i := 10) hE rfl (by kernel_rfl) (Gives.idx hE (((k79 : Nat) : Int)).toNat rfl rfl sl65 hi126 hlt127 (h123.aok hlt127)) rfl hS ((hS.dropAt 6).dropAt 8) fun a hE => ?_
    have hT := tw_sel (A := fun w => St w s _) (B := fun w => St w s _) (w := _) (x := true) (y := true) (fun _ => hS) (fun _ => ((hS.dropAt 6).dropAt 8))
    have hF := hS; replace hS := ((hS.dropAt 6).dropAt 8)
    refine Rg.take (i := 11) false rfl hE rfl (by kernel_rfl) (runs_plain rfl) (Gives.load1 hE rfl (fun w h => hat132 w _ h) ty3) rfl hT fun a hE => ?_
    replace hS := hF; clear hF hT
    refine tP (i := 12) hE rfl (by kernel_rfl) (Gives.p hE rfl) rfl hS ((hS.dropAt 6).dropAt 8) fun a hE => ?_
    refine Rg.one (i := 13) false true rfl (by kernel_rfl) (by kernel_rfl) (by kernel_rfl) ?_
    obtain ⟨q133, hq134, hq77⟩ := bindS hq77
    replace hS := hS.front 9 rfl
    replace hS := hS.front 3 rfl
    replace hS := hS.front 9 rfl
    replace hS := hS.front 9 rfl
    replace hS := hS.front 9 rfl
    replace hS := hS.front 9 rfl
    replace hS := hS.front 9 rfl
    replace hS := hS.front 9 rfl
    replace hS := hS.front 8 rfl
    have hc_ := ih_GuideNetcount_1_v1 (y4 := (GuideCases.mk q89 q90 q91)) (y6 := y6) hS h_v0 (rfl) h_y1_0 h_y5_0 h_y6_0 h_y6_1 hq134
    refine WL.fnw hE (hc_) rfl (runs_plain rfl) bd97 rfl rfl rfl ?_
    clear hE hS hc_; rintro e w ⟨rfl, hS⟩; refine ⟨_, rfl, ?_⟩; clear a; intro a hE
    refine WL.nil ?_
    refine ⟨⟨fun h => absurd h (by decide), fun _ => (St.front (St.front (St.front (St.front (St.front (St.front (St.front (St.front ((hS.dropAt 4).dropAt 7) 5 rfl) 5 rfl) 5 rfl) 5 rfl) 5 rfl) 6 rfl) 7 rfl) 7 rfl)⟩, ?_⟩
    refine Rg.done (by kernel_rfl) ?_
    subst hK108
    refine W.region ?_
    refine vP hS hE (Gives.inc hE rfl (by have := h73.small; omega)) rfl fun a hE => ?_
    refine vp hS hE rfl rfl fun a hE => WL.nil ?_
    replace hS := hS.order [0, 8, 6, 0, 0, 0, 0, 0, 0, 0] rfl
    subst hK92
    exact ⟨rest81.length, Nat.lt_succ_self _, rest81, k79 + 1, q133.1, q133.2.1, q133.2.2.1, q133.2.2.2, rfl, hd82, hq77, hE.pick _ ⟨rfl, rfl, rfl, rfl, rfl, rfl, rfl, rfl, rfl, rfl, trivial⟩, hS⟩
   clear hE hS a w; rintro a w ⟨q88, q89, q90, q91, rfl, hE, hS⟩
   dsimp only at hr
   refine W.ret ?_
   refine finG (fn := Tryz.f97) (rs := []) (vs := []) hE rfl trivial ?_
   obtain rfl := Option.some.inj hr
   replace hS := hS.front 9 rfl
   replace hS := hS.front 3 rfl
   replace hS := hS.front 9 rfl
   replace hS := hS.front 9 rfl
   replace hS := hS.front 9 rfl
   replace hS := hS.front 9 rfl
   replace hS := hS.front 9 rfl
   replace hS := hS.front 9 rfl
   replace hS := hS.front 8 rfl
   replace hS := hS.dropAt 9
   exact ⟨rfl, hS⟩
  replace hr := iteF hc56 hr
  refine W.skip ?_
  refine W.seq (W.region (vP hS hE (Gives.fld hE rfl fl93_1) rfl fun a hE => ?_))
  refine vP hS hE (Gives.loadB hE 5 rfl rfl rfl ty3) rfl fun a hE => ?_
  refine v2 hS hE rfl rfl rfl rfl fun a hE => ?_
  refine vP hS hE (Gives.fld hE rfl fl93_1) rfl fun a hE => ?_
  refine WL.storeI hE hS 5 rfl [vi y4.holds, vi (w64 (y4.all + x1)), vi y4.late] (runs_plain rfl) rfl rfl rfl ty3 rfl rfl rfl rfl ?_; clear hE hS a w; intro a w hE hS
  refine WL.nil ?_
  refine W.seq ?_
  refine W.seq (W.region (vP hS hE (Gives.fld hE rfl fl29_0) rfl fun a hE => ?_))
  refine vP hS hE (Gives.loadB hE 6 rfl rfl rfl ty27) rfl fun a hE => ?_
  refine vP hS hE (Gives.len hE rfl sl27) rfl fun a hE => ?_
  refine vp hS hE rfl rfl fun a hE => WL.nil ?_
  obtain ⟨q136, hq135, hr⟩ := bindS hr
  refine W.cut (fun a w => ∃ (s144 : Sg), s.Le s144 ∧ (.next ()) = q136 ∧ Rep a 129 [(1, vi x1), (5, pp pb3), (6, pp pb4), (7, pp pb5)] ∧ St w s144 (pc b55 #[vi x0] 3 :: pc pb0 #[.slice a_v0 y0.length c_v0] 65 :: pc pb1 #[.slice a_y1_0 y1.length c_y1_0] 26 :: pc pb2 #[.func (.func 97) #[] #[pp pb0, pp pb1, pp pb2, pp pb3, pp pb4, pp pb5, pp pb6]] 182 :: pc pb3 #[.map (some b_v1)] 167 :: pc pb4 #[vi y4.holds, vi (w64 (y4.all + x1)), vi y4.late] 93 :: pc pb5 #[.slice a_y5_0 y5.Rides.length c_y5_0] 29 :: pc pb6 #[.slice a_y6_0 y6.Day.Trains.length c_y6_0, .slice a_y6_1 y6.Day.Turns.length c_y6_1, vi y6.least] 91 :: vecC 3 1 a_v0 c_v0 y0.length cs_v0 :: mapC keyI.f (Value.int .i64) b_v1 y3_0 :: R)) ?_ ?_
  ·refine W.block ?_
   refine W.loop (fun m a w => ∃ (rest139 : List GuideRide) (k137 : Nat), ∃ (s144 : Sg), rest139.length = m ∧ y5.Rides.drop k137 = rest139 ∧ s.Le s144 ∧ GuideNetcount_1_v1.loop2 x1 y3_0 y4 y5 y6 rest139 k137 = some q136 ∧ Rep a 129 [(1, vi x1), (5, pp pb3), (6, pp pb4), (7, pp pb5), (8, pp pb6), (69, .slice a_y5_0 y5.Rides.length c_y5_0), (70, vi ((y5.Rides).length : Int)), (71, vi ((k137 : Nat) : Int))] ∧ St w s144 (pc b55 #[vi x0] 3 :: pc pb0 #[.slice a_v0 y0.length c_v0] 65 :: pc pb1 #[.slice a_y1_0 y1.length c_y1_0] 26 :: pc pb2 #[.func (.func 97) #[] #[pp pb0, pp pb1, pp pb2, pp pb3, pp pb4, pp pb5, pp pb6]] 182 :: pc pb3 #[.map (some b_v1)] 167 :: pc pb4 #[vi y4.holds, vi (w64 (y4.all + x1)), vi y4.late] 93 :: pc pb5 #[.slice a_y5_0 y5.Rides.length c_y5_0] 29 :: pc pb6 #[.slice a_y6_0 y6.Day.Trains.length c_y6_0, .slice a_y6_1 y6.Day.Turns.length c_y6_1, vi y6.least] 91 :: vecC 3 1 a_v0 c_v0 y0.length cs_v0 :: mapC keyI.f (Value.int .i64) b_v1 y3_0 :: R)) (m := y5.Rides.length) ⟨y5.Rides, 0, s, rfl, rfl, (Sg.Le.refl _), hq135, hE.pick _ ⟨rfl, rfl, rfl, rfl, rfl, rfl, rfl, rfl, trivial⟩, hS⟩ ?_
   clear hE hS a w hq135; rintro m143 a w ⟨rest139, k137, s144, rfl, hd140, hle145, hq135, hE, hS⟩
   refine W.gen fun K146 hK146 => ?_
   replace h_y5_0 := Sl.mono RGuideRide.mono hle145 h_y5_0
   replace h_y1_0 := Sl.mono RGuideOdds.mono hle145 h_y1_0
   replace h_y6_0 := Sl.mono RApiTrain.mono hle145 h_y6_0
   replace h_y6_1 := Sl.mono (RL.mono RI.mono) hle145 h_y6_1
   replace h_v0 := Ev.mono RI.mono hle145 h_v0
   rcases rest139 with _ | ⟨x138, rest139⟩
   ·have hlt141 := drop_nil hd140
    refine W.seq (W.region (vp hS hE rfl rfl fun a hE => WL.nil ?_))
    refine W.seq ?_
    refine W.condF hE rfl (decide_eq_false (by omega)) ?_
    subst hK146
    refine W.exit rfl ?_
    exact ⟨s144, hle145, Option.some.inj hq135, hE.pick _ ⟨rfl, rfl, rfl, rfl, trivial⟩, hS⟩
   obtain ⟨hlt141, hx142, hd140⟩ := drop_cons hd140
   rw [GuideNetcount_1_v1.loop2] at hq135
   refine W.seq (W.region (vp hS hE rfl rfl fun a hE => WL.nil ?_))
   refine W.seq ?_
   refine W.condT hE rfl (decide_eq_true (by omega)) ?_
   refine W.skip ?_
   refine W.seq ?_
   refine W.block ?_
   refine W.seq (W.region (vp hS hE rfl rfl fun a hE => ?_))
   obtain ⟨cs147, hl148, hR149, hat150⟩ := h_y5_0.at hx142
   subst hR149
   refine vP hS hE (Gives.idx hE k137 rfl rfl sl27 rfl hlt141 (h_y5_0.aok hlt141)) rfl fun a hE => ?_
   refine vP hS hE (Gives.loadA hE rfl (fun w h => hat150 w _ h) ty95) rfl fun a hE => ?_
   refine WL.alloc hE hS (runs_plain rfl) zr95 rfl ?_; clear hE hS a w; intro b151 a w hE hS
   refine vp hS hE rfl rfl fun a hE => ?_
   refine WL.storeI hE hS 0 rfl (GuideRide.cells x138) (runs_plain rfl) rfl rfl rfl ty95 rfl rfl rfl rfl ?_; clear hE hS a w; intro a w hE hS
   refine WL.nil ?_
   refine W.seq (W.region (v2 hS hE rfl rfl rfl rfl fun a hE => WL.nil ?_))
   obtain ⟨q153, hq152, hq135⟩ := bindS hq135
   refine W.cut (fun a w => ∃ (s154 : Sg), s144.Le s154 ∧ .next () = q153 ∧ Rep a 129 [(1, vi x1), (5, pp pb3), (6, pp pb4), (7, pp pb5), (8, pp pb6), (69, .slice a_y5_0 y5.Rides.length c_y5_0), (70, vi ((y5.Rides).length : Int)), (71, vi ((k137 : Nat) : Int))] ∧ St w s154 (pc b151 (GuideRide.cells x138).toArray 95 :: pc b55 #[vi x0] 3 :: pc pb0 #[.slice a_v0 y0.length c_v0] 65 :: pc pb1 #[.slice a_y1_0 y1.length c_y1_0] 26 :: pc pb2 #[.func (.func 97) #[] #[pp pb0, pp pb1, pp pb2, pp pb3, pp pb4, pp pb5, pp pb6]] 182 :: pc pb3 #[.map (some b_v1)] 167 :: pc pb4 #[vi y4.holds, vi (w64 (y4.all + x1)), vi y4.late] 93 :: pc pb5 #[.slice a_y5_0 y5.Rides.length c_y5_0] 29 :: pc pb6 #[.slice a_y6_0 y6.Day.Trains.length c_y6_0, .slice a_y6_1 y6.Day.Turns.length c_y6_1, vi y6.least] 91 :: vecC 3 1 a_v0 c_v0 y0.length cs_v0 :: mapC keyI.f (Value.int .i64) b_v1 y3_0 :: R)) ?_ ?_
   ·refine W.gen fun K156 hK156 => ?_
    refine W.cond hE rfl (fun hc157 => ?_) (fun hc157 => ?_)
    ·replace hq152 := iteT hc157 hq152
     refine W.seq (W.region (vP hS hE (Gives.fld hE rfl fl29_0) rfl fun a hE => ?_))
     refine vP hS hE (Gives.loadB hE 7 rfl rfl rfl ty27) rfl fun a hE => ?_
     refine v2 hS hE rfl rfl rfl rfl fun a hE => ?_
     obtain ⟨x158, hx159, hq152⟩ := bindS hq152
     obtain ⟨hi160, hlt161, hy162⟩ := gx_some hx159
     obtain ⟨cs163, hl164, hR165, hat166⟩ := h_y5_0.at hy162
     subst hR165
     refine vP hS hE (Gives.idx hE (w64 (((k137 : Nat) : Int) - 1)).toNat rfl rfl sl27 hi160 hlt161 (h_y5_0.aok hlt161)) rfl fun a hE => ?_
     refine vP hS hE (Gives.loadA hE rfl (fun w h => hat166 w _ h) ty95) rfl fun a hE => ?_
     refine WL.alloc hE hS (runs_plain rfl) zr95 rfl ?_; clear hE hS a w; intro b167 a w hE hS
     refine WL.storeI hE hS 0 rfl (GuideRide.cells x158) (runs_plain rfl) rfl rfl rfl ty95 rfl rfl rfl rfl ?_; clear hE hS a w; intro a w hE hS
     refine WL.nil ?_
     refine W.seq ?_
     refine W.gen fun K168 hK168 => ?_
     refine W.regionE (dup (fun w => St w s144 (pc b167 (GuideRide.cells x158).toArray 95 :: pc b151 (GuideRide.cells x138).toArray 95 :: pc b55 #[vi x0] 3 :: pc pb0 #[.slice a_v0 y0.length c_v0] 65 :: pc pb1 #[.slice a_y1_0 y1.length c_y1_0] 26 :: pc pb2 #[.func (.func 97) #[] #[pp pb0, pp pb1, pp pb2, pp pb3, pp pb4, pp pb5, pp pb6]] 182 :: pc pb3 #[.map (some b_v1)] 167 :: pc pb4 #[vi y4.holds, vi (w64 (y4.all + x1)), vi y4.late] 93 :: pc pb5 #[.slice a_y5_0 y5.Rides.length c_y5_0] 29 :: pc pb6 #[.slice a_y6_0 y6.Day.Trains.length c_y6_0, .slice a_y6_1 y6.Day.Turns.length c_y6_1, vi y6.least] 91 :: vecC 3 1 a_v0 c_v0 y0.length cs_v0 :: mapC keyI.f (Value.int .i64) b_v1 y3_0 :: R))) (fun b i => cond b ([0, 1, 2, 3, 4, 5, 6, 7, 8, 9, 10, 11, 12, 13, 14, 15, 16, 17, 18, 19, 20, 21].contains i) ([0, 1, 2, 3, 4, 5, 6, 7, 8, 9, 10, 11, 12, 13, 14, 15, 16, 17, 18, 19, 20, 21].contains i)) mixed ?_
     replace hS := hS.drew
     refine tT (i := 0) true rfl hE rfl (by kernel_rfl) (Gives.loadBA hE 9 rfl rfl ty91) rfl hS hS fun a hE => ?_
     have hT := tw_sel (A := fun w => St w s144 _) (B := fun w => St w s144 _) (w := _) (x := true) (y := true) (fun _ => hS) (fun _ => hS)
     have hF := hS; replace hS := hS
     refine Rg.take (i := 1) true rfl hE rfl (by kernel_rfl) (runs_plain rfl) (Gives.loadBA hE 0 rfl rfl ty95) rfl hT fun a hE => ?_
     replace hS := hF; clear hF hT
     refine tT (i := 4) true rfl hE rfl (by kernel_rfl) (Gives.loadB hE 6 rfl rfl rfl ty167) rfl hS hS fun a hE => ?_
     refine tP (i := 5) hE rfl (by kernel_rfl) (Gives.fld hE rfl fl95_0) rfl hS hS fun a hE => ?_
     refine tT (i := 6) true rfl hE rfl (by kernel_rfl) (Gives.loadB hE 0 rfl rfl rfl ty3) rfl hS hS fun a hE => ?_
     have hT := tw_sel (A := fun w => St w s144 _) (B := fun w => St w s144 _) (w := _) (x := true) (y := true) (fun _ => hS) (fun _ => hS)
     have hF := hS; replace hS := hS
     refine Rg.take (i := 7) true rfl hE rfl (by kernel_rfl) (runs_plain rfl) (Gives.mapGet keyI hE 11 (k := x158.Train) (z := 0) rfl rfl rfl mp167 zm3) rfl hT fun a hE => ?_
     replace hS := hF; clear hF hT
     refine tP (i := 9) hE rfl (by kernel_rfl) (Gives.fld hE rfl fl91_1) rfl hS hS fun a hE => ?_
     refine tT (i := 10) true rfl hE rfl (by kernel_rfl) (Gives.loadB hE 9 rfl rfl rfl ty3) rfl hS hS fun a hE => ?_
     have hT := tw_sel (A := fun w => St w s144 _) (B := fun w => St w s144 _) (w := _) (x := true) (y := true) (fun _ => hS) (fun _ => hS)
     have hF := hS; replace hS := hS
     refine Rg.take (i := 12) true rfl hE rfl (by kernel_rfl) (runs_plain rfl) (Gives.loadBA hE 9 rfl rfl ty91) rfl hT fun a hE => ?_
     replace hS := hF; clear hF hT
     refine tT (i := 13) true rfl hE rfl (by kernel_rfl) (Gives.loadBA hE 1 rfl rfl ty95) rfl hS hS fun a hE => ?_
     have hT := tw_sel (A := fun w => St w s144 _) (B := fun w => St w s144 _) (w := _) (x := true) (y := true) (fun _ => hS) (fun _ => hS)
     have hF := hS; replace hS := hS
     refine Rg.take (i := 16) true rfl hE rfl (by kernel_rfl) (runs_plain rfl) (Gives.loadB hE 6 rfl rfl rfl ty167) rfl hT fun a hE => ?_
     replace hS := hF; clear hF hT
     refine tP (i := 17) hE rfl (by kernel_rfl) (Gives.fld hE rfl fl95_0) rfl hS hS fun a hE => ?_
     refine tT (i := 18) true rfl hE rfl (by kernel_rfl) (Gives.loadB hE 1 rfl rfl rfl ty3) rfl hS hS fun a hE => ?_
     have hT := tw_sel (A := fun w => St w s144 _) (B := fun w => St w s144 _) (w := _) (x := true) (y := true) (fun _ => hS) (fun _ => hS)
     have hF := hS; replace hS := hS
     refine Rg.take (i := 19) true rfl hE rfl (by kernel_rfl) (runs_plain rfl) (Gives.mapGet keyI hE 11 (k := x138.Train) (z := 0) rfl rfl rfl mp167 zm3) rfl hT fun a hE => ?_
     replace hS := hF; clear hF hT
     refine Rg.one (i := 2) true true rfl (by kernel_rfl) (by kernel_rfl) (by kernel_rfl) ?_
     obtain ⟨q169, hq170, hq152⟩ := bindS hq152
     have hc_ := GuideNetoff_ok hS h_y6_0 h_y6_1 hq170
     refine WL.fnq hE (hc_) (runs_plain rfl) bd43 rfl rfl rfl ?_
     clear hE hS hc_; rintro e w ⟨cs171, s173, rfl, hle174, h172, hS⟩; refine ⟨_, rfl, ?_⟩; clear a; intro a hE
     replace h_y5_0 := Sl.mono RGuideRide.mono hle174 h_y5_0
     replace h_y6_0 := Sl.mono RApiTrain.mono hle174 h_y6_0
     replace h_y6_1 := Sl.mono (RL.mono RI.mono) hle174 h_y6_1
     replace h_y1_0 := Sl.mono RGuideOdds.mono hle174 h_y1_0
     replace h_v0 := Ev.mono RI.mono hle174 h_v0
     subst h172
     refine WL.nil ?_
     refine ⟨⟨fun _ => (St.down hle174 hS), fun _ => (St.down hle174 hS)⟩, ?_⟩
     refine tP (i := 3) hE rfl (by kernel_rfl) (Gives.field1 hE rfl fd99_2 ty3 rfl) rfl (St.down hle174 hS) (St.down hle174 hS) fun a hE => ?_
     refine tP (i := 8) hE rfl (by kernel_rfl) (Gives.p hE rfl) rfl (St.down hle174 hS) (St.down hle174 hS) fun a hE => ?_
     refine tP (i := 11) hE rfl (by kernel_rfl) (Gives.p hE rfl) rfl (St.down hle174 hS) (St.down hle174 hS) fun a hE => ?_
     refine Rg.one (i := 14) true true rfl (by kernel_rfl) (by kernel_rfl) (by kernel_rfl) ?_
     obtain ⟨q175, hq176, hq152⟩ := bindS hq152
     have hc_ := GuideNeton_ok hS h_y6_0 h_y6_1 hq176
     refine WL.fnq hE (hc_) (runs_plain rfl) bd44 rfl rfl rfl ?_
     clear hE hS hc_; rintro e w ⟨cs177, s179, rfl, hle180, h178, hS⟩; refine ⟨_, rfl, ?_⟩; clear a; intro a hE
     replace h_y5_0 := Sl.mono RGuideRide.mono hle180 h_y5_0
     replace h_y6_0 := Sl.mono RApiTrain.mono hle180 h_y6_0
     replace h_y6_1 := Sl.mono (RL.mono RI.mono) hle180 h_y6_1
     replace h_y1_0 := Sl.mono RGuideOdds.mono hle180 h_y1_0
     replace h_v0 := Ev.mono RI.mono hle180 h_v0
     subst h178
     refine WL.nil ?_
     refine ⟨⟨fun _ => (St.down (Sg.Le.trans hle174 hle180) hS), fun _ => (St.down (Sg.Le.trans hle174 hle180) hS)⟩, ?_⟩
     refine tP (i := 15) hE rfl (by kernel_rfl) (Gives.field1 hE rfl fd99_3 ty3 rfl) rfl (St.down (Sg.Le.trans hle174 hle180) hS) (St.down (Sg.Le.trans hle174 hle180) hS) fun a hE => ?_
     refine tP (i := 20) hE rfl (by kernel_rfl) (Gives.p hE rfl) rfl (St.down (Sg.Le.trans hle174 hle180) hS) (St.down (Sg.Le.trans hle174 hle180) hS) fun a hE => ?_
     refine tP (i := 21) hE rfl (by kernel_rfl) (Gives.p hE rfl) rfl (St.down (Sg.Le.trans hle174 hle180) hS) (St.down (Sg.Le.trans hle174 hle180) hS) fun a hE => ?_
     refine Rg.done (by kernel_rfl) ?_
     subst hK168
     refine W.cond hE rfl (fun hc181 => ?_) (fun hc181 => ?_)
     ·replace hq152 := iteT hc181 hq152
      refine W.ret ?_
      subst hK156
      subst hK146
      rw [← Option.some.inj hq152] at hq135
      dsimp only at hq135
      rw [← Option.some.inj hq135] at hr
      dsimp only at hr
      refine finG (fn := Tryz.f97) (rs := []) (vs := []) hE rfl trivial ?_
      obtain rfl := Option.some.inj hr
      replace hS := hS.tail
      replace hS := hS.tail
      replace hS := hS.tail
      exact ⟨rfl, (hS.down (Sg.Le.trans (Sg.Le.trans hle145 hle174) hle180))⟩
     replace hq152 := iteF hc181 hq152
     refine W.skip ?_
     replace hS := hS.tail
     subst hK156
     exact ⟨s179, (Sg.Le.trans hle174 hle180), Option.some.inj hq152, hE.pick _ ⟨rfl, rfl, rfl, rfl, rfl, rfl, rfl, rfl, trivial⟩, hS⟩
    replace hq152 := iteF hc157 hq152
    refine W.skip ?_
    subst hK156
    exact ⟨s144, (Sg.Le.refl _), Option.some.inj hq152, hE.pick _ ⟨rfl, rfl, rfl, rfl, rfl, rfl, rfl, rfl, trivial⟩, hS⟩
   clear hE hS a w; rintro a w ⟨s154, hle155, rfl, hE, hS⟩
   dsimp only at hq135
   replace h_y5_0 := Sl.mono RGuideRide.mono hle155 h_y5_0
   replace h_y1_0 := Sl.mono RGuideOdds.mono hle155 h_y1_0
   replace h_y6_0 := Sl.mono RApiTrain.mono hle155 h_y6_0
   replace h_y6_1 := Sl.mono (RL.mono RI.mono) hle155 h_y6_1
   replace h_v0 := Ev.mono RI.mono hle155 h_v0
   refine W.region ?_
   refine vP hS hE (Gives.inc hE rfl (by have := h_y5_0.small; omega)) rfl fun a hE => ?_
   refine vp hS hE rfl rfl fun a hE => WL.nil ?_
   replace hS := hS.tail
   subst hK146
   exact ⟨rest139.length, Nat.lt_succ_self _, rest139, k137 + 1, s154, rfl, hd140, (Sg.Le.trans hle145 hle155), hq135, hE.pick _ ⟨rfl, rfl, rfl, rfl, rfl, rfl, rfl, rfl, trivial⟩, hS⟩
  clear hE hS a w; rintro a w ⟨s144, hle145, rfl, hE, hS⟩
  dsimp only at hr
  replace h_y5_0 := Sl.mono RGuideRide.mono hle145 h_y5_0
  replace h_y1_0 := Sl.mono RGuideOdds.mono hle145 h_y1_0
  replace h_y6_0 := Sl.mono RApiTrain.mono hle145 h_y6_0
  replace h_y6_1 := Sl.mono (RL.mono RI.mono) hle145 h_y6_1
  replace h_v0 := Ev.mono RI.mono hle145 h_v0
  refine W.seq (W.region (vP hS hE (Gives.fld hE rfl fl93_0) rfl fun a hE => ?_))
  refine vP hS hE (Gives.loadB hE 5 rfl rfl rfl ty3) rfl fun a hE => ?_
  refine v2 hS hE rfl rfl rfl rfl fun a hE => ?_
  refine vP hS hE (Gives.fld hE rfl fl93_0) rfl fun a hE => ?_
  refine WL.storeI hE hS 5 rfl [vi (w64 (y4.holds + x1)), vi (w64 (y4.all + x1)), vi y4.late] (runs_plain rfl) rfl rfl rfl ty3 rfl rfl rfl rfl ?_; clear hE hS a w; intro a w hE hS
  refine WL.nil ?_
  refine W.gen fun K182 hK182 => ?_
  refine W.regionE (sel (fun w => St w s144 (pc b55 #[vi x0] 3 :: pc pb0 #[.slice a_v0 y0.length c_v0] 65 :: pc pb1 #[.slice a_y1_0 y1.length c_y1_0] 26 :: pc pb2 #[.func (.func 97) #[] #[pp pb0, pp pb1, pp pb2, pp pb3, pp pb4, pp pb5, pp pb6]] 182 :: pc pb3 #[.map (some b_v1)] 167 :: pc pb4 #[vi (w64 (y4.holds + x1)), vi (w64 (y4.all + x1)), vi y4.late] 93 :: pc pb5 #[.slice a_y5_0 y5.Rides.length c_y5_0] 29 :: pc pb6 #[.slice a_y6_0 y6.Day.Trains.length c_y6_0, .slice a_y6_1 y6.Day.Turns.length c_y6_1, vi y6.least] 91 :: vecC 3 1 a_v0 c_v0 y0.length cs_v0 :: mapC keyI.f (Value.int .i64) b_v1 y3_0 :: R)) (fun w => St w s144 (pc b55 #[vi x0] 3 :: pc pb0 #[.slice a_v0 y0.length c_v0] 65 :: pc pb1 #[.slice a_y1_0 y1.length c_y1_0] 26 :: pc pb2 #[.func (.func 97) #[] #[pp pb0, pp pb1, pp pb2, pp pb3, pp pb4, pp pb5, pp pb6]] 182 :: pc pb3 #[.map (some b_v1)] 167 :: pc pb5 #[.slice a_y5_0 y5.Rides.length c_y5_0] 29 :: pc pb6 #[.slice a_y6_0 y6.Day.Trains.length c_y6_0, .slice a_y6_1 y6.Day.Turns.length c_y6_1, vi y6.least] 91 :: vecC 3 1 a_v0 c_v0 y0.length cs_v0 :: mapC keyI.f (Value.int .i64) b_v1 y3_0 :: R))) (fun b i => cond b ([0, 1, 2, 3, 4, 5, 6, 7, 8, 9, 10, 11, 12, 13, 14, 15, 16].contains i) ([0, 1, 2, 3, 4, 5, 6, 7, 8, 9, 10, 11, 12, 13, 14, 15, 16, 17].contains i)) mixed ?_
  replace hS := hS.drew
  refine tP (i := 0) hE rfl (by kernel_rfl) (Gives.fld hE rfl fl93_2) rfl hS (hS.dropAt 5) fun a hE => ?_
  refine tT (i := 1) true rfl hE rfl (by kernel_rfl) (Gives.loadB hE 5 rfl rfl rfl ty3) rfl hS (hS.dropAt 5) fun a hE => ?_
  refine tP (i := 2) hE rfl (by kernel_rfl) (Gives.p hE rfl) rfl hS (hS.dropAt 5) fun a hE => ?_
  refine tT (i := 3) true rfl hE rfl (by kernel_rfl) (Gives.loadB hE 4 rfl rfl rfl ty167) rfl hS (hS.dropAt 5) fun a hE => ?_
  refine tP (i := 4) hE rfl (by kernel_rfl) (Gives.fld hE rfl fl29_0) rfl hS (hS.dropAt 5) fun a hE => ?_
  refine tT (i := 5) true rfl hE rfl (by kernel_rfl) (Gives.loadB hE 6 rfl rfl rfl ty27) rfl hS (hS.dropAt 5) fun a hE => ?_
  refine tP (i := 6) hE rfl (by kernel_rfl) (Gives.fld hE rfl fl29_0) rfl hS (hS.dropAt 5) fun a hE => ?_
  refine tT (i := 7) true rfl hE rfl (by kernel_rfl) (Gives.loadB hE 6 rfl rfl rfl ty27) rfl hS (hS.dropAt 5) fun a hE => ?_
  refine tP (i := 8) hE rfl (by kernel_rfl) (Gives.len hE rfl sl27) rfl hS (hS.dropAt 5) fun a hE => ?_
  refine tP (i := 9) hE rfl (by kernel_rfl) (Gives.p hE rfl) rfl hS (hS.dropAt 5) fun a hE => ?_
  obtain ⟨x183, hx184, hr⟩ := bindS hr
  obtain ⟨hi185, hlt186, hy187⟩ := gx_some hx184
  obtain ⟨cs188, hl189, hR190, hat191⟩ := h_y5_0.at hy187
  subst hR190
  refine tP (i := 10) hE rfl (by kernel_rfl) (Gives.idx hE (w64 (((y5.Rides).length : Int) - 1)).toNat rfl rfl sl27 hi185 hlt186 (h_y5_0.aok hlt186)) rfl hS (hS.dropAt 5) fun a hE => ?_
  refine tP (i := 11) hE rfl (by kernel_rfl) (Gives.fld hE rfl fl95_0) rfl hS (hS.dropAt 5) fun a hE => ?_
  refine tT (i := 12) true rfl hE rfl (by kernel_rfl) (Gives.load1 hE rfl (fun w h => (hat191 w _ h).one rfl) ty3) rfl hS (hS.dropAt 5) fun a hE => ?_
  have hT := tw_sel (A := fun w => St w s144 _) (B := fun w => St w s144 _) (w := _) (x := true) (y := true) (fun _ => hS) (fun _ => (hS.dropAt 5))
  have hF := hS; replace hS := hS
  refine Rg.take (i := 13) true rfl hE rfl (by kernel_rfl) (runs_plain rfl) (Gives.mapGet keyI hE 9 (k := x183.Train) (z := 0) rfl rfl rfl mp167 zm3) rfl hT fun a hE => ?_
  replace hS := hF; clear hF hT
  refine tP (i := 14) hE rfl (by kernel_rfl) (Gives.p hE rfl) rfl hS (hS.dropAt 5) fun a hE => ?_
  refine tP (i := 15) hE rfl (by kernel_rfl) (Gives.p hE rfl) rfl hS (hS.dropAt 5) fun a hE => ?_
  refine tP (i := 16) hE rfl (by kernel_rfl) (Gives.fld hE rfl fl93_2) rfl hS (hS.dropAt 5) fun a hE => ?_
  refine Rg.one (i := 17) false true rfl (by kernel_rfl) (by kernel_rfl) (by kernel_rfl) ?_
  refine WL.storeI hE hS 5 rfl [vi (w64 (y4.holds + x1)), vi (w64 (y4.all + x1)), vi (w64 (y4.late + (w64 (x1 * ((mget y3_0 x183.Train).getD 0)))))] (runs_plain rfl) rfl rfl rfl ty3 rfl rfl rfl rfl ?_; clear hE hS a w; intro a w hE hS
  refine WL.nil ?_
  refine ⟨⟨fun h => absurd h (by decide), fun _ => (hS.dropAt 5)⟩, ?_⟩
  refine Rg.done (by kernel_rfl) ?_
  subst hK182
  refine finG (fn := Tryz.f97) (rs := []) (vs := []) hE rfl trivial ?_
  obtain rfl := Option.some.inj hr
  replace hS := hS.tail
  exact ⟨rfl, (hS.down hle145)⟩
set_option maxHeartbeats 8000000 in
theorem GuideNetcount_ok {fu : Nat}  {w : World} {s : Sg} {R : List HP} {x0 : GuideNet} {a0_0 : Option Addr} {c0_0 : Nat} {a0_1 : Option Addr} {c0_1 : Nat} {x1 : GuideJourney} {a1_0 : Option Addr} {c1_0 : Nat} {x2 : List GuideOdds} {a2 : Option Addr} {c2 : Nat} (hS : St w s (R)) (h0_0 : Sl 4 RApiTrain s a0_0 c0_0 x0.Day.Trains) (h0_1 : Sl 1 (RL 1 (RI .i64)) s a0_1 c0_1 x0.Day.Turns) (h1_0 : Sl 3 RGuideRide s a1_0 c1_0 x1.Rides) (h2 : Sl 3 RGuideOdds s a2 c2 x2) {r : GuideCases} (hr : GuideNetcount fu x0 x1 x2 = some r) :
  Calls Tryz.prog 46 [.agg [.slice a0_0 x0.Day.Trains.length c0_0, .slice a0_1 x0.Day.Turns.length c0_1, vi x0.least].toArray, .agg [.slice a1_0 x1.Rides.length c1_0].toArray, .slice a2 x2.length c2].toArray w (fun e w => ∃ (cs0 : List Value) (t : Sg), e = .returned (.agg cs0.toArray) ∧ s.Le t ∧ RGuideCases t cs0 r ∧ St w t (R)) := by
 refine enter Tryz.func46 rfl rfl rfl fun a hE => ?_
 rw [GuideNetcount] at hr
 refine W.seq (W.region ?_)
 refine WL.box hE hS (runs_plain rfl) rfl rfl rfl ?_; clear hE hS a w; intro b51 a w hE hS
 refine WL.box hE hS (runs_plain rfl) rfl rfl rfl ?_; clear hE hS a w; intro b52 a w hE hS
 refine WL.box hE hS (runs_plain rfl) rfl rfl rfl ?_; clear hE hS a w; intro b53 a w hE hS
 refine WL.alloc hE hS (runs_plain rfl) zr93 rfl ?_; clear hE hS a w; intro b54 a w hE hS
 refine WL.nil ?_
 refine W.seq (W.region ?_)
 refine WL.alloc hE hS (runs_plain rfl) zr65 rfl ?_; clear hE hS a w; intro b55 a w hE hS
 refine WL.nil ?_
 refine W.seq ?_
 refine W.seq (W.region (vP hS hE (Gives.fld hE rfl fl29_0) rfl fun a hE => ?_))
 refine vP hS hE (Gives.loadB hE 3 rfl rfl rfl ty27) rfl fun a hE => ?_
 refine vP hS hE (Gives.len hE rfl sl27) rfl fun a hE => ?_
 refine vp hS hE rfl rfl fun a hE => WL.nil ?_
 replace hS := hS.vecNil 3 1
 obtain ⟨q58, hq57, hr⟩ := bindS hr
 refine W.cut (fun a w => ∃ (q68 : List Int), ∃ (a69 : Option Addr), ∃ (c70 : Nat), ∃ (n72 : Nat), ∃ (cs73 : List Value), q68 = q58 ∧ Ev 1 (RI .i64) s cs73 q68 ∧ q68.length = n72 ∧ Rep a 36 [(3, pp b51), (4, pp b52), (5, pp b53), (6, pp b54), (7, pp b55)] ∧ St w s (vecC 3 1 a69 c70 n72 cs73 :: pc b55 #[.slice a69 n72 c70] 65 :: pc b54 #[vi 0, vi 0, vi 0] 93 :: pc b53 #[.slice a2 x2.length c2] 26 :: pc b52 #[.slice a1_0 x1.Rides.length c1_0] 29 :: pc b51 #[.slice a0_0 x0.Day.Trains.length c0_0, .slice a0_1 x0.Day.Turns.length c0_1, vi x0.least] 91 :: R)) ?_ ?_
 ·refine W.block ?_
  refine W.loop (fun m a w => ∃ (rest61 : List GuideRide) (k59 : Nat), ∃ (q68 : List Int), ∃ (a69 : Option Addr), ∃ (c70 : Nat), ∃ (n72 : Nat), ∃ (cs73 : List Value), rest61.length = m ∧ x1.Rides.drop k59 = rest61 ∧ GuideNetcount.loop1 rest61 q68 = some q58 ∧ Ev 1 (RI .i64) s cs73 q68 ∧ q68.length = n72 ∧ Rep a 36 [(3, pp b51), (4, pp b52), (5, pp b53), (6, pp b54), (7, pp b55), (14, .slice a1_0 x1.Rides.length c1_0), (15, vi ((x1.Rides).length : Int)), (16, vi ((k59 : Nat) : Int))] ∧ St w s (vecC 3 1 a69 c70 n72 cs73 :: pc b55 #[.slice a69 n72 c70] 65 :: pc b54 #[vi 0, vi 0, vi 0] 93 :: pc b53 #[.slice a2 x2.length c2] 26 :: pc b52 #[.slice a1_0 x1.Rides.length c1_0] 29 :: pc b51 #[.slice a0_0 x0.Day.Trains.length c0_0, .slice a0_1 x0.Day.Turns.length c0_1, vi x0.least] 91 :: R)) (m := x1.Rides.length) ⟨x1.Rides, 0, [], none, 0, 0, [], rfl, rfl, hq57, (Ev.nil), (rfl), hE.pick _ ⟨rfl, rfl, rfl, rfl, rfl, rfl, rfl, rfl, trivial⟩, hS⟩ ?_
  clear hE hS a w hq57; rintro m65 a w ⟨rest61, k59, q68, a69, c70, n72, cs73, rfl, hd62, hq57, h71, rfl, hE, hS⟩
  refine W.gen fun K75 hK75 => ?_
  rcases rest61 with _ | ⟨x60, rest61⟩
  ·have hlt63 := drop_nil hd62
   refine W.seq (W.region (vp hS hE rfl rfl fun a hE => WL.nil ?_))
   refine W.seq ?_
   refine W.condF hE rfl (decide_eq_false (by omega)) ?_
   subst hK75
   refine W.exit rfl ?_
   exact ⟨q68, a69, c70, q68.length, cs73, Option.some.inj hq57, h71, rfl, hE.pick _ ⟨rfl, rfl, rfl, rfl, rfl, trivial⟩, hS⟩
  obtain ⟨hlt63, hx64, hd62⟩ := drop_cons hd62
  rw [GuideNetcount.loop1] at hq57
  refine W.seq (W.region (vp hS hE rfl rfl fun a hE => WL.nil ?_))
  refine W.seq ?_
  refine W.condT hE rfl (decide_eq_true (by omega)) ?_
  refine W.skip ?_
  refine W.seq ?_
  refine W.block ?_
  refine W.seq (W.region ?_)
  obtain ⟨cs76, hl77, hR78, hat79⟩ := h1_0.at hx64
  subst hR78
  refine vP hS hE (Gives.idx hE k59 rfl rfl sl27 rfl hlt63 (h1_0.aok hlt63)) rfl fun a hE => ?_
  refine vP hS hE (Gives.loadA hE rfl (fun w h => hat79 w _ h) ty95) rfl fun a hE => ?_
  refine WL.alloc hE hS (runs_plain rfl) zr95 rfl ?_; clear hE hS a w; intro b80 a w hE hS
  refine WL.storeI hE hS 0 rfl (GuideRide.cells x60) (runs_plain rfl) rfl rfl rfl ty95 rfl rfl rfl rfl ?_; clear hE hS a w; intro a w hE hS
  refine WL.nil ?_
  refine W.seq (W.region (vP hS hE (Gives.loadB hE 2 rfl rfl rfl ty65) rfl fun a hE => ?_))
  refine vP hS hE (Gives.fld hE rfl fl95_0) rfl fun a hE => ?_
  refine vP hS hE (Gives.loadB hE 0 rfl rfl rfl ty3) rfl fun a hE => ?_
  have hF := hS.lendV RI.mono 1 rfl h71 rfl; clear hS; obtain ⟨t81, hle82, hS, hs83, bk84⟩ := hF
  refine WL.fnq hE (SlicesContainsLint_ok hS hs83 rfl (r := SlicesContainsLint q68 x60.Train)) (runs_plain rfl) bd96 rfl rfl rfl ?_
  clear hE hS; rintro e w ⟨rfl, hS⟩; refine ⟨_, rfl, ?_⟩; clear a; intro a hE
  replace hS := bk84 _ _ hS
  refine vp hS hE rfl rfl fun a hE => WL.nil ?_
  obtain ⟨q86, hq85, hq57⟩ := bindS hq57
  refine W.cut (fun a w => ∃ (q89 : List Int), ∃ (a90 : Option Addr), ∃ (c91 : Nat), ∃ (n93 : Nat), ∃ (cs94 : List Value), q89 = q86 ∧ Ev 1 (RI .i64) s cs94 q89 ∧ q89.length = n93 ∧ Rep a 36 [(3, pp b51), (4, pp b52), (5, pp b53), (6, pp b54), (7, pp b55), (14, .slice a1_0 x1.Rides.length c1_0), (15, vi ((x1.Rides).length : Int)), (16, vi ((k59 : Nat) : Int))] ∧ St w s (vecC 3 1 a90 c91 n93 cs94 :: pc b80 (GuideRide.cells x60).toArray 95 :: pc b55 #[.slice a90 n93 c91] 65 :: pc b54 #[vi 0, vi 0, vi 0] 93 :: pc b53 #[.slice a2 x2.length c2] 26 :: pc b52 #[.slice a1_0 x1.Rides.length c1_0] 29 :: pc b51 #[.slice a0_0 x0.Day.Trains.length c0_0, .slice a0_1 x0.Day.Turns.length c0_1, vi x0.least] 91 :: R)) ?_ ?_
  ·refine W.gen fun K96 hK96 => ?_
   refine W.cond hE rfl (fun hc97 => ?_) (fun hc97 => ?_)
   ·replace hq85 := iteT hc97 hq85
    refine W.region ?_
    refine vP hS hE (Gives.loadB hE 2 rfl rfl rfl ty65) rfl fun a hE => ?_
    refine vP hS hE (Gives.fld hE rfl fl95_0) rfl fun a hE => ?_
    refine vP hS hE (Gives.loadB hE 1 rfl rfl rfl ty3) rfl fun a hE => ?_
    refine WL.lit hE hS (e := 3) (es := 1) (vs := [(0, vi x60.Train)]) (cs := [vi x60.Train]) (runs_plain rfl) rfl (by kernel_rfl) rfl ?_; clear hE hS a w; intro b98 a w hE hS
    obtain ⟨x99, hx100, hq85⟩ := bindS hq85
    refine WL.appD hE hS 0 (m := 1) (runs_plain rfl) rfl rfl rfl ap65 rfl h71 rfl (xs := [x60.Train]) (Ev.cons (c1 := [vi x60.Train]) rfl rfl (Ev.nil)) rfl rfl hx100 rfl ?_; clear hE hS a w; intro a101 c102 cs103 a w h104 hE hS
    refine WL.storeI hE hS 2 rfl [.slice a101 x99.length c102] (runs_plain rfl) rfl rfl rfl ty65 rfl rfl rfl rfl ?_; clear hE hS a w; intro a w hE hS
    refine WL.nil ?_
    subst hK96
    exact ⟨x99, a101, c102, x99.length, cs103, Option.some.inj hq85, h104, (rfl), hE.pick _ ⟨rfl, rfl, rfl, rfl, rfl, rfl, rfl, rfl, trivial⟩, hS⟩
   replace hq85 := iteF hc97 hq85
   refine W.skip ?_
   subst hK96
   exact ⟨q68, a69, c70, q68.length, cs73, Option.some.inj hq85, h71, rfl, hE.pick _ ⟨rfl, rfl, rfl, rfl, rfl, rfl, rfl, rfl, trivial⟩, hS⟩
  clear hE hS a w; rintro a w ⟨q89, a90, c91, n93, cs94, rfl, h92, rfl, hE, hS⟩
  refine W.region ?_
  refine vP hS hE (Gives.inc hE rfl (by have := h1_0.small; omega)) rfl fun a hE => ?_
  refine vp hS hE rfl rfl fun a hE => WL.nil ?_
  replace hS := hS.dropAt 1
  subst hK75
  exact ⟨rest61.length, Nat.lt_succ_self _, rest61, k59 + 1, q89, a90, c91, q89.length, cs94, rfl, hd62, hq57, h92, rfl, hE.pick _ ⟨rfl, rfl, rfl, rfl, rfl, rfl, rfl, rfl, trivial⟩, hS⟩
 clear hE hS a w; rintro a w ⟨q68, a69, c70, n72, cs73, rfl, h71, rfl, hE, hS⟩
 refine W.seq (W.region ?_)
 refine WL.mkMap (fk := keyI.f) (fv := (Value.int .i64)) hE hS (runs_plain rfl) rfl ?_; clear hE hS a w; intro b105 a w hE hS
 refine WL.alloc hE hS (runs_plain rfl) zr167 rfl ?_; clear hE hS a w; intro b106 a w hE hS
 refine WL.storeI hE hS 0 rfl [.map (some b105)] (runs_plain rfl) rfl rfl rfl ty167 rfl rfl rfl rfl ?_; clear hE hS a w; intro a w hE hS
 refine WL.nil ?_
 refine W.seq (W.region ?_)
 refine WL.alloc hE hS (runs_plain rfl) zr93 rfl ?_; clear hE hS a w; intro b107 a w hE hS
 refine WL.nil ?_
 refine W.seq (W.region ?_)
 refine WL.alloc hE hS (runs_plain rfl) zr182 rfl ?_; clear hE hS a w; intro b108 a w hE hS
 refine WL.nil ?_
 refine W.seq (W.region (vP hS hE (Gives.mkfn hE (vs := [pp b55, pp b53, pp b108, pp b106, pp b107, pp b52, pp b51]) rfl) rfl fun a hE => ?_))
 refine WL.storeI hE hS 0 rfl [.func (.func 97) #[] #[pp b55, pp b53, pp b108, pp b106, pp b107, pp b52, pp b51]] (runs_plain rfl) rfl rfl rfl ty182 rfl rfl rfl rfl ?_; clear hE hS a w; intro a w hE hS
 refine WL.nil ?_
 refine W.seq (W.region (vP hS hE (Gives.loadB hE 0 rfl rfl rfl ty182) rfl fun a hE => ?_))
 obtain ⟨q109, hq110, hr⟩ := bindS hr
 replace hS := hS.front 3 rfl
 replace hS := hS.front 4 rfl
 replace hS := hS.front 9 rfl
 replace hS := hS.front 9 rfl
 replace hS := hS.front 5 rfl
 replace hS := hS.front 6 rfl
 replace hS := hS.front 6 rfl
 replace hS := hS.front 9 rfl
 replace hS := hS.front 8 rfl
 have hc_ := GuideNetcount_1_v1_ok (y4 := (GuideCases.mk 0 0 0)) (y6 := x0) hS h71 rfl h2 h1_0 h0_0 h0_1 hq110
 refine WL.fnw hE (hc_) rfl (runs_plain rfl) bd97 rfl rfl rfl ?_
 clear hE hS hc_; rintro e w ⟨rfl, hS⟩; refine ⟨_, rfl, ?_⟩; clear a; intro a hE
 refine WL.nil ?_
 refine W.seq (W.region (vP hS hE (Gives.loadBA hE 4 rfl rfl ty93) rfl fun a hE => ?_))
 refine WL.storeI hE hS 9 rfl [vi q109.2.1, vi q109.2.2.1, vi q109.2.2.2] (runs_plain rfl) rfl rfl rfl ty93 rfl rfl rfl rfl ?_; clear hE hS a w; intro a w hE hS
 refine WL.nil ?_
 refine W.ret ?_
 refine finG (fn := Tryz.f46) (rs := [.cell 6 93]) (vs := [_]) hE rfl ⟨⟨_, rfl, .inl ⟨_, rfl, hS.seesAt 9 rfl, ty93⟩⟩, trivial⟩ ?_
 obtain rfl := Option.some.inj hr
 replace hS := hS.tail
 replace hS := hS.tail
 replace hS := hS.tail
 replace hS := hS.tail
 replace hS := hS.tail
 replace hS := hS.tail
 replace hS := hS.tail
 replace hS := hS.tail
 replace hS := hS.tail
 replace hS := hS.tail
 exact ⟨_, s, rfl, (Sg.Le.refl _), rfl, hS⟩
set_option maxHeartbeats 8000000 in
theorem CmpisNaNint_ok  {w : World} {s : Sg} {R : List HP} {x0 : Int} (hS : St w s (R))  {r : Bool} (hr : CmpisNaNint x0 = r) :
  Calls Tryz.prog 95 [vi x0].toArray w (fun e w => e = .returned (.bool r) ∧ St w s (R)) := by
 refine enter Tryz.func95 rfl rfl rfl fun a hE => ?_
 rw [CmpisNaNint] at hr
 refine W.seq (W.region (vp hS hE rfl rfl fun a hE => WL.nil ?_))
 refine W.seq (W.region (v2 hS hE rfl rfl rfl rfl fun a hE => ?_))
 refine v2 hS hE rfl rfl rfl rfl fun a hE => WL.nil ?_
 refine W.ret ?_
 refine finG (fn := Tryz.f95) (rs := [.tmp 2]) (vs := [_]) hE rfl ⟨rfl, trivial⟩ ?_
 subst hr
 exact ⟨rfl, hS⟩
set_option maxHeartbeats 8000000 in
theorem CmpCompareint_ok  {w : World} {s : Sg} {R : List HP} {x0 : Int} {x1 : Int} (hS : St w s (R))  {r : Int} (hr : CmpCompareint x0 x1 = r) :
  Calls Tryz.prog 42 [vi x0, vi x1].toArray w (fun e w => e = .returned (vi r) ∧ St w s (R)) := by
 refine enter Tryz.func42 rfl rfl rfl fun a hE => ?_
 rw [CmpCompareint] at hr
 refine W.seq (W.region (vp hS hE rfl rfl fun a hE => WL.nil ?_))
 refine W.seq (W.region (vp hS hE rfl rfl fun a hE => ?_))
 refine WL.fnq hE (CmpisNaNint_ok hS  rfl (r := CmpisNaNint x0)) (runs_plain rfl) bd95 rfl rfl rfl ?_
 clear hE hS; rintro e w ⟨rfl, hS⟩; refine ⟨_, rfl, ?_⟩; clear a; intro a hE
 refine vp hS hE rfl rfl fun a hE => WL.nil ?_
 refine W.seq (W.region (vp hS hE rfl rfl fun a hE => ?_))
 refine WL.fnq hE (CmpisNaNint_ok hS  rfl (r := CmpisNaNint x1)) (runs_plain rfl) bd95 rfl rfl rfl ?_
 clear hE hS; rintro e w ⟨rfl, hS⟩; refine ⟨_, rfl, ?_⟩; clear a; intro a hE
 refine vp hS hE rfl rfl fun a hE => WL.nil ?_
 refine W.seq ?_
 refine W.seq (W.region (vp hS hE rfl rfl fun a hE => WL.nil ?_))
 refine W.cond hE rfl (fun hc51 => ?_) (fun hc51 => ?_)
 ·replace hr := iteT hc51 hr
  refine W.seq ?_
  refine W.seq (W.region (vp hS hE rfl rfl fun a hE => WL.nil ?_))
  refine W.cond hE rfl (fun hc52 => ?_) (fun hc52 => ?_)
  ·replace hr := iteT hc52 hr
   refine W.seq (W.region (vp hS hE rfl rfl fun a hE => WL.nil ?_))
   refine W.ret ?_
   refine finG (fn := Tryz.f42) (rs := [.tmp 4]) (vs := [_]) hE rfl ⟨rfl, trivial⟩ ?_
   subst hr
   exact ⟨rfl, hS⟩
  replace hr := iteF hc52 hr
  refine W.skip ?_
  refine W.seq (W.region (vp hS hE rfl rfl fun a hE => WL.nil ?_))
  refine W.ret ?_
  refine finG (fn := Tryz.f42) (rs := [.tmp 4]) (vs := [_]) hE rfl ⟨rfl, trivial⟩ ?_
  subst hr
  exact ⟨rfl, hS⟩
 replace hr := iteF hc51 hr
 refine W.skip ?_
 refine W.seq ?_
 refine W.seq (W.region (vp hS hE rfl rfl fun a hE => WL.nil ?_))
 refine W.cond hE rfl (fun hc53 => ?_) (fun hc53 => ?_)
 ·replace hr := iteT hc53 hr
  refine W.seq (W.region (vp hS hE rfl rfl fun a hE => WL.nil ?_))
  refine W.ret ?_
  refine finG (fn := Tryz.f42) (rs := [.tmp 4]) (vs := [_]) hE rfl ⟨rfl, trivial⟩ ?_
  subst hr
  exact ⟨rfl, hS⟩
 replace hr := iteF hc53 hr
 refine W.skip ?_
 refine W.seq ?_
 refine W.seq (W.region (v2 hS hE rfl rfl rfl rfl fun a hE => ?_))
 refine vp hS hE rfl rfl fun a hE => WL.nil ?_
 refine W.cond hE rfl (fun hc54 => ?_) (fun hc54 => ?_)
 ·replace hr := iteT hc54 hr
  refine W.seq (W.region (vp hS hE rfl rfl fun a hE => WL.nil ?_))
  refine W.ret ?_
  refine finG (fn := Tryz.f42) (rs := [.tmp 4]) (vs := [_]) hE rfl ⟨rfl, trivial⟩ ?_
  subst hr
  exact ⟨rfl, hS⟩
 replace hr := iteF hc54 hr
 refine W.skip ?_
 refine W.seq ?_
 refine W.seq (W.region (v2 hS hE rfl rfl rfl rfl fun a hE => ?_))
 refine vp hS hE rfl rfl fun a hE => WL.nil ?_
 refine W.cond hE rfl (fun hc55 => ?_) (fun hc55 => ?_)
 ·replace hr := iteT hc55 hr
  refine W.seq (W.region (vp hS hE rfl rfl fun a hE => WL.nil ?_))
  refine W.ret ?_
  refine finG (fn := Tryz.f42) (rs := [.tmp 4]) (vs := [_]) hE rfl ⟨rfl, trivial⟩ ?_
  subst hr
  exact ⟨rfl, hS⟩
 replace hr := iteF hc55 hr
 refine W.skip ?_
 refine W.seq (W.region (vp hS hE rfl rfl fun a hE => WL.nil ?_))
 refine W.ret ?_
 refine finG (fn := Tryz.f42) (rs := [.tmp 4]) (vs := [_]) hE rfl ⟨rfl, trivial⟩ ?_
 subst hr
 exact ⟨rfl, hS⟩
set_option maxHeartbeats 8000000 in
theorem CmpOrint_ok  {w : World} {s : Sg} {R : List HP} {x0 : List Int} {a0 : Option Addr} {c0 : Nat} (hS : St w s (R)) (h0 : Sl 1 (RI .i64) s a0 c0 x0) {r : Int} (hr : CmpOrint x0 = r) :
  Calls Tryz.prog 41 [.slice a0 x0.length c0].toArray w (fun e w => e = .returned (vi r) ∧ St w s (R)) := by
 refine enter Tryz.func41 rfl rfl rfl fun a hE => ?_
 rw [CmpOrint] at hr
 refine W.seq (W.region (vp hS hE rfl rfl fun a hE => WL.nil ?_))
 refine W.seq (W.region (vp hS hE rfl rfl fun a hE => WL.nil ?_))
 refine W.seq ?_
 refine W.seq (W.region (vp hS hE rfl rfl fun a hE => ?_))
 refine vP hS hE (Gives.len hE rfl sl65) rfl fun a hE => ?_
 refine vp hS hE rfl rfl fun a hE => WL.nil ?_
 obtain ⟨q52, hq51, hr⟩ := bndS hr
 refine W.cut (fun a w => (.next ()) = q52 ∧ Rep a 18 [(3, vi 0)] ∧ St w s (R)) ?_ ?_
 ·refine W.block ?_
  refine W.loop (fun m a w => ∃ (rest55 : List Int) (k53 : Nat), rest55.length = m ∧ x0.drop k53 = rest55 ∧ CmpOrint.loop1 rest55 = q52 ∧ Rep a 18 [(3, vi 0), (6, .slice a0 x0.length c0), (7, vi ((x0).length : Int)), (8, vi ((k53 : Nat) : Int))] ∧ St w s (R)) (m := x0.length) ⟨x0, 0, rfl, rfl, hq51, hE.pick _ ⟨rfl, rfl, rfl, rfl, trivial⟩, hS⟩ ?_
  clear hE hS a w hq51; rintro m59 a w ⟨rest55, k53, rfl, hd56, hq51, hE, hS⟩
  refine W.gen fun K62 hK62 => ?_
  rcases rest55 with _ | ⟨x54, rest55⟩
  ·have hlt57 := drop_nil hd56
   refine W.seq (W.region (vp hS hE rfl rfl fun a hE => WL.nil ?_))
   refine W.seq ?_
   refine W.condF hE rfl (decide_eq_false (by omega)) ?_
   subst hK62
   refine W.exit rfl ?_
   exact ⟨hq51, hE.pick _ ⟨rfl, trivial⟩, hS⟩
  obtain ⟨hlt57, hx58, hd56⟩ := drop_cons hd56
  rw [CmpOrint.loop1] at hq51
  refine W.seq (W.region (vp hS hE rfl rfl fun a hE => WL.nil ?_))
  refine W.seq ?_
  refine W.condT hE rfl (decide_eq_true (by omega)) ?_
  refine W.skip ?_
  refine W.seq ?_
  refine W.block ?_
  refine W.seq (W.region ?_)
  obtain ⟨cs63, hl64, hR65, hat66⟩ := h0.at hx58
  subst hR65
  refine vP hS hE (Gives.idx hE k53 rfl rfl sl65 rfl hlt57 (h0.aok hlt57)) rfl fun a hE => ?_
  refine vP hS hE (Gives.load1 hE rfl (fun w h => hat66 w _ h) ty3) rfl fun a hE => ?_
  refine vp hS hE rfl rfl fun a hE => WL.nil ?_
  refine W.seq (W.region (v2 hS hE rfl rfl rfl rfl fun a hE => ?_))
  refine vp hS hE rfl rfl fun a hE => WL.nil ?_
  refine W.cond hE rfl (fun hc67 => ?_) (fun hc67 => ?_)
  ·replace hq51 := iteT hc67 hq51
   refine W.seq (W.region (v2 hS hE rfl rfl rfl rfl fun a hE => WL.nil ?_))
   refine W.ret ?_
   subst hK62
   rw [← hq51] at hr
   dsimp only at hr
   refine finG (fn := Tryz.f41) (rs := [.tmp 2]) (vs := [_]) hE rfl ⟨rfl, trivial⟩ ?_
   subst hr
   exact ⟨rfl, hS⟩
  replace hq51 := iteF hc67 hq51
  refine W.skip ?_
  refine W.region ?_
  refine vP hS hE (Gives.inc hE rfl (by have := h0.small; omega)) rfl fun a hE => ?_
  refine vp hS hE rfl rfl fun a hE => WL.nil ?_
  subst hK62
  exact ⟨rest55.length, Nat.lt_succ_self _, rest55, k53 + 1, rfl, hd56, hq51, hE.pick _ ⟨rfl, rfl, rfl, rfl, trivial⟩, hS⟩
 clear hE hS a w; rintro a w ⟨rfl, hE, hS⟩
 dsimp only at hr
 refine W.seq (W.region (v2 hS hE rfl rfl rfl rfl fun a hE => WL.nil ?_))
 refine W.ret ?_
 refine finG (fn := Tryz.f41) (rs := [.tmp 2]) (vs := [_]) hE rfl ⟨rfl, trivial⟩ ?_
 subst hr
 exact ⟨rfl, hS⟩
set_option maxHeartbeats 8000000 in
theorem GuideSurest_1_v1_ok  {w : World} {s : Sg} {R : List HP} {pb0 : Nat} {pb1 : Nat} {pb2 : Nat} {x0 : List GuideRide} {a0 : Option Addr} {c0 : Nat} {x1 : GuideCases} {y0 : List GuideRide} {a_y0_0 : Option Addr} {c_y0_0 : Nat} {y1 : GuideCases} {y2 : GuideNet} {a_y2_0 : Option Addr} {c_y2_0 : Nat} {a_y2_1 : Option Addr} {c_y2_1 : Nat} (hS : St w s (pc pb0 #[.slice a_y0_0 y0.length c_y0_0] 27 :: pc pb1 #[vi y1.holds, vi y1.all, vi y1.late] 93 :: pc pb2 #[.slice a_y2_0 y2.Day.Trains.length c_y2_0, .slice a_y2_1 y2.Day.Turns.length c_y2_1, vi y2.least] 91 :: R)) (h0 : Sl 3 RGuideRide s a0 c0 x0) (h_y0_0 : Sl 3 RGuideRide s a_y0_0 c_y0_0 y0) (hz_y0_0 : y0 = [] → a_y0_0 = none) (h_y2_0 : Sl 4 RApiTrain s a_y2_0 c_y2_0 y2.Day.Trains) (h_y2_1 : Sl 1 (RL 1 (RI .i64)) s a_y2_1 c_y2_1 y2.Day.Turns) {r : Int} (hr : GuideSurest_1_v1 x0 x1 y0 y1 y2 = some r) :
  Calls Tryz.prog 40 [.slice a0 x0.length c0, .agg (GuideCases.cells x1).toArray, pp pb0, pp pb1, pp pb2].toArray w (fun e w => e = .returned (vi r) ∧ St w s (pc pb0 #[.slice a_y0_0 y0.length c_y0_0] 27 :: pc pb1 #[vi y1.holds, vi y1.all, vi y1.late] 93 :: pc pb2 #[.slice a_y2_0 y2.Day.Trains.length c_y2_0, .slice a_y2_1 y2.Day.Turns.length c_y2_1, vi y2.least] 91 :: R)) := by
 refine enter Tryz.func40 rfl rfl rfl fun a hE => ?_
 rw [GuideSurest_1_v1] at hr
 refine W.seq (W.region ?_)
 refine WL.box hE hS (runs_plain rfl) rfl rfl rfl ?_; clear hE hS a w; intro b51 a w hE hS
 refine vp hS hE rfl rfl fun a hE => WL.nil ?_
 refine W.seq ?_
 refine W.seq (W.region (vP hS hE (Gives.loadB hE 1 rfl rfl rfl ty27) rfl fun a hE => ?_))
 refine vP hS hE (Gives.isNilZ hE (isNone_eq h_y0_0 hz_y0_0) rfl rfl isl27) rfl fun a hE => WL.nil ?_
 refine W.cond hE rfl (fun hc52 => ?_) (fun hc52 => ?_)
 ·replace hr := iteT hc52 hr
  refine W.seq (W.region (vp hS hE rfl rfl fun a hE => WL.nil ?_))
  refine W.ret ?_
  refine finG (fn := Tryz.f40) (rs := [.tmp 7]) (vs := [_]) hE rfl ⟨rfl, trivial⟩ ?_
  obtain rfl := Option.some.inj hr
  replace hS := hS.tail
  exact ⟨rfl, hS⟩
 replace hr := iteF hc52 hr
 refine W.skip ?_
 refine W.seq ?_
 refine W.gen fun K53 hK53 => ?_
 refine W.regionE (dup (fun w => St w s (pc b51 (GuideCases.cells x1).toArray 93 :: pc pb0 #[.slice a_y0_0 y0.length c_y0_0] 27 :: pc pb1 #[vi y1.holds, vi y1.all, vi y1.late] 93 :: pc pb2 #[.slice a_y2_0 y2.Day.Trains.length c_y2_0, .slice a_y2_1 y2.Day.Turns.length c_y2_1, vi y2.least] 91 :: R))) (fun b i => cond b ([0, 1, 2, 3, 4, 5, 6, 7, 8, 9, 10, 11, 12, 13, 14, 15].contains i) ([0, 1, 2, 3, 4, 5, 6, 7, 8, 9, 10, 11, 12, 13, 14, 15].contains i)) mixed ?_
 replace hS := hS.drew
 refine tP (i := 0) hE rfl (by kernel_rfl) (Gives.p hE rfl) rfl hS hS fun a hE => ?_
 refine tP (i := 1) hE rfl (by kernel_rfl) (Gives.p hE rfl) rfl hS hS fun a hE => ?_
 refine tP (i := 2) hE rfl (by kernel_rfl) (Gives.len hE rfl sl27) rfl hS hS fun a hE => ?_
 refine tP (i := 3) hE rfl (by kernel_rfl) (Gives.p hE rfl) rfl hS hS fun a hE => ?_
 obtain ⟨x54, hx55, hr⟩ := bindS hr
 obtain ⟨hi56, hlt57, hy58⟩ := gx_some hx55
 obtain ⟨cs59, hl60, hR61, hat62⟩ := h0.at hy58
 subst hR61
 refine tP (i := 4) hE rfl (by kernel_rfl) (Gives.idx hE (w64 (((x0).length : Int) - 1)).toNat rfl rfl sl27 hi56 hlt57 (h0.aok hlt57)) rfl hS hS fun a hE => ?_
 refine tT (i := 5) true rfl hE rfl (by kernel_rfl) (Gives.loadA hE rfl (fun w h => hat62 w _ h) ty95) rfl hS hS fun a hE => ?_
 have hT := tw_sel (A := fun w => St w s _) (B := fun w => St w s _) (w := _) (x := true) (y := true) (fun _ => hS) (fun _ => hS)
 have hF := hS; replace hS := hS
 refine Rg.take (i := 6) true rfl hE rfl (by kernel_rfl) (runs_plain rfl) (Gives.loadB hE 1 rfl rfl rfl ty27) rfl hT fun a hE => ?_
 replace hS := hF; clear hF hT
 refine tT (i := 7) true rfl hE rfl (by kernel_rfl) (Gives.loadB hE 1 rfl rfl rfl ty27) rfl hS hS fun a hE => ?_
 refine tP (i := 8) hE rfl (by kernel_rfl) (Gives.len hE rfl sl27) rfl hS hS fun a hE => ?_
 refine tP (i := 9) hE rfl (by kernel_rfl) (Gives.p hE rfl) rfl hS hS fun a hE => ?_
 obtain ⟨x63, hx64, hr⟩ := bindS hr
 obtain ⟨hi65, hlt66, hy67⟩ := gx_some hx64
 obtain ⟨cs68, hl69, hR70, hat71⟩ := h_y0_0.at hy67
 subst hR70
 refine tP (i := 10) hE rfl (by kernel_rfl) (Gives.idx hE (w64 (((y0).length : Int) - 1)).toNat rfl rfl sl27 hi65 hlt66 (h_y0_0.aok hlt66)) rfl hS hS fun a hE => ?_
 refine tT (i := 11) true rfl hE rfl (by kernel_rfl) (Gives.loadA hE rfl (fun w h => hat71 w _ h) ty95) rfl hS hS fun a hE => ?_
 suffices key : ∀ b72 b73 (a : Act) (w : World), Sl 3 RGuideRide s a0 c0 x0 → Sl 3 RGuideRide s a_y0_0 c_y0_0 y0 → (y0 = [] → a_y0_0 = none) → Sl 4 RApiTrain s a_y2_0 c_y2_0 y2.Day.Trains → Sl 1 (RL 1 (RI .i64)) s a_y2_1 c_y2_1 y2.Day.Turns → Rep a 64 [(0, .slice a0 x0.length c0), (2, pp pb0), (3, pp pb1), (4, pp pb2), (6, pp b51), (8, pp b72), (9, pp b73)] → St w s (pc b73 (GuideRide.cells x63).toArray 95 :: pc b72 (GuideRide.cells x54).toArray 95 :: pc b51 (GuideCases.cells x1).toArray 93 :: pc pb0 #[.slice a_y0_0 y0.length c_y0_0] 27 :: pc pb1 #[vi y1.holds, vi y1.all, vi y1.late] 93 :: pc pb2 #[.slice a_y2_0 y2.Day.Trains.length c_y2_0, .slice a_y2_1 y2.Day.Turns.length c_y2_1, vi y2.least] 91 :: R) → K53.nor a w by
  refine Rg.many 12 [13] (by kernel_rfl) ⟨?_, ?_, trivial⟩
  ·refine Br.mk (i := 12) true true rfl (by kernel_rfl) (by kernel_rfl) ?_
   refine WL.alloc hE hS (runs_plain rfl) zr95 rfl ?_; clear hE hS a w; intro b72 a w hE hS
   refine WL.nil ?_
   refine ⟨⟨fun _ => (hS.tail), fun _ => (hS.tail)⟩, ?_⟩
   refine Rg.one (i := 13) true true rfl (by kernel_rfl) (by kernel_rfl) (by kernel_rfl) ?_
   refine WL.alloc hE hS (runs_plain rfl) zr95 rfl ?_; clear hE hS a w; intro b73 a w hE hS
   refine WL.nil ?_
   refine ⟨⟨fun _ => ((hS.tail).tail), fun _ => ((hS.tail).tail)⟩, ?_⟩
   refine Rg.one (i := 14) true true rfl (by kernel_rfl) (by kernel_rfl) (by kernel_rfl) ?_
   refine WL.storeI hE hS 1 rfl (GuideRide.cells x54) (runs_plain rfl) rfl rfl rfl ty95 rfl rfl rfl rfl ?_; clear hE hS a w; intro a w hE hS
   refine WL.nil ?_
   refine ⟨⟨fun _ => ((hS.tail).tail), fun _ => ((hS.tail).tail)⟩, ?_⟩
   refine Rg.one (i := 15) true true rfl (by kernel_rfl) (by kernel_rfl) (by kernel_rfl) ?_
   refine WL.storeI hE hS 0 rfl (GuideRide.cells x63) (runs_plain rfl) rfl rfl rfl ty95 rfl rfl rfl rfl ?_; clear hE hS a w; intro a w hE hS
   refine WL.nil ?_
   refine ⟨⟨fun _ => ((hS.tail).tail), fun _ => ((hS.tail).tail)⟩, ?_⟩
   refine Rg.done (by kernel_rfl) ?_
   exact key _ _ _ _ h0 h_y0_0 hz_y0_0 h_y2_0 h_y2_1 (hE.pick _ ⟨rfl, rfl, rfl, rfl, rfl, rfl, rfl, trivial⟩) hS
  refine Br.mk (i := 13) true true rfl (by kernel_rfl) (by kernel_rfl) ?_
  refine WL.alloc hE hS (runs_plain rfl) zr95 rfl ?_; clear hE hS a w; intro b73 a w hE hS
  refine WL.nil ?_
  refine ⟨⟨fun _ => (hS.tail), fun _ => (hS.tail)⟩, ?_⟩
  refine Rg.one (i := 12) true true rfl (by kernel_rfl) (by kernel_rfl) (by kernel_rfl) ?_
  refine WL.alloc hE hS (runs_plain rfl) zr95 rfl ?_; clear hE hS a w; intro b72 a w hE hS
  refine WL.nil ?_
  refine ⟨⟨fun _ => ((hS.tail).tail), fun _ => ((hS.tail).tail)⟩, ?_⟩
  refine Rg.one (i := 14) true true rfl (by kernel_rfl) (by kernel_rfl) (by kernel_rfl) ?_
  refine WL.storeI hE hS 0 rfl (GuideRide.cells x54) (runs_plain rfl) rfl rfl rfl ty95 rfl rfl rfl rfl ?_; clear hE hS a w; intro a w hE hS
  refine WL.nil ?_
  refine ⟨⟨fun _ => ((hS.tail).tail), fun _ => ((hS.tail).tail)⟩, ?_⟩
  refine Rg.one (i := 15) true true rfl (by kernel_rfl) (by kernel_rfl) (by kernel_rfl) ?_
  refine WL.storeI hE hS 1 rfl (GuideRide.cells x63) (runs_plain rfl) rfl rfl rfl ty95 rfl rfl rfl rfl ?_; clear hE hS a w; intro a w hE hS
  refine WL.nil ?_
  refine ⟨⟨fun _ => ((hS.tail).tail), fun _ => ((hS.tail).tail)⟩, ?_⟩
  refine Rg.done (by kernel_rfl) ?_
  replace hS := hS.front 5 rfl
  replace hS := hS.front 5 rfl
  replace hS := hS.front 5 rfl
  replace hS := hS.front 5 rfl
  replace hS := hS.front 4 rfl
  replace hS := hS.front 5 rfl
  exact key _ _ _ _ h0 h_y0_0 hz_y0_0 h_y2_0 h_y2_1 (hE.pick _ ⟨rfl, rfl, rfl, rfl, rfl, rfl, rfl, trivial⟩) hS
 clear hE hS a w; intro b72 b73 a w h0 h_y0_0 hz_y0_0 h_y2_0 h_y2_1 hE hS
 subst hK53
 refine W.seq ?_
 refine W.gen fun K75 hK75 => ?_
 refine W.regionE (dup (fun w => St w s (pc b73 (GuideRide.cells x63).toArray 95 :: pc b72 (GuideRide.cells x54).toArray 95 :: pc b51 (GuideCases.cells x1).toArray 93 :: pc pb0 #[.slice a_y0_0 y0.length c_y0_0] 27 :: pc pb1 #[vi y1.holds, vi y1.all, vi y1.late] 93 :: pc pb2 #[.slice a_y2_0 y2.Day.Trains.length c_y2_0, .slice a_y2_1 y2.Day.Turns.length c_y2_1, vi y2.least] 91 :: R))) (fun b i => cond b ([0, 1, 2, 3, 4, 5, 6, 7, 8, 9, 10, 11, 12, 13, 14, 15, 16, 17, 18, 19, 20, 21, 22, 23, 24, 25, 26, 27, 28, 29, 30, 31, 32, 33, 34, 35, 36, 37, 38, 39, 40].contains i) ([0, 1, 2, 3, 4, 5, 6, 7, 8, 9, 10, 11, 12, 13, 14, 15, 16, 17, 18, 19, 20, 21, 22, 23, 24, 25, 26, 27, 28, 29, 30, 31, 32, 33, 34, 35, 36, 37, 38, 39, 40].contains i)) mixed ?_
 replace hS := hS.drew
 refine tP (i := 0) hE rfl (by kernel_rfl) (Gives.fld hE rfl fl93_0) rfl hS hS fun a hE => ?_
 refine tT (i := 1) true rfl hE rfl (by kernel_rfl) (Gives.loadB hE 2 rfl rfl rfl ty3) rfl hS hS fun a hE => ?_
 refine tP (i := 2) hE rfl (by kernel_rfl) (Gives.fld hE rfl fl93_1) rfl hS hS fun a hE => ?_
 refine tT (i := 3) true rfl hE rfl (by kernel_rfl) (Gives.loadB hE 4 rfl rfl rfl ty3) rfl hS hS fun a hE => ?_
 refine tP (i := 4) hE rfl (by kernel_rfl) (Gives.p hE rfl) rfl hS hS fun a hE => ?_
 refine tP (i := 5) hE rfl (by kernel_rfl) (Gives.fld hE rfl fl93_0) rfl hS hS fun a hE => ?_
 refine tT (i := 6) true rfl hE rfl (by kernel_rfl) (Gives.loadB hE 4 rfl rfl rfl ty3) rfl hS hS fun a hE => ?_
 refine tP (i := 7) hE rfl (by kernel_rfl) (Gives.fld hE rfl fl93_1) rfl hS hS fun a hE => ?_
 refine tT (i := 8) true rfl hE rfl (by kernel_rfl) (Gives.loadB hE 2 rfl rfl rfl ty3) rfl hS hS fun a hE => ?_
 refine tP (i := 9) hE rfl (by kernel_rfl) (Gives.p hE rfl) rfl hS hS fun a hE => ?_
 refine tT (i := 11) true rfl hE rfl (by kernel_rfl) (Gives.loadBA hE 5 rfl rfl ty91) rfl hS hS fun a hE => ?_
 have hT := tw_sel (A := fun w => St w s _) (B := fun w => St w s _) (w := _) (x := true) (y := true) (fun _ => hS) (fun _ => hS)
 have hF := hS; replace hS := hS
 refine Rg.take (i := 12) true rfl hE rfl (by kernel_rfl) (runs_plain rfl) (Gives.loadBA hE 0 rfl rfl ty95) rfl hT fun a hE => ?_
 replace hS := hF; clear hF hT
 refine tT (i := 15) true rfl hE rfl (by kernel_rfl) (Gives.loadBA hE 5 rfl rfl ty91) rfl hS hS fun a hE => ?_
 have hT := tw_sel (A := fun w => St w s _) (B := fun w => St w s _) (w := _) (x := true) (y := true) (fun _ => hS) (fun _ => hS)
 have hF := hS; replace hS := hS
 refine Rg.take (i := 16) true rfl hE rfl (by kernel_rfl) (runs_plain rfl) (Gives.loadBA hE 1 rfl rfl ty95) rfl hT fun a hE => ?_
 replace hS := hF; clear hF hT
 refine tT (i := 20) true rfl hE rfl (by kernel_rfl) (Gives.loadB hE 3 rfl rfl rfl ty27) rfl hS hS fun a hE => ?_
 refine tP (i := 21) hE rfl (by kernel_rfl) (Gives.len hE rfl sl27) rfl hS hS fun a hE => ?_
 refine tP (i := 22) hE rfl (by kernel_rfl) (Gives.p hE rfl) rfl hS hS fun a hE => ?_
 refine tP (i := 23) hE rfl (by kernel_rfl) (Gives.len hE rfl sl27) rfl hS hS fun a hE => ?_
 refine tT (i := 25) true rfl hE rfl (by kernel_rfl) (Gives.loadBA hE 5 rfl rfl ty91) rfl hS hS fun a hE => ?_
 refine tP (i := 26) hE rfl (by kernel_rfl) (Gives.p hE rfl) rfl hS hS fun a hE => ?_
 obtain ⟨x76, hx77, hr⟩ := bindS hr
 obtain ⟨hi78, hlt79, hy80⟩ := gx_some hx77
 obtain ⟨cs81, hl82, hR83, hat84⟩ := h0.at hy80
 subst hR83
 refine tP (i := 27) hE rfl (by kernel_rfl) (Gives.idx hE ((0 : Int)).toNat rfl rfl sl27 hi78 hlt79 (h0.aok hlt79)) rfl hS hS fun a hE => ?_
 refine tT (i := 28) true rfl hE rfl (by kernel_rfl) (Gives.loadA hE rfl (fun w h => hat84 w _ h) ty95) rfl hS hS fun a hE => ?_
 have hT := tw_sel (A := fun w => St w s _) (B := fun w => St w s _) (w := _) (x := true) (y := true) (fun _ => hS) (fun _ => hS)
 have hF := hS; replace hS := hS
 refine Rg.take (i := 31) true rfl hE rfl (by kernel_rfl) (runs_plain rfl) (Gives.loadBA hE 5 rfl rfl ty91) rfl hT fun a hE => ?_
 replace hS := hF; clear hF hT
 refine tT (i := 32) true rfl hE rfl (by kernel_rfl) (Gives.loadB hE 3 rfl rfl rfl ty27) rfl hS hS fun a hE => ?_
 obtain ⟨x85, hx86, hr⟩ := bindS hr
 obtain ⟨hi87, hlt88, hy89⟩ := gx_some hx86
 obtain ⟨cs90, hl91, hR92, hat93⟩ := h_y0_0.at hy89
 subst hR92
 refine tP (i := 33) hE rfl (by kernel_rfl) (Gives.idx hE ((0 : Int)).toNat rfl rfl sl27 hi87 hlt88 (h_y0_0.aok hlt88)) rfl hS hS fun a hE => ?_
 refine tT (i := 34) true rfl hE rfl (by kernel_rfl) (Gives.loadA hE rfl (fun w h => hat93 w _ h) ty95) rfl hS hS fun a hE => ?_
 refine Rg.one (i := 10) true true rfl (by kernel_rfl) (by kernel_rfl) (by kernel_rfl) ?_
 refine WL.fnq hE (CmpCompareint_ok hS  rfl (r := CmpCompareint (w64 (x1.holds * y1.all)) (w64 (y1.holds * x1.all)))) (runs_plain rfl) bd42 rfl rfl rfl ?_
 clear hE hS; rintro e w ⟨rfl, hS⟩; refine ⟨_, rfl, ?_⟩; clear a; intro a hE
 refine WL.nil ?_
 refine ⟨⟨fun _ => hS, fun _ => hS⟩, ?_⟩
 refine Rg.one (i := 13) true true rfl (by kernel_rfl) (by kernel_rfl) (by kernel_rfl) ?_
 obtain ⟨q94, hq95, hr⟩ := bindS hr
 have hc_ := GuideNetoff_ok hS h_y2_0 h_y2_1 hq95
 refine WL.fnq hE (hc_) (runs_plain rfl) bd43 rfl rfl rfl ?_
 clear hE hS hc_; rintro e w ⟨cs96, s98, rfl, hle99, h97, hS⟩; refine ⟨_, rfl, ?_⟩; clear a; intro a hE
 replace h0 := Sl.mono RGuideRide.mono hle99 h0
 replace h_y2_0 := Sl.mono RApiTrain.mono hle99 h_y2_0
 replace h_y2_1 := Sl.mono (RL.mono RI.mono) hle99 h_y2_1
 replace h_y0_0 := Sl.mono RGuideRide.mono hle99 h_y0_0
 subst h97
 refine WL.nil ?_
 refine ⟨⟨fun _ => (St.down hle99 hS), fun _ => (St.down hle99 hS)⟩, ?_⟩
 refine tP (i := 14) hE rfl (by kernel_rfl) (Gives.field1 hE rfl fd99_2 ty3 rfl) rfl (St.down hle99 hS) (St.down hle99 hS) fun a hE => ?_
 refine Rg.one (i := 17) true true rfl (by kernel_rfl) (by kernel_rfl) (by kernel_rfl) ?_
 obtain ⟨q100, hq101, hr⟩ := bindS hr
 have hc_ := GuideNetoff_ok hS h_y2_0 h_y2_1 hq101
 refine WL.fnq hE (hc_) (runs_plain rfl) bd43 rfl rfl rfl ?_
 clear hE hS hc_; rintro e w ⟨cs102, s104, rfl, hle105, h103, hS⟩; refine ⟨_, rfl, ?_⟩; clear a; intro a hE
 replace h0 := Sl.mono RGuideRide.mono hle105 h0
 replace h_y2_0 := Sl.mono RApiTrain.mono hle105 h_y2_0
 replace h_y2_1 := Sl.mono (RL.mono RI.mono) hle105 h_y2_1
 replace h_y0_0 := Sl.mono RGuideRide.mono hle105 h_y0_0
 subst h103
 refine WL.nil ?_
 refine ⟨⟨fun _ => (St.down (Sg.Le.trans hle99 hle105) hS), fun _ => (St.down (Sg.Le.trans hle99 hle105) hS)⟩, ?_⟩
 refine tP (i := 18) hE rfl (by kernel_rfl) (Gives.field1 hE rfl fd99_2 ty3 rfl) rfl (St.down (Sg.Le.trans hle99 hle105) hS) (St.down (Sg.Le.trans hle99 hle105) hS) fun a hE => ?_
 refine Rg.one (i := 19) true true rfl (by kernel_rfl) (by kernel_rfl) (by kernel_rfl) ?_
 refine WL.fnq hE (CmpCompareint_ok hS  rfl (r := CmpCompareint q94.Arr q100.Arr)) (runs_plain rfl) bd42 rfl rfl rfl ?_
 clear hE hS; rintro e w ⟨rfl, hS⟩; refine ⟨_, rfl, ?_⟩; clear a; intro a hE
 refine WL.nil ?_
 refine ⟨⟨fun _ => (St.down (Sg.Le.trans hle99 hle105) hS), fun _ => (St.down (Sg.Le.trans hle99 hle105) hS)⟩, ?_⟩
 refine Rg.one (i := 24) true true rfl (by kernel_rfl) (by kernel_rfl) (by kernel_rfl) ?_
 refine WL.fnq hE (CmpCompareint_ok hS  rfl (r := CmpCompareint ((y0).length : Int) ((x0).length : Int))) (runs_plain rfl) bd42 rfl rfl rfl ?_
 clear hE hS; rintro e w ⟨rfl, hS⟩; refine ⟨_, rfl, ?_⟩; clear a; intro a hE
 refine WL.nil ?_
 refine ⟨⟨fun _ => (St.down (Sg.Le.trans hle99 hle105) hS), fun _ => (St.down (Sg.Le.trans hle99 hle105) hS)⟩, ?_⟩
 refine Rg.one (i := 29) true true rfl (by kernel_rfl) (by kernel_rfl) (by kernel_rfl) ?_
 obtain ⟨q106, hq107, hr⟩ := bindS hr
 have hc_ := GuideNeton_ok hS h_y2_0 h_y2_1 hq107
 refine WL.fnq hE (hc_) (runs_plain rfl) bd44 rfl rfl rfl ?_
 clear hE hS hc_; rintro e w ⟨cs108, s110, rfl, hle111, h109, hS⟩; refine ⟨_, rfl, ?_⟩; clear a; intro a hE
 replace h0 := Sl.mono RGuideRide.mono hle111 h0
 replace h_y2_0 := Sl.mono RApiTrain.mono hle111 h_y2_0
 replace h_y2_1 := Sl.mono (RL.mono RI.mono) hle111 h_y2_1
 replace h_y0_0 := Sl.mono RGuideRide.mono hle111 h_y0_0
 subst h109
 refine WL.nil ?_
 refine ⟨⟨fun _ => (St.down (Sg.Le.trans (Sg.Le.trans hle99 hle105) hle111) hS), fun _ => (St.down (Sg.Le.trans (Sg.Le.trans hle99 hle105) hle111) hS)⟩, ?_⟩
 refine tP (i := 30) hE rfl (by kernel_rfl) (Gives.field1 hE rfl fd99_3 ty3 rfl) rfl (St.down (Sg.Le.trans (Sg.Le.trans hle99 hle105) hle111) hS) (St.down (Sg.Le.trans (Sg.Le.trans hle99 hle105) hle111) hS) fun a hE => ?_
 refine Rg.one (i := 35) true true rfl (by kernel_rfl) (by kernel_rfl) (by kernel_rfl) ?_
 obtain ⟨q112, hq113, hr⟩ := bindS hr
 have hc_ := GuideNeton_ok hS h_y2_0 h_y2_1 hq113
 refine WL.fnq hE (hc_) (runs_plain rfl) bd44 rfl rfl rfl ?_
 clear hE hS hc_; rintro e w ⟨cs114, s116, rfl, hle117, h115, hS⟩; refine ⟨_, rfl, ?_⟩; clear a; intro a hE
 replace h0 := Sl.mono RGuideRide.mono hle117 h0
 replace h_y2_0 := Sl.mono RApiTrain.mono hle117 h_y2_0
 replace h_y2_1 := Sl.mono (RL.mono RI.mono) hle117 h_y2_1
 replace h_y0_0 := Sl.mono RGuideRide.mono hle117 h_y0_0
 subst h115
 refine WL.nil ?_
 refine ⟨⟨fun _ => (St.down (Sg.Le.trans (Sg.Le.trans (Sg.Le.trans hle99 hle105) hle111) hle117) hS), fun _ => (St.down (Sg.Le.trans (Sg.Le.trans (Sg.Le.trans hle99 hle105) hle111) hle117) hS)⟩, ?_⟩
 refine tP (i := 36) hE rfl (by kernel_rfl) (Gives.field1 hE rfl fd99_3 ty3 rfl) rfl (St.down (Sg.Le.trans (Sg.Le.trans (Sg.Le.trans hle99 hle105) hle111) hle117) hS) (St.down (Sg.Le.trans (Sg.Le.trans (Sg.Le.trans hle99 hle105) hle111) hle117) hS) fun a hE => ?_
 refine Rg.one (i := 37) true true rfl (by kernel_rfl) (by kernel_rfl) (by kernel_rfl) ?_
 refine WL.fnq hE (CmpCompareint_ok hS  rfl (r := CmpCompareint q106.Dep q112.Dep)) (runs_plain rfl) bd42 rfl rfl rfl ?_
 clear hE hS; rintro e w ⟨rfl, hS⟩; refine ⟨_, rfl, ?_⟩; clear a; intro a hE
 refine WL.nil ?_
 refine ⟨⟨fun _ => (St.down (Sg.Le.trans (Sg.Le.trans (Sg.Le.trans hle99 hle105) hle111) hle117) hS), fun _ => (St.down (Sg.Le.trans (Sg.Le.trans (Sg.Le.trans hle99 hle105) hle111) hle117) hS)⟩, ?_⟩
 refine Rg.one (i := 38) true true rfl (by kernel_rfl) (by kernel_rfl) (by kernel_rfl) ?_
 refine WL.lit hE hS (e := 3) (es := 1) (vs := [(0, vi (CmpCompareint (w64 (x1.holds * y1.all)) (w64 (y1.holds * x1.all)))), (1, vi (CmpCompareint q94.Arr q100.Arr)), (2, vi (CmpCompareint ((y0).length : Int) ((x0).length : Int))), (3, vi (CmpCompareint q106.Dep q112.Dep))]) (cs := [vi (CmpCompareint (w64 (x1.holds * y1.all)) (w64 (y1.holds * x1.all))), vi (CmpCompareint q94.Arr q100.Arr), vi (CmpCompareint ((y0).length : Int) ((x0).length : Int)), vi (CmpCompareint q106.Dep q112.Dep)]) (runs_plain rfl) rfl (by kernel_rfl) rfl ?_; clear hE hS a w; intro b118 a w hE hS
 replace hS := hS.ptVec (es := 1) (m := 4) rfl (by decide)
 have h120 : Ev 1 (RI .i64) s116 [vi (CmpCompareint (w64 (x1.holds * y1.all)) (w64 (y1.holds * x1.all))), vi (CmpCompareint q94.Arr q100.Arr), vi (CmpCompareint ((y0).length : Int) ((x0).length : Int)), vi (CmpCompareint q106.Dep q112.Dep)] [(CmpCompareint (w64 (x1.holds * y1.all)) (w64 (y1.holds * x1.all))), (CmpCompareint q94.Arr q100.Arr), (CmpCompareint ((y0).length : Int) ((x0).length : Int)), (CmpCompareint q106.Dep q112.Dep)] := (Ev.cons (c1 := [vi (CmpCompareint (w64 (x1.holds * y1.all)) (w64 (y1.holds * x1.all)))]) rfl rfl (Ev.cons (c1 := [vi (CmpCompareint q94.Arr q100.Arr)]) rfl rfl (Ev.cons (c1 := [vi (CmpCompareint ((y0).length : Int) ((x0).length : Int))]) rfl rfl (Ev.cons (c1 := [vi (CmpCompareint q106.Dep q112.Dep)]) rfl rfl (Ev.nil)))))
 have hF := hS.fixD RI.mono 0 rfl h120 (rfl); clear hS; obtain ⟨s121, hle122, hS, h123⟩ := hF
 replace h0 := Sl.mono RGuideRide.mono hle122 h0
 replace h_y2_0 := Sl.mono RApiTrain.mono hle122 h_y2_0
 replace h_y2_1 := Sl.mono (RL.mono RI.mono) hle122 h_y2_1
 replace h_y0_0 := Sl.mono RGuideRide.mono hle122 h_y0_0
 refine WL.nil ?_
 refine ⟨⟨fun _ => (St.down (Sg.Le.trans (Sg.Le.trans (Sg.Le.trans (Sg.Le.trans hle99 hle105) hle111) hle117) hle122) hS), fun _ => (St.down (Sg.Le.trans (Sg.Le.trans (Sg.Le.trans (Sg.Le.trans hle99 hle105) hle111) hle117) hle122) hS)⟩, ?_⟩
 refine Rg.one (i := 39) true true rfl (by kernel_rfl) (by kernel_rfl) (by kernel_rfl) ?_
 refine WL.fnq hE (CmpOrint_ok hS h123 rfl (r := CmpOrint [(CmpCompareint (w64 (x1.holds * y1.all)) (w64 (y1.holds * x1.all))), (CmpCompareint q94.Arr q100.Arr), (CmpCompareint ((y0).length : Int) ((x0).length : Int)), (CmpCompareint q106.Dep q112.Dep)])) (runs_plain rfl) bd41 rfl rfl rfl ?_
 clear hE hS; rintro e w ⟨rfl, hS⟩; refine ⟨_, rfl, ?_⟩; clear a; intro a hE
 refine WL.nil ?_
 refine ⟨⟨fun _ => (St.down (Sg.Le.trans (Sg.Le.trans (Sg.Le.trans (Sg.Le.trans hle99 hle105) hle111) hle117) hle122) hS), fun _ => (St.down (Sg.Le.trans (Sg.Le.trans (Sg.Le.trans (Sg.Le.trans hle99 hle105) hle111) hle117) hle122) hS)⟩, ?_⟩
 refine tP (i := 40) hE rfl (by kernel_rfl) (Gives.p hE rfl) rfl (St.down (Sg.Le.trans (Sg.Le.trans (Sg.Le.trans (Sg.Le.trans hle99 hle105) hle111) hle117) hle122) hS) (St.down (Sg.Le.trans (Sg.Le.trans (Sg.Le.trans (Sg.Le.trans hle99 hle105) hle111) hle117) hle122) hS) fun a hE => ?_
 refine Rg.done (by kernel_rfl) ?_
 subst hK75
 refine W.ret ?_
 refine finG (fn := Tryz.f40) (rs := [.tmp 7]) (vs := [_]) hE rfl ⟨rfl, trivial⟩ ?_
 obtain rfl := Option.some.inj hr
 replace hS := hS.tail
 replace hS := hS.tail
 replace hS := hS.tail
 exact ⟨rfl, (hS.down (Sg.Le.trans (Sg.Le.trans (Sg.Le.trans (Sg.Le.trans hle99 hle105) hle111) hle117) hle122))⟩
set_option maxHeartbeats 8000000 in
theorem GuideNetbehind_ok  {w : World} {s : Sg} {R : List HP} {x0 : GuideNet} {a0_0 : Option Addr} {c0_0 : Nat} {a0_1 : Option Addr} {c0_1 : Nat} {x1 : GuideRide} (hS : St w s (R)) (h0_0 : Sl 4 RApiTrain s a0_0 c0_0 x0.Day.Trains) (h0_1 : Sl 1 (RL 1 (RI .i64)) s a0_1 c0_1 x0.Day.Turns) {r : (List GuideRide)} (hr : GuideNetbehind x0 x1 = some r) :
  Calls Tryz.prog 47 [.agg [.slice a0_0 x0.Day.Trains.length c0_0, .slice a0_1 x0.Day.Turns.length c0_1, vi x0.least].toArray, .agg (GuideRide.cells x1).toArray].toArray w (fun e w => ∃ (lb0 : List Value) (t : Sg), e = .returned (.func (.func 100) #[] lb0.toArray) ∧ s.Le t ∧ Iter Tryz.prog 100 lb0 (fun x => [Value.agg (GuideRide.cells x).toArray]) t r ∧ St w t (R)) := by
 refine enter Tryz.func47 rfl rfl rfl fun a hE => ?_
 rw [GuideNetbehind] at hr
 refine W.seq (W.region ?_)
 refine WL.box hE hS (runs_plain rfl) rfl rfl rfl ?_; clear hE hS a w; intro b51 a w hE hS
 refine WL.box hE hS (runs_plain rfl) rfl rfl rfl ?_; clear hE hS a w; intro b52 a w hE hS
 refine vp hS hE rfl rfl fun a hE => WL.nil ?_
 refine W.seq (W.region (vP hS hE (Gives.loadBA hE 1 rfl rfl ty91) rfl fun a hE => ?_))
 refine vP hS hE (Gives.loadBA hE 0 rfl rfl ty95) rfl fun a hE => ?_
 obtain ⟨q53, hq54, hr⟩ := bindS hr
 have hc_ := GuideNetoff_ok hS h0_0 h0_1 hq54
 refine WL.fnq hE (hc_) (runs_plain rfl) bd43 rfl rfl rfl ?_
 clear hE hS hc_; rintro e w ⟨cs55, s57, rfl, hle58, h56, hS⟩; refine ⟨_, rfl, ?_⟩; clear a; intro a hE
 replace h0_0 := Sl.mono RApiTrain.mono hle58 h0_0
 replace h0_1 := Sl.mono (RL.mono RI.mono) hle58 h0_1
 subst h56
 refine WL.alloc hE hS (runs_plain rfl) zr99 rfl ?_; clear hE hS a w; intro b59 a w hE hS
 refine WL.storeI hE hS 0 rfl (ApiStop.cells q53) (runs_plain rfl) rfl rfl rfl ty99 rfl rfl rfl rfl ?_; clear hE hS a w; intro a w hE hS
 refine WL.nil ?_
 refine W.seq (W.region (vP hS hE (Gives.loadBA hE 2 rfl rfl ty91) rfl fun a hE => ?_))
 refine vP hS hE (Gives.fld hE rfl fl99_0) rfl fun a hE => ?_
 refine vP hS hE (Gives.loadB hE 0 rfl rfl rfl ty3) rfl fun a hE => ?_
 refine vP hS hE (Gives.fld hE rfl fl99_2) rfl fun a hE => ?_
 refine vP hS hE (Gives.loadB hE 0 rfl rfl rfl ty3) rfl fun a hE => ?_
 refine vP hS hE (Gives.fld hE rfl fl91_1) rfl fun a hE => ?_
 refine vP hS hE (Gives.loadB hE 2 rfl rfl rfl ty3) rfl fun a hE => ?_
 refine vp hS hE rfl rfl fun a hE => ?_
 refine vP hS hE (Gives.fld hE rfl fl95_0) rfl fun a hE => ?_
 refine vP hS hE (Gives.loadB hE 1 rfl rfl rfl ty3) rfl fun a hE => ?_
 obtain ⟨q60, hq61, hr⟩ := bndS hr
 have hc_ := GuideNetrides_ok hS h0_0 h0_1 hq61
 refine WL.fnq hE (hc_) (runs_plain rfl) bd49 rfl rfl rfl ?_
 clear hE hS hc_; rintro e w ⟨lb62, s64, rfl, hle65, h63, hS⟩; refine ⟨_, rfl, ?_⟩; clear a; intro a hE
 replace h0_0 := Sl.mono RApiTrain.mono hle65 h0_0
 replace h0_1 := Sl.mono (RL.mono RI.mono) hle65 h0_1
 refine vp hS hE rfl rfl fun a hE => WL.nil ?_
 refine W.ret ?_
 refine finG (fn := Tryz.f47) (rs := [.tmp 4]) (vs := [_]) hE rfl ⟨rfl, trivial⟩ ?_
 obtain rfl := Option.some.inj hr
 replace hS := hS.tail
 replace hS := hS.tail
 replace hS := hS.tail
 exact ⟨lb62, s64, rfl, (Sg.Le.trans hle58 hle65), h63, hS⟩
set_option maxHeartbeats 8000000 in
theorem SlicesCloneLguideRide_ok  {w : World} {s : Sg} {R : List HP} {x0 : List GuideRide} {a0 : Option Addr} {c0 : Nat} (hS : St w s (R)) (h0 : Sl 3 RGuideRide s a0 c0 x0) {r : (List GuideRide)} (hr : SlicesCloneLguideRide x0 = some r) :
  Calls Tryz.prog 48 [.slice a0 x0.length c0].toArray w (fun e w => ∃ (a0 : Option Addr) (c0 n0 : Nat) (cs0 : List Value), e = .returned (.slice a0 n0 c0) ∧ Ev 3 RGuideRide s cs0 r ∧ r.length = n0 ∧ St w s (vecC 95 3 a0 c0 n0 cs0 :: R)) := by
 refine enter Tryz.func48 rfl rfl rfl fun a hE => ?_
 rw [SlicesCloneLguideRide] at hr
 refine W.seq (W.region (vp hS hE rfl rfl fun a hE => WL.nil ?_))
 refine W.seq ?_
 refine W.seq (W.region (vp hS hE rfl rfl fun a hE => ?_))
 refine vP hS hE (Gives.isNil hE rfl rfl isl27) rfl fun a hE => WL.nil ?_
 rcases a0 with _ | g51
 ·obtain rfl := h0.none_nil
  replace hr : some [] = _ := hr
  refine W.condT hE rfl rfl ?_
  refine W.seq (W.region (vp hS hE rfl rfl fun a hE => WL.nil ?_))
  refine W.ret ?_
  replace hS := hS.vecNil 95 3
  refine finG (fn := Tryz.f48) (rs := [.tmp 2]) (vs := [_]) hE rfl ⟨rfl, trivial⟩ ?_
  obtain rfl := Option.some.inj hr
  exact ⟨none, 0, 0, [], rfl, (Ev.nil), (rfl), hS⟩
 skip
 refine W.condF hE rfl rfl ?_
 refine W.skip ?_
 refine W.seq (W.region ?_)
 refine WL.lit hE hS (e := 95) (es := 3) (vs := []) (cs := []) (runs_plain rfl) rfl (by kernel_rfl) rfl ?_; clear hE hS a w; intro b53 a w hE hS
 replace hS := hS.ptVec (es := 3) (m := 0) rfl (by decide)
 have h55 : Ev 3 RGuideRide s [] [] := (Ev.nil)
 refine vp hS hE rfl rfl fun a hE => ?_
 obtain ⟨x56, hx57, hr⟩ := bindS hr
 refine WL.appS hE hS 0 (runs_plain rfl) rfl rfl (xs := x0) rfl rfl ap27 RGuideRide.one h55 (rfl) h0 hx57 rfl ?_; clear hE hS a w; intro a58 c59 cs60 a w h61 hE hS
 refine vp hS hE rfl rfl fun a hE => WL.nil ?_
 refine W.ret ?_
 refine finG (fn := Tryz.f48) (rs := [.tmp 2]) (vs := [_]) hE rfl ⟨rfl, trivial⟩ ?_
 obtain rfl := Option.some.inj hr
 exact ⟨a58, c59, x56.length, cs60, rfl, h61, (rfl), hS⟩
end Go.Proofs.YtpcebngchmgckaaGreatDoor
