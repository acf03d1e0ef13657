/- The walks of the functions that GuideChances reaches: each call comes to what its mirror says. The conditions are those of each contract. -/
import Derived.Test.YtpcebngchmgckaaDoorProg
import Derived.Test.YtpcebngchmgckaaDoorGuideChancesM
import Derived.Test.YtpcebngchmgckaaDoorFpAllT
import Derived.Test.YtpcebngchmgckaaDoorGuideChancesS
import Derived.Test.YtpcebngchmgckaaDoorFpMapS
import Derived.Test.YtpcebngchmgckaaDoorFpFld
import Derived.Test.YtpcebngchmgckaaDoorFpMapG
import Derived.Test.YtpcebngchmgckaaDoorFpMapV
import Derived.Test.YtpcebngchmgckaaDoorFpMaps
import Derived.Test.YtpcebngchmgckaaDoorFpOrd
import Derived.Test.YtpcebngchmgckaaDoorFpRf
import Derived.Test.YtpcebngchmgckaaDoorFpRng
import Derived.Test.YtpcebngchmgckaaDoorGuideChancesW1
set_option maxRecDepth 10000
namespace Go.Proofs.YtpcebngchmgckaaDoor
open Go Go.Fp
set_option maxHeartbeats 8000000 in
theorem SlicesIndexFuncLguideOdds_v2_ok  {w : World} {s : Sg} {R : List HP} {pb0 : Nat} {pb1 : Nat} {x0 : List GuideOdds} {a0 : Option Addr} {c0 : Nat} {y0 : List Int} {a_v0 : Option Addr} {c_v0 n_v0 : Nat} {cs_v0 : List Value} {y1 : Int} (hS : St w s (pt pb0 (.cells #[.slice a_v0 n_v0 c_v0] 45 (0, 0)) :: pt pb1 (.cells #[.int .i64 y1] 3 (0, 0)) :: vecC 3 1 a_v0 c_v0 n_v0 cs_v0 :: R)) (h0 : Sl 3 RGuideOdds s a0 c0 x0) (h_v0 : Ev 1 (RI .i64) s cs_v0 y0) (hn_v0 : y0.length = n_v0) {r : Int} (hr : SlicesIndexFuncLguideOdds_v2 x0 y0 y1 = some r) :
  Calls Tryd.prog 118 [.slice a0 x0.length c0, .func (.func 119) #[] #[.pointer (some ⟨pb0, 0, none⟩), .pointer (some ⟨pb1, 0, none⟩)]].toArray w (fun e w => e = .returned (.int .i64 r) ∧ St w s (pt pb0 (.cells #[.slice a_v0 n_v0 c_v0] 45 (0, 0)) :: pt pb1 (.cells #[.int .i64 y1] 3 (0, 0)) :: vecC 3 1 a_v0 c_v0 n_v0 cs_v0 :: R)) := by
 refine enter Tryd.func118 rfl rfl rfl fun a hE => ?_
 rw [SlicesIndexFuncLguideOdds_v2] at hr
 subst hn_v0
 refine W.seq (W.region ?_)
 refine vP hS hE (Gives.p hE rfl) rfl ?_; clear hE a; intro a hE
 refine WL.nil ?_
 refine W.seq ?_
 refine W.seq (W.region ?_)
 refine vP hS hE (Gives.p hE rfl) rfl ?_; clear hE a; intro a hE
 refine vP hS hE (Gives.len hE rfl sl66) rfl ?_; clear hE a; intro a hE
 refine vP hS hE (Gives.p hE rfl) rfl ?_; clear hE a; intro a hE
 refine WL.nil ?_
 obtain ⟨q52, hq51, hr⟩ := bindS hr
 refine W.cut (fun a w => (.next ()) = q52 ∧ Rep a 19 [] ∧ St w s (pt pb0 (.cells #[.slice a_v0 y0.length c_v0] 45 (0, 0)) :: pt pb1 (.cells #[.int .i64 y1] 3 (0, 0)) :: vecC 3 1 a_v0 c_v0 y0.length cs_v0 :: R)) ?_ ?_
 ·refine W.block ?_
  refine W.loop (fun m a w => ∃ (rest55 : List GuideOdds) (k53 : Nat), rest55.length = m ∧ x0.drop k53 = rest55 ∧ SlicesIndexFuncLguideOdds_v2.loop1 y0 y1 rest55 k53 = some q52 ∧ Rep a 19 [(0, .slice a0 x0.length c0), (1, .func (.func 119) #[] #[.pointer (some ⟨pb0, 0, none⟩), .pointer (some ⟨pb1, 0, none⟩)]), (7, .int .i64 ((x0).length : Int)), (8, .int .i64 ((k53 : Nat) : Int))] ∧ St w s (pt pb0 (.cells #[.slice a_v0 y0.length c_v0] 45 (0, 0)) :: pt pb1 (.cells #[.int .i64 y1] 3 (0, 0)) :: vecC 3 1 a_v0 c_v0 y0.length cs_v0 :: R)) (m := x0.length) ⟨x0, 0, rfl, rfl, hq51, hE.pick _ ⟨rfl, rfl, rfl, rfl, trivial⟩, hS⟩ ?_
  clear hE hS a w hq51; rintro m59 a w ⟨rest55, k53, rfl, hd56, hq51, hE, hS⟩
  refine W.gen fun K62 hK62 => ?_
  rcases rest55 with _ | ⟨x54, rest55⟩
  ·have hlt57 := drop_nil hd56
   refine W.seq (W.region ?_)
   refine vP hS hE (Gives.p hE rfl) rfl ?_; clear hE a; intro a hE
   refine WL.nil ?_
   refine W.seq ?_
   refine W.condF hE rfl (decide_eq_false (by omega)) ?_
   subst hK62
   refine W.exit rfl ?_
   exact ⟨Option.some.inj hq51, hE.pick _ trivial, hS⟩
  ·obtain ⟨hlt57, hx58, hd56⟩ := drop_cons hd56
   rw [SlicesIndexFuncLguideOdds_v2.loop1] at hq51
   refine W.seq (W.region ?_)
   refine vP hS hE (Gives.p hE rfl) rfl ?_; clear hE a; intro a hE
   refine WL.nil ?_
   refine W.seq ?_
   refine W.condT hE rfl (decide_eq_true (by omega)) ?_
   refine W.skip ?_
   refine W.seq ?_
   refine W.block ?_
   refine W.seq (W.region ?_)
   refine vP hS hE (Gives.p hE rfl) rfl ?_; clear hE a; intro a hE
   refine vP hS hE (Gives.p hE rfl) rfl ?_; clear hE a; intro a hE
   refine WL.nil ?_
   refine W.seq (W.region ?_)
   refine vP hS hE (Gives.p hE rfl) rfl ?_; clear hE a; intro a hE
   refine vP hS hE (Gives.p hE rfl) rfl ?_; clear hE a; intro a hE
   refine vP hS hE (Gives.p hE rfl) rfl ?_; clear hE a; intro a hE
   obtain ⟨cs63, hl64, hR65, hat66⟩ := h0.at hx58
   obtain ⟨a67, c68, a70, c71, rfl, h69, h72⟩ := hR65
   refine vP hS hE (Gives.idx hE k53 rfl rfl sl66 rfl hlt57 (h0.aok hlt57)) rfl ?_; clear hE a; intro a hE
   refine vP hS hE (Gives.loadA hE rfl (fun w h => hat66 w _ h) ty143) rfl ?_; clear hE a; intro a hE
   obtain ⟨q73, hq74, hq51⟩ := bindS hq51
   have hc_ := GuideNetcount_1_1_v1_ok hS h69 h72 h_v0 (rfl) hq74
   refine WL.fnw hE (hc_) rfl (runs_plain rfl) bd119 rfl rfl rfl ?_
   clear hE hS hc_; rintro e w ⟨rfl, hS⟩; refine ⟨_, rfl, ?_⟩; clear a; intro a hE
   refine WL.nil ?_
   refine W.cond hE rfl (fun hc75 => ?_) (fun hc75 => ?_)
   ·replace hq51 := iteT hc75 hq51
    refine W.seq (W.region ?_)
    refine vP hS hE (Gives.p hE rfl) rfl ?_; clear hE a; intro a hE
    refine vP hS hE (Gives.p hE rfl) rfl ?_; clear hE a; intro a hE
    refine WL.nil ?_
    refine W.ret ?_
    subst hK62
    rw [← Option.some.inj hq51] at hr
    dsimp only at hr
    refine finG (fn := Tryd.f118) (rs := [.tmp 4]) (vs := [_]) hE rfl ⟨rfl, trivial⟩ ?_
    obtain rfl := Option.some.inj hr
    exact ⟨rfl, hS⟩
   ·replace hq51 := iteF hc75 hq51
    refine W.skip ?_
    refine W.region ?_
    refine vP hS hE (Gives.inc hE rfl (by have := h0.small; omega)) rfl ?_; clear hE a; intro a hE
    refine vP hS hE (Gives.p hE rfl) rfl ?_; clear hE a; intro a hE
    refine WL.nil ?_
    subst hK62
    exact ⟨rest55.length, Nat.lt_succ_self _, rest55, k53 + 1, rfl, hd56, hq51, hE.pick _ ⟨rfl, rfl, rfl, rfl, trivial⟩, hS⟩
 ·clear hE hS a w; rintro a w ⟨rfl, hE, hS⟩
  dsimp only at hr
  refine W.seq (W.region ?_)
  refine vP hS hE (Gives.p hE rfl) rfl ?_; clear hE a; intro a hE
  refine WL.nil ?_
  refine W.ret ?_
  refine finG (fn := Tryd.f118) (rs := [.tmp 4]) (vs := [_]) hE rfl ⟨rfl, trivial⟩ ?_
  obtain rfl := Option.some.inj hr
  exact ⟨rfl, hS⟩
set_option maxHeartbeats 8000000 in
theorem GuideNetcount_1_v1_ok : ∀ {fu : Nat} {w : World} {s : Sg} {R : List HP} {pb0 : Nat} {pb1 : Nat} {pb2 : Nat} {pb3 : Nat} {pb4 : Nat} {pb5 : Nat} {pb6 : Nat} {x0 : Int} {x1 : Int} {y0 : List Int} {a_v0 : Option Addr} {c_v0 n_v0 : Nat} {cs_v0 : List Value} {y1 : List GuideOdds} {a_y1_0 : Option Addr} {c_y1_0 : Nat} {y3_0 : List (Int × Int)} {b_v1 : Nat} {y4 : GuideCases} {y5 : GuideJourney} {a_y5_0 : Option Addr} {c_y5_0 : Nat} {y6 : GuideNet} {a_y6_0 : Option Addr} {c_y6_0 : Nat} {a_y6_1 : Option Addr} {c_y6_1 : Nat} (_hS : St w s (pt pb0 (.cells #[.slice a_v0 n_v0 c_v0] 45 (0, 0)) :: pt pb1 (.cells #[.slice a_y1_0 y1.length c_y1_0] 66 (0, 0)) :: pt pb2 (.cells #[.func (.func 117) #[] #[.pointer (some ⟨pb0, 0, none⟩), .pointer (some ⟨pb1, 0, none⟩), .pointer (some ⟨pb2, 0, none⟩), .pointer (some ⟨pb3, 0, none⟩), .pointer (some ⟨pb4, 0, none⟩), .pointer (some ⟨pb5, 0, none⟩), .pointer (some ⟨pb6, 0, none⟩)]] 145 (0, 0)) :: pt pb3 (.cells #[.map (some b_v1)] 144 (0, 0)) :: pt pb4 (.cells #[.int .i64 y4.holds, .int .i64 y4.all, .int .i64 y4.late] 140 (0, 0)) :: pt pb5 (.cells #[.slice a_y5_0 y5.Rides.length c_y5_0] 28 (0, 0)) :: pt pb6 (.cells #[.slice a_y6_0 y6.Day.Trains.length c_y6_0, .slice a_y6_1 y6.Day.Turns.length c_y6_1, .int .i64 y6.least] 94 (0, 0)) :: vecC 3 1 a_v0 c_v0 n_v0 cs_v0 :: mapC keyI.f (Value.int .i64) b_v1 y3_0 :: R)) (_h_v0 : Ev 1 (RI .i64) s cs_v0 y0) (_hn_v0 : y0.length = n_v0) (_h_y1_0 : Sl 3 RGuideOdds s a_y1_0 c_y1_0 y1) (_h_y5_0 : Sl 3 RGuideRide s a_y5_0 c_y5_0 y5.Rides) (_h_y6_0 : Sl 4 RApiTrain s a_y6_0 c_y6_0 y6.Day.Trains) (_h_y6_1 : Sl 1 (RL 1 (RI .i64)) s a_y6_1 c_y6_1 y6.Day.Turns) {r : (List (Int × Int)) × Int × Int × Int} (_hr : GuideNetcount_1_v1 fu x0 x1 y0 y1 y3_0 y4 y5 y6 = some r),
  Calls Tryd.prog 117 [.int .i64 x0, .int .i64 x1, .pointer (some ⟨pb0, 0, none⟩), .pointer (some ⟨pb1, 0, none⟩), .pointer (some ⟨pb2, 0, none⟩), .pointer (some ⟨pb3, 0, none⟩), .pointer (some ⟨pb4, 0, none⟩), .pointer (some ⟨pb5, 0, none⟩), .pointer (some ⟨pb6, 0, none⟩)].toArray w (fun e w => e = .returned (.tuple #[]) ∧ St w s (pt pb0 (.cells #[.slice a_v0 n_v0 c_v0] 45 (0, 0)) :: pt pb1 (.cells #[.slice a_y1_0 y1.length c_y1_0] 66 (0, 0)) :: pt pb2 (.cells #[.func (.func 117) #[] #[.pointer (some ⟨pb0, 0, none⟩), .pointer (some ⟨pb1, 0, none⟩), .pointer (some ⟨pb2, 0, none⟩), .pointer (some ⟨pb3, 0, none⟩), .pointer (some ⟨pb4, 0, none⟩), .pointer (some ⟨pb5, 0, none⟩), .pointer (some ⟨pb6, 0, none⟩)]] 145 (0, 0)) :: pt pb3 (.cells #[.map (some b_v1)] 144 (0, 0)) :: pt pb4 (.cells #[.int .i64 r.2.1, .int .i64 r.2.2.1, .int .i64 r.2.2.2] 140 (0, 0)) :: pt pb5 (.cells #[.slice a_y5_0 y5.Rides.length c_y5_0] 28 (0, 0)) :: pt pb6 (.cells #[.slice a_y6_0 y6.Day.Trains.length c_y6_0, .slice a_y6_1 y6.Day.Turns.length c_y6_1, .int .i64 y6.least] 94 (0, 0)) :: vecC 3 1 a_v0 c_v0 n_v0 cs_v0 :: mapC keyI.f (Value.int .i64) b_v1 r.1 :: R)) := by
 intro fu
 induction fu with
 | zero => intro w s R pb0 pb1 pb2 pb3 pb4 pb5 pb6 x0 x1 y0 a_v0 c_v0 n_v0 cs_v0 y1 a_y1_0 c_y1_0 y3_0 b_v1 y4 y5 a_y5_0 c_y5_0 y6 a_y6_0 c_y6_0 a_y6_1 c_y6_1 hS h_v0 hn_v0 h_y1_0 h_y5_0 h_y6_0 h_y6_1 r hr; rw [GuideNetcount_1_v1] at hr; exact absurd hr (by simp)
 | succ fu ih_GuideNetcount_1_v1 =>
  intro w s R pb0 pb1 pb2 pb3 pb4 pb5 pb6 x0 x1 y0 a_v0 c_v0 n_v0 cs_v0 y1 a_y1_0 c_y1_0 y3_0 b_v1 y4 y5 a_y5_0 c_y5_0 y6 a_y6_0 c_y6_0 a_y6_1 c_y6_1 hS h_v0 hn_v0 h_y1_0 h_y5_0 h_y6_0 h_y6_1 r hr
  rw [GuideNetcount_1_v1] at hr
  generalize GuideNetcount_1_v1 fu = self_GuideNetcount_1_v1 at hr ih_GuideNetcount_1_v1
  refine enter Tryd.func117 rfl rfl rfl fun a hE => ?_
  subst hn_v0
  refine W.seq (W.region ?_)
  refine WL.box hE hS (runs_plain rfl) rfl rfl rfl ?_; clear hE hS a w; intro b55 a w hE hS
  refine WL.nil ?_
  refine W.seq ?_
  refine W.seq (W.region ?_)
  refine vP hS hE (Gives.loadB hE 0 rfl rfl rfl ty3) rfl ?_; clear hE a; intro a hE
  refine vP hS hE (Gives.loadB hE 1 rfl rfl rfl ty45) rfl ?_; clear hE a; intro a hE
  refine vP hS hE (Gives.len hE rfl sl45) rfl ?_; clear hE a; intro a hE
  refine vP hS hE (Gives.p hE rfl) rfl ?_; clear hE a; intro a hE
  refine WL.nil ?_
  refine W.cond hE rfl (fun hc56 => ?_) (fun hc56 => ?_)
  ·replace hr := iteT hc56 hr
   refine W.seq (W.region ?_)
   refine vP hS hE (Gives.loadB hE 2 rfl rfl rfl ty66) rfl ?_; clear hE a; intro a hE
   refine vP hS hE (Gives.mkfn hE (vs := [.pointer (some ⟨pb0, 0, none⟩), .pointer (some ⟨b55, 0, none⟩)]) rfl) rfl ?_; clear hE a; intro a hE
   obtain ⟨q57, hq58, hr⟩ := bindS hr
   replace hS := hS.front 8 rfl
   replace hS := hS.front 1 rfl
   replace hS := hS.front 2 rfl
   have hc_ := SlicesIndexFuncLguideOdds_v2_ok hS h_y1_0 h_v0 (rfl) hq58
   refine WL.fnq hE (hc_) (runs_plain rfl) bd118 rfl rfl rfl ?_
   clear hE hS hc_; rintro e w ⟨rfl, hS⟩; refine ⟨_, rfl, ?_⟩; clear a; intro a hE
   refine vP hS hE (Gives.p hE rfl) rfl ?_; clear hE a; intro a hE
   refine WL.nil ?_
   refine W.seq ?_
   refine W.seq (W.region ?_)
   refine vP hS hE (Gives.p hE rfl) rfl ?_; clear hE a; intro a hE
   refine vP hS hE (Gives.p hE rfl) rfl ?_; clear hE a; intro a hE
   refine WL.nil ?_
   refine W.cond hE rfl (fun hc59 => ?_) (fun hc59 => ?_)
   ·replace hr := iteT hc59 hr
    refine W.seq (W.region ?_)
    refine vP hS hE (Gives.loadB hE 4 rfl rfl rfl ty145) rfl ?_; clear hE a; intro a hE
    refine vP hS hE (Gives.loadB hE 1 rfl rfl rfl ty3) rfl ?_; clear hE a; intro a hE
    refine vP hS hE (Gives.p hE rfl) rfl ?_; clear hE a; intro a hE
    refine vP hS hE (Gives.p hE rfl) rfl ?_; clear hE a; intro a hE
    obtain ⟨q60, hq61, hr⟩ := bindS hr
    replace hS := hS.front 9 rfl
    replace hS := hS.front 3 rfl
    replace hS := hS.front 9 rfl
    replace hS := hS.front 9 rfl
    replace hS := hS.front 9 rfl
    replace hS := hS.front 9 rfl
    replace hS := hS.front 9 rfl
    replace hS := hS.front 9 rfl
    replace hS := hS.front 8 rfl
    have hc_ := ih_GuideNetcount_1_v1 (y4 := y4) (y6 := y6) hS h_v0 (rfl) h_y1_0 h_y5_0 h_y6_0 h_y6_1 hq61
    refine WL.fnw hE (hc_) rfl (runs_plain rfl) bd117 rfl rfl rfl ?_
    clear hE hS hc_; rintro e w ⟨rfl, hS⟩; refine ⟨_, rfl, ?_⟩; clear a; intro a hE
    refine WL.nil ?_
    refine W.ret ?_
    refine finG (fn := Tryd.f117) (rs := []) (vs := []) hE rfl trivial ?_
    obtain rfl := Option.some.inj hr
    replace hS := hS.dropAt 9
    exact ⟨rfl, hS⟩
   ·replace hr := iteF hc59 hr
    refine W.skip ?_
    refine W.seq ?_
    refine W.seq (W.region ?_)
    refine vP hS hE (Gives.loadB hE 3 rfl rfl rfl ty66) rfl ?_; clear hE a; intro a hE
    refine vP hS hE (Gives.p hE rfl) rfl ?_; clear hE a; intro a hE
    obtain ⟨x62, hx63, hr⟩ := bindS hr
    obtain ⟨hi64, hlt65, hy66⟩ := gx_some hx63
    obtain ⟨cs67, hl68, hR69, hat70⟩ := h_y1_0.at hy66
    obtain ⟨a71, c72, a74, c75, rfl, h73, h76⟩ := hR69
    refine vP hS hE (Gives.idx hE (q57).toNat rfl rfl sl66 hi64 hlt65 (h_y1_0.aok hlt65)) rfl ?_; clear hE a; intro a hE
    refine vP hS hE (Gives.fld hE rfl fl143_1) rfl ?_; clear hE a; intro a hE
    refine vP hS hE (Gives.load1 hE rfl (fun w h => (hat70 w _ h).one rfl) ty45) rfl ?_; clear hE a; intro a hE
    refine vP hS hE (Gives.len hE rfl sl45) rfl ?_; clear hE a; intro a hE
    refine vP hS hE (Gives.p hE rfl) rfl ?_; clear hE a; intro a hE
    refine WL.nil ?_
    obtain ⟨q78, hq77, hr⟩ := bindS hr
    refine W.cut (fun a w => ∃ (q88 : List (Int × Int)), ∃ (q89 : Int), ∃ (q90 : Int), ∃ (q91 : Int), (q88, q89, q90, q91) = q78 ∧ Rep a 129 [] ∧ St w s (pt pb0 (.cells #[.slice a_v0 y0.length c_v0] 45 (0, 0)) :: pt b55 (.cells #[.int .i64 x0] 3 (0, 0)) :: vecC 3 1 a_v0 c_v0 y0.length cs_v0 :: pt pb1 (.cells #[.slice a_y1_0 y1.length c_y1_0] 66 (0, 0)) :: pt pb2 (.cells #[.func (.func 117) #[] #[.pointer (some ⟨pb0, 0, none⟩), .pointer (some ⟨pb1, 0, none⟩), .pointer (some ⟨pb2, 0, none⟩), .pointer (some ⟨pb3, 0, none⟩), .pointer (some ⟨pb4, 0, none⟩), .pointer (some ⟨pb5, 0, none⟩), .pointer (some ⟨pb6, 0, none⟩)]] 145 (0, 0)) :: pt pb3 (.cells #[.map (some b_v1)] 144 (0, 0)) :: pt pb4 (.cells #[.int .i64 q89, .int .i64 q90, .int .i64 q91] 140 (0, 0)) :: pt pb5 (.cells #[.slice a_y5_0 y5.Rides.length c_y5_0] 28 (0, 0)) :: pt pb6 (.cells #[.slice a_y6_0 y6.Day.Trains.length c_y6_0, .slice a_y6_1 y6.Day.Turns.length c_y6_1, .int .i64 y6.least] 94 (0, 0)) :: mapC keyI.f (Value.int .i64) b_v1 q88 :: R)) ?_ ?_
    ·refine W.block ?_
     refine W.loop (fun m a w => ∃ (rest81 : List Int) (k79 : Nat), ∃ (q88 : List (Int × Int)), ∃ (q89 : Int), ∃ (q90 : Int), ∃ (q91 : Int), rest81.length = m ∧ x62.Late.drop k79 = rest81 ∧ GuideNetcount_1_v1.loop1 x0 x1 y0 y1 y5 y6 self_GuideNetcount_1_v1 q57 rest81 k79 q88 q89 q90 q91 = some q78 ∧ Rep a 129 [(1, .int .i64 x1), (2, .pointer (some ⟨pb0, 0, none⟩)), (3, .pointer (some ⟨pb1, 0, none⟩)), (4, .pointer (some ⟨pb2, 0, none⟩)), (5, .pointer (some ⟨pb3, 0, none⟩)), (9, .pointer (some ⟨b55, 0, none⟩)), (11, .int .i64 q57), (35, .slice a71 x62.Late.length c72), (36, .int .i64 ((x62.Late).length : Int)), (37, .int .i64 ((k79 : Nat) : Int))] ∧ St w s (pt pb0 (.cells #[.slice a_v0 y0.length c_v0] 45 (0, 0)) :: pt b55 (.cells #[.int .i64 x0] 3 (0, 0)) :: vecC 3 1 a_v0 c_v0 y0.length cs_v0 :: pt pb1 (.cells #[.slice a_y1_0 y1.length c_y1_0] 66 (0, 0)) :: pt pb2 (.cells #[.func (.func 117) #[] #[.pointer (some ⟨pb0, 0, none⟩), .pointer (some ⟨pb1, 0, none⟩), .pointer (some ⟨pb2, 0, none⟩), .pointer (some ⟨pb3, 0, none⟩), .pointer (some ⟨pb4, 0, none⟩), .pointer (some ⟨pb5, 0, none⟩), .pointer (some ⟨pb6, 0, none⟩)]] 145 (0, 0)) :: pt pb3 (.cells #[.map (some b_v1)] 144 (0, 0)) :: pt pb4 (.cells #[.int .i64 q89, .int .i64 q90, .int .i64 q91] 140 (0, 0)) :: pt pb5 (.cells #[.slice a_y5_0 y5.Rides.length c_y5_0] 28 (0, 0)) :: pt pb6 (.cells #[.slice a_y6_0 y6.Day.Trains.length c_y6_0, .slice a_y6_1 y6.Day.Turns.length c_y6_1, .int .i64 y6.least] 94 (0, 0)) :: mapC keyI.f (Value.int .i64) b_v1 q88 :: R)) (m := x62.Late.length) ⟨x62.Late, 0, y3_0, y4.holds, y4.all, y4.late, rfl, rfl, hq77, hE.pick _ ⟨rfl, rfl, rfl, rfl, rfl, rfl, rfl, rfl, rfl, rfl, trivial⟩, hS⟩ ?_
     clear hE hS a w hq77; rintro m85 a w ⟨rest81, k79, q88, q89, q90, q91, rfl, hd82, hq77, hE, hS⟩
     refine W.gen fun K92 hK92 => ?_
     rcases rest81 with _ | ⟨x80, rest81⟩
     ·have hlt83 := drop_nil hd82
      refine W.seq (W.region ?_)
      refine vP hS hE (Gives.p hE rfl) rfl ?_; clear hE a; intro a hE
      refine WL.nil ?_
      refine W.seq ?_
      refine W.condF hE rfl (decide_eq_false (by omega)) ?_
      subst hK92
      refine W.exit rfl ?_
      exact ⟨q88, q89, q90, q91, Option.some.inj hq77, hE.pick _ trivial, hS⟩
     ·obtain ⟨hlt83, hx84, hd82⟩ := drop_cons hd82
      rw [GuideNetcount_1_v1.loop1] at hq77
      refine W.seq (W.region ?_)
      refine vP hS hE (Gives.p hE rfl) rfl ?_; clear hE a; intro a hE
      refine WL.nil ?_
      refine W.seq ?_
      refine W.condT hE rfl (decide_eq_true (by omega)) ?_
      refine W.skip ?_
      refine W.seq ?_
      refine W.block ?_
      refine W.seq (W.region ?_)
      refine vP hS hE (Gives.p hE rfl) rfl ?_; clear hE a; intro a hE
      obtain ⟨cs93, hl94, hR95, hat96⟩ := h73.at hx84
      subst hR95
      refine vP hS hE (Gives.idx hE k79 rfl rfl sl45 rfl hlt83 (h73.aok hlt83)) rfl ?_; clear hE a; intro a hE
      refine vP hS hE (Gives.load1 hE rfl (fun w h => hat96 w _ h) ty3) rfl ?_; clear hE a; intro a hE
      refine vP hS hE (Gives.p hE rfl) rfl ?_; clear hE a; intro a hE
      refine vP hS hE (Gives.p hE rfl) rfl ?_; clear hE a; intro a hE
      refine WL.nil ?_
      refine W.seq ?_
      refine W.gen fun K97 hK97 => ?_
      refine W.regionE (sel (fun w => St w s (pt pb0 (.cells #[.slice a_v0 y0.length c_v0] 45 (0, 0)) :: pt b55 (.cells #[.int .i64 x0] 3 (0, 0)) :: vecC 3 1 a_v0 c_v0 y0.length cs_v0 :: pt pb1 (.cells #[.slice a_y1_0 y1.length c_y1_0] 66 (0, 0)) :: pt pb2 (.cells #[.func (.func 117) #[] #[.pointer (some ⟨pb0, 0, none⟩), .pointer (some ⟨pb1, 0, none⟩), .pointer (some ⟨pb2, 0, none⟩), .pointer (some ⟨pb3, 0, none⟩), .pointer (some ⟨pb4, 0, none⟩), .pointer (some ⟨pb5, 0, none⟩), .pointer (some ⟨pb6, 0, none⟩)]] 145 (0, 0)) :: pt pb3 (.cells #[.map (some b_v1)] 144 (0, 0)) :: pt pb4 (.cells #[.int .i64 q89, .int .i64 q90, .int .i64 q91] 140 (0, 0)) :: pt pb5 (.cells #[.slice a_y5_0 y5.Rides.length c_y5_0] 28 (0, 0)) :: pt pb6 (.cells #[.slice a_y6_0 y6.Day.Trains.length c_y6_0, .slice a_y6_1 y6.Day.Turns.length c_y6_1, .int .i64 y6.least] 94 (0, 0)) :: mapC keyI.f (Value.int .i64) b_v1 q88 :: R)) (fun w => St w s (pt pb0 (.cells #[.slice a_v0 y0.length c_v0] 45 (0, 0)) :: pt b55 (.cells #[.int .i64 x0] 3 (0, 0)) :: vecC 3 1 a_v0 c_v0 y0.length cs_v0 :: pt pb1 (.cells #[.slice a_y1_0 y1.length c_y1_0] 66 (0, 0)) :: pt pb2 (.cells #[.func (.func 117) #[] #[.pointer (some ⟨pb0, 0, none⟩), .pointer (some ⟨pb1, 0, none⟩), .pointer (some ⟨pb2, 0, none⟩), .pointer (some ⟨pb3, 0, none⟩), .pointer (some ⟨pb4, 0, none⟩), .pointer (some ⟨pb5, 0, none⟩), .pointer (some ⟨pb6, 0, none⟩)]] 145 (0, 0)) :: pt pb3 (.cells #[.map (some b_v1)] 144 (0, 0)) :: pt pb4 (.cells #[.int .i64 q89, .int .i64 q90, .int .i64 q91] 140 (0, 0)) :: pt pb5 (.cells #[.slice a_y5_0 y5.Rides.length c_y5_0] 28 (0, 0)) :: pt pb6 (.cells #[.slice a_y6_0 y6.Day.Trains.length c_y6_0, .slice a_y6_1 y6.Day.Turns.length c_y6_1, .int .i64 y6.least] 94 (0, 0)) :: R))) (fun b i => cond b ([0, 1, 2, 3, 4, 5].contains i) ([0, 1, 2, 3, 4, 5, 6].contains i)) mixed ?_
      replace hS := hS.drew
      have hT := tw_sel (A := fun w => St w s _) (B := fun w => St w s _) (w := _) (x := true) (y := true) (fun _ => hS) (fun _ => (hS.dropAt 9))
      have hF := hS; replace hS := hS
      refine Rg.take (i := 0) true rfl hE rfl (by kernel_rfl) (runs_plain rfl) (Gives.loadB hE 5 rfl rfl rfl ty144) rfl hT ?_; clear hE a; intro a hE
      replace hS := hF; clear hF hT
      have hT := tw_sel (A := fun w => St w s _) (B := fun w => St w s _) (w := _) (x := true) (y := true) (fun _ => hS) (fun _ => (hS.dropAt 9))
      have hF := hS; replace hS := hS
      refine Rg.take (i := 1) true rfl hE rfl (by kernel_rfl) (runs_plain rfl) (Gives.loadB hE 0 rfl rfl rfl ty45) rfl hT ?_; clear hE a; intro a hE
      replace hS := hF; clear hF hT
      have hT := tw_sel (A := fun w => St w s _) (B := fun w => St w s _) (w := _) (x := true) (y := true) (fun _ => hS) (fun _ => (hS.dropAt 9))
      have hF := hS; replace hS := hS
      refine Rg.take (i := 2) true rfl hE rfl (by kernel_rfl) (runs_plain rfl) (Gives.loadB hE 1 rfl rfl rfl ty3) rfl hT ?_; clear hE a; intro a hE
      replace hS := hF; clear hF hT
      obtain ⟨x98, hx99, hq77⟩ := bindS hq77
      obtain ⟨hi100, hlt101, hy102⟩ := gx_some hx99
      obtain ⟨vs103, hl104, hR105, hd106, hget107⟩ := h_v0.at hy102
      subst hR105
      refine Rg.takeP (i := 3) hE rfl (by kernel_rfl) (runs_plain rfl) (Gives.idx hE ((x0).toNat) rfl rfl sl45 hi100 (by omega) (hS.vecAok 2 rfl (by omega : (x0).toNat < y0.length))) rfl (tw_sel (fun _ => hS) (fun _ => (hS.dropAt 9))) ?_; clear hE a; intro a hE
      have hT := tw_sel (A := fun w => St w s _) (B := fun w => St w s _) (w := _) (x := true) (y := true) (fun _ => hS) (fun _ => (hS.dropAt 9))
      have hF := hS; replace hS := hS
      refine Rg.take (i := 4) true rfl hE rfl (by kernel_rfl) (runs_plain rfl) (Gives.load1 hE rfl (fun w h => St.vecSees h 2 rfl ((x0).toNat * 1) _ hget107) ty3) rfl hT ?_; clear hE a; intro a hE
      replace hS := hF; clear hF hT
      refine Rg.takeP (i := 5) hE rfl (by kernel_rfl) (runs_plain rfl) (Gives.p hE rfl) rfl (tw_sel (fun _ => hS) (fun _ => (hS.dropAt 9))) ?_; clear hE a; intro a hE
      refine Rg.one (i := 6) false true rfl (by kernel_rfl) (by kernel_rfl) (by kernel_rfl) ?_
      refine WL.mapSet keyI hE hS 9 (k := x98) (v := x80) (.inl rfl) (runs_plain rfl) rfl rfl rfl rfl mp144 rfl ?_; clear hE hS a w; intro a w hE hS
      refine WL.nil ?_
      refine ⟨⟨fun h => absurd h (by decide), fun _ => (hS.dropAt 9)⟩, ?_⟩
      refine Rg.done (by kernel_rfl) ?_
      subst hK97
      refine W.gen fun K108 hK108 => ?_
      refine W.regionE (sel (fun w => St w s (pt pb0 (.cells #[.slice a_v0 y0.length c_v0] 45 (0, 0)) :: pt b55 (.cells #[.int .i64 x0] 3 (0, 0)) :: vecC 3 1 a_v0 c_v0 y0.length cs_v0 :: pt pb1 (.cells #[.slice a_y1_0 y1.length c_y1_0] 66 (0, 0)) :: pt pb2 (.cells #[.func (.func 117) #[] #[.pointer (some ⟨pb0, 0, none⟩), .pointer (some ⟨pb1, 0, none⟩), .pointer (some ⟨pb2, 0, none⟩), .pointer (some ⟨pb3, 0, none⟩), .pointer (some ⟨pb4, 0, none⟩), .pointer (some ⟨pb5, 0, none⟩), .pointer (some ⟨pb6, 0, none⟩)]] 145 (0, 0)) :: pt pb3 (.cells #[.map (some b_v1)] 144 (0, 0)) :: pt pb4 (.cells #[.int .i64 q89, .int .i64 q90, .int .i64 q91] 140 (0, 0)) :: pt pb5 (.cells #[.slice a_y5_0 y5.Rides.length c_y5_0] 28 (0, 0)) :: pt pb6 (.cells #[.slice a_y6_0 y6.Day.Trains.length c_y6_0, .slice a_y6_1 y6.Day.Turns.length c_y6_1, .int .i64 y6.least] 94 (0, 0)) :: mapC keyI.f (Value.int .i64) b_v1 (mput q88 x98 x80) :: R)) (fun w => St w s (pt pb0 (.cells #[.slice a_v0 y0.length c_v0] 45 (0, 0)) :: pt b55 (.cells #[.int .i64 x0] 3 (0, 0)) :: vecC 3 1 a_v0 c_v0 y0.length cs_v0 :: pt pb1 (.cells #[.slice a_y1_0 y1.length c_y1_0] 66 (0, 0)) :: pt pb2 (.cells #[.func (.func 117) #[] #[.pointer (some ⟨pb0, 0, none⟩), .pointer (some ⟨pb1, 0, none⟩), .pointer (some ⟨pb2, 0, none⟩), .pointer (some ⟨pb3, 0, none⟩), .pointer (some ⟨pb4, 0, none⟩), .pointer (some ⟨pb5, 0, none⟩), .pointer (some ⟨pb6, 0, none⟩)]] 145 (0, 0)) :: pt pb3 (.cells #[.map (some b_v1)] 144 (0, 0)) :: pt pb5 (.cells #[.slice a_y5_0 y5.Rides.length c_y5_0] 28 (0, 0)) :: pt pb6 (.cells #[.slice a_y6_0 y6.Day.Trains.length c_y6_0, .slice a_y6_1 y6.Day.Turns.length c_y6_1, .int .i64 y6.least] 94 (0, 0)) :: R))) (fun b i => cond b ([0, 1, 2, 3, 4, 5, 6, 7, 8, 9, 10, 11, 12].contains i) ([0, 1, 2, 3, 4, 5, 6, 7, 8, 9, 10, 11, 12, 13].contains i)) mixed ?_
      replace hS := hS.drew
      have hT := tw_sel (A := fun w => St w s _) (B := fun w => St w s _) (w := _) (x := true) (y := true) (fun _ => hS) (fun _ => ((hS.dropAt 6).dropAt 8))
      have hF := hS; replace hS := hS
      refine Rg.take (i := 0) true rfl hE rfl (by kernel_rfl) (runs_plain rfl) (Gives.loadB hE 4 rfl rfl rfl ty145) rfl hT ?_; clear hE a; intro a hE
      replace hS := hF; clear hF hT
      have hT := tw_sel (A := fun w => St w s _) (B := fun w => St w s _) (w := _) (x := true) (y := true) (fun _ => hS) (fun _ => ((hS.dropAt 6).dropAt 8))
      have hF := hS; replace hS := ((hS.dropAt 6).dropAt 8)
      refine Rg.take (i := 1) false rfl hE rfl (by kernel_rfl) (runs_plain rfl) (Gives.loadB hE 1 rfl rfl rfl ty3) rfl hT ?_; clear hE a; intro a hE
      replace hS := hF; clear hF hT
      refine Rg.takeP (i := 2) hE rfl (by kernel_rfl) (runs_plain rfl) (Gives.p hE rfl) rfl (tw_sel (fun _ => hS) (fun _ => ((hS.dropAt 6).dropAt 8))) ?_; clear hE a; intro a hE
      refine Rg.takeP (i := 3) hE rfl (by kernel_rfl) (runs_plain rfl) (Gives.p hE rfl) rfl (tw_sel (fun _ => hS) (fun _ => ((hS.dropAt 6).dropAt 8))) ?_; clear hE a; intro a hE
      have hT := tw_sel (A := fun w => St w s _) (B := fun w => St w s _) (w := _) (x := true) (y := true) (fun _ => hS) (fun _ => ((hS.dropAt 6).dropAt 8))
      have hF := hS; replace hS := ((hS.dropAt 6).dropAt 8)
      refine Rg.take (i := 4) false rfl hE rfl (by kernel_rfl) (runs_plain rfl) (Gives.loadB hE 3 rfl rfl rfl ty66) rfl hT ?_; clear hE a; intro a hE
      replace hS := hF; clear hF hT
      refine Rg.takeP (i := 5) hE rfl (by kernel_rfl) (runs_plain rfl) (Gives.p hE rfl) rfl (tw_sel (fun _ => hS) (fun _ => ((hS.dropAt 6).dropAt 8))) ?_; clear hE a; intro a hE
      obtain ⟨x109, hx110, hq77⟩ := bindS hq77
      obtain ⟨hi111, hlt112, hy113⟩ := gx_some hx110
      obtain ⟨cs114, hl115, hR116, hat117⟩ := h_y1_0.at hy113
      obtain ⟨a118, c119, a121, c122, rfl, h120, h123⟩ := hR116
      refine Rg.takeP (i := 6) hE rfl (by kernel_rfl) (runs_plain rfl) (Gives.idx hE (q57).toNat rfl rfl sl66 hi111 hlt112 (h_y1_0.aok hlt112)) rfl (tw_sel (fun _ => hS) (fun _ => ((hS.dropAt 6).dropAt 8))) ?_; clear hE a; intro a hE
      refine Rg.takeP (i := 7) hE rfl (by kernel_rfl) (runs_plain rfl) (Gives.fld hE rfl fl143_2) rfl (tw_sel (fun _ => hS) (fun _ => ((hS.dropAt 6).dropAt 8))) ?_; clear hE a; intro a hE
      have hT := tw_sel (A := fun w => St w s _) (B := fun w => St w s _) (w := _) (x := true) (y := true) (fun _ => hS) (fun _ => ((hS.dropAt 6).dropAt 8))
      have hF := hS; replace hS := ((hS.dropAt 6).dropAt 8)
      refine Rg.take (i := 8) false rfl hE rfl (by kernel_rfl) (runs_plain rfl) (Gives.load1 hE rfl (fun w h => (hat117 w _ h).one rfl) ty45) rfl hT ?_; clear hE a; intro a hE
      replace hS := hF; clear hF hT
      refine Rg.takeP (i := 9) hE rfl (by kernel_rfl) (runs_plain rfl) (Gives.p hE rfl) rfl (tw_sel (fun _ => hS) (fun _ => ((hS.dropAt 6).dropAt 8))) ?_; clear hE a; intro a hE
      obtain ⟨x124, hx125, hq77⟩ := bindS hq77
      obtain ⟨hi126, hlt127, hy128⟩ := gx_some hx125
      obtain ⟨cs129, hl130, hR131, hat132⟩ := h123.at hy128
      subst hR131
      refine Rg.takeP (i := 10) hE rfl (by kernel_rfl) (runs_plain rfl) (Gives.idx hE (((k79 : Nat) : Int)).toNat rfl rfl sl45 hi126 hlt127 (h123.aok hlt127)) rfl (tw_sel (fun _ => hS) (fun _ => ((hS.dropAt 6).dropAt 8))) ?_; clear hE a; intro a hE
      have hT := tw_sel (A := fun w => St w s _) (B := fun w => St w s _) (w := _) (x := true) (y := true) (fun _ => hS) (fun _ => ((hS.dropAt 6).dropAt 8))
      have hF := hS; replace hS := ((hS.dropAt 6).dropAt 8)
      refine Rg.take (i := 11) false rfl hE rfl (by kernel_rfl) (runs_plain rfl) (Gives.load1 hE rfl (fun w h => hat132 w _ h) ty3) rfl hT ?_; clear hE a; intro a hE
      replace hS := hF; clear hF hT
      refine Rg.takeP (i := 12) hE rfl (by kernel_rfl) (runs_plain rfl) (Gives.p hE rfl) rfl (tw_sel (fun _ => hS) (fun _ => ((hS.dropAt 6).dropAt 8))) ?_; clear hE a; intro a hE
      refine Rg.one (i := 13) false true rfl (by kernel_rfl) (by kernel_rfl) (by kernel_rfl) ?_
      obtain ⟨q133, hq134, hq77⟩ := bindS hq77
      replace hS := hS.front 9 rfl
      replace hS := hS.front 3 rfl
      replace hS := hS.front 9 rfl
      replace hS := hS.front 9 rfl
      replace hS := hS.front 9 rfl
      replace hS := hS.front 9 rfl
      replace hS := hS.front 9 rfl
      replace hS := hS.front 9 rfl
      replace hS := hS.front 8 rfl
      have hc_ := ih_GuideNetcount_1_v1 (y4 := (GuideCases.mk q89 q90 q91)) (y6 := y6) hS h_v0 (rfl) h_y1_0 h_y5_0 h_y6_0 h_y6_1 hq134
      refine WL.fnw hE (hc_) rfl (runs_plain rfl) bd117 rfl rfl rfl ?_
      clear hE hS hc_; rintro e w ⟨rfl, hS⟩; refine ⟨_, rfl, ?_⟩; clear a; intro a hE
      refine WL.nil ?_
      refine ⟨⟨fun h => absurd h (by decide), fun _ => (St.front (St.front (St.front (St.front (St.front (St.front (St.front (St.front ((hS.dropAt 4).dropAt 7) 5 rfl) 5 rfl) 5 rfl) 5 rfl) 5 rfl) 6 rfl) 7 rfl) 7 rfl)⟩, ?_⟩
      refine Rg.done (by kernel_rfl) ?_
      subst hK108
      refine W.region ?_
      refine vP hS hE (Gives.inc hE rfl (by have := h73.small; omega)) rfl ?_; clear hE a; intro a hE
      refine vP hS hE (Gives.p hE rfl) rfl ?_; clear hE a; intro a hE
      refine WL.nil ?_
      replace hS := hS.order [0, 8, 6, 0, 0, 0, 0, 0, 0, 0] rfl
      subst hK92
      exact ⟨rest81.length, Nat.lt_succ_self _, rest81, k79 + 1, q133.1, q133.2.1, q133.2.2.1, q133.2.2.2, rfl, hd82, hq77, hE.pick _ ⟨rfl, rfl, rfl, rfl, rfl, rfl, rfl, rfl, rfl, rfl, trivial⟩, hS⟩
    ·clear hE hS a w; rintro a w ⟨q88, q89, q90, q91, rfl, hE, hS⟩
     dsimp only at hr
     refine W.ret ?_
     refine finG (fn := Tryd.f117) (rs := []) (vs := []) hE rfl trivial ?_
     obtain rfl := Option.some.inj hr
     replace hS := hS.front 9 rfl
     replace hS := hS.front 3 rfl
     replace hS := hS.front 9 rfl
     replace hS := hS.front 9 rfl
     replace hS := hS.front 9 rfl
     replace hS := hS.front 9 rfl
     replace hS := hS.front 9 rfl
     replace hS := hS.front 9 rfl
     replace hS := hS.front 8 rfl
     replace hS := hS.dropAt 9
     exact ⟨rfl, hS⟩
  ·replace hr := iteF hc56 hr
   refine W.skip ?_
   refine W.seq (W.region ?_)
   refine vP hS hE (Gives.fld hE rfl fl140_1) rfl ?_; clear hE a; intro a hE
   refine vP hS hE (Gives.loadB hE 5 rfl rfl rfl ty3) rfl ?_; clear hE a; intro a hE
   refine vP hS hE (Gives.p hE rfl) rfl ?_; clear hE a; intro a hE
   refine vP hS hE (Gives.p hE rfl) rfl ?_; clear hE a; intro a hE
   refine vP hS hE (Gives.fld hE rfl fl140_1) rfl ?_; clear hE a; intro a hE
   refine WL.storeI hE hS 5 rfl [.int .i64 y4.holds, .int .i64 (w64 (y4.all + x1)), .int .i64 y4.late] (runs_plain rfl) rfl rfl rfl ty3 rfl rfl rfl rfl ?_; clear hE hS a w; intro a w hE hS
   refine WL.nil ?_
   refine W.seq ?_
   refine W.seq (W.region ?_)
   refine vP hS hE (Gives.fld hE rfl fl28_0) rfl ?_; clear hE a; intro a hE
   refine vP hS hE (Gives.loadB hE 6 rfl rfl rfl ty26) rfl ?_; clear hE a; intro a hE
   refine vP hS hE (Gives.len hE rfl sl26) rfl ?_; clear hE a; intro a hE
   refine vP hS hE (Gives.p hE rfl) rfl ?_; clear hE a; intro a hE
   refine WL.nil ?_
   obtain ⟨q136, hq135, hr⟩ := bindS hr
   refine W.cut (fun a w => ∃ (s144 : Sg), s.Le s144 ∧ (.next ()) = q136 ∧ Rep a 129 [(1, .int .i64 x1), (5, .pointer (some ⟨pb3, 0, none⟩)), (6, .pointer (some ⟨pb4, 0, none⟩)), (7, .pointer (some ⟨pb5, 0, none⟩))] ∧ St w s144 (pt b55 (.cells #[.int .i64 x0] 3 (0, 0)) :: pt pb0 (.cells #[.slice a_v0 y0.length c_v0] 45 (0, 0)) :: pt pb1 (.cells #[.slice a_y1_0 y1.length c_y1_0] 66 (0, 0)) :: pt pb2 (.cells #[.func (.func 117) #[] #[.pointer (some ⟨pb0, 0, none⟩), .pointer (some ⟨pb1, 0, none⟩), .pointer (some ⟨pb2, 0, none⟩), .pointer (some ⟨pb3, 0, none⟩), .pointer (some ⟨pb4, 0, none⟩), .pointer (some ⟨pb5, 0, none⟩), .pointer (some ⟨pb6, 0, none⟩)]] 145 (0, 0)) :: pt pb3 (.cells #[.map (some b_v1)] 144 (0, 0)) :: pt pb4 (.cells #[.int .i64 y4.holds, .int .i64 (w64 (y4.all + x1)), .int .i64 y4.late] 140 (0, 0)) :: pt pb5 (.cells #[.slice a_y5_0 y5.Rides.length c_y5_0] 28 (0, 0)) :: pt pb6 (.cells #[.slice a_y6_0 y6.Day.Trains.length c_y6_0, .slice a_y6_1 y6.Day.Turns.length c_y6_1, .int .i64 y6.least] 94 (0, 0)) :: vecC 3 1 a_v0 c_v0 y0.length cs_v0 :: mapC keyI.f (Value.int .i64) b_v1 y3_0 :: R)) ?_ ?_
   ·refine W.block ?_
    refine W.loop (fun m a w => ∃ (rest139 : List GuideRide) (k137 : Nat), ∃ (s144 : Sg), rest139.length = m ∧ y5.Rides.drop k137 = rest139 ∧ s.Le s144 ∧ GuideNetcount_1_v1.loop2 x1 y3_0 y4 y5 y6 rest139 k137 = some q136 ∧ Rep a 129 [(1, .int .i64 x1), (5, .pointer (some ⟨pb3, 0, none⟩)), (6, .pointer (some ⟨pb4, 0, none⟩)), (7, .pointer (some ⟨pb5, 0, none⟩)), (8, .pointer (some ⟨pb6, 0, none⟩)), (69, .slice a_y5_0 y5.Rides.length c_y5_0), (70, .int .i64 ((y5.Rides).length : Int)), (71, .int .i64 ((k137 : Nat) : Int))] ∧ St w s144 (pt b55 (.cells #[.int .i64 x0] 3 (0, 0)) :: pt pb0 (.cells #[.slice a_v0 y0.length c_v0] 45 (0, 0)) :: pt pb1 (.cells #[.slice a_y1_0 y1.length c_y1_0] 66 (0, 0)) :: pt pb2 (.cells #[.func (.func 117) #[] #[.pointer (some ⟨pb0, 0, none⟩), .pointer (some ⟨pb1, 0, none⟩), .pointer (some ⟨pb2, 0, none⟩), .pointer (some ⟨pb3, 0, none⟩), .pointer (some ⟨pb4, 0, none⟩), .pointer (some ⟨pb5, 0, none⟩), .pointer (some ⟨pb6, 0, none⟩)]] 145 (0, 0)) :: pt pb3 (.cells #[.map (some b_v1)] 144 (0, 0)) :: pt pb4 (.cells #[.int .i64 y4.holds, .int .i64 (w64 (y4.all + x1)), .int .i64 y4.late] 140 (0, 0)) :: pt pb5 (.cells #[.slice a_y5_0 y5.Rides.length c_y5_0] 28 (0, 0)) :: pt pb6 (.cells #[.slice a_y6_0 y6.Day.Trains.length c_y6_0, .slice a_y6_1 y6.Day.Turns.length c_y6_1, .int .i64 y6.least] 94 (0, 0)) :: vecC 3 1 a_v0 c_v0 y0.length cs_v0 :: mapC keyI.f (Value.int .i64) b_v1 y3_0 :: R)) (m := y5.Rides.length) ⟨y5.Rides, 0, s, rfl, rfl, (Sg.Le.refl _), hq135, hE.pick _ ⟨rfl, rfl, rfl, rfl, rfl, rfl, rfl, rfl, trivial⟩, hS⟩ ?_
    clear hE hS a w hq135; rintro m143 a w ⟨rest139, k137, s144, rfl, hd140, hle145, hq135, hE, hS⟩
    refine W.gen fun K146 hK146 => ?_
    replace h_y5_0 := Sl.mono RGuideRide.mono hle145 h_y5_0
    replace h_y1_0 := Sl.mono RGuideOdds.mono hle145 h_y1_0
    replace h_y6_0 := Sl.mono RApiTrain.mono hle145 h_y6_0
    replace h_y6_1 := Sl.mono (RL.mono RI.mono) hle145 h_y6_1
    replace h_v0 := Ev.mono RI.mono hle145 h_v0
    rcases rest139 with _ | ⟨x138, rest139⟩
    ·have hlt141 := drop_nil hd140
     refine W.seq (W.region ?_)
     refine vP hS hE (Gives.p hE rfl) rfl ?_; clear hE a; intro a hE
     refine WL.nil ?_
     refine W.seq ?_
     refine W.condF hE rfl (decide_eq_false (by omega)) ?_
     subst hK146
     refine W.exit rfl ?_
     exact ⟨s144, hle145, Option.some.inj hq135, hE.pick _ ⟨rfl, rfl, rfl, rfl, trivial⟩, hS⟩
    ·obtain ⟨hlt141, hx142, hd140⟩ := drop_cons hd140
     rw [GuideNetcount_1_v1.loop2] at hq135
     refine W.seq (W.region ?_)
     refine vP hS hE (Gives.p hE rfl) rfl ?_; clear hE a; intro a hE
     refine WL.nil ?_
     refine W.seq ?_
     refine W.condT hE rfl (decide_eq_true (by omega)) ?_
     refine W.skip ?_
     refine W.seq ?_
     refine W.block ?_
     refine W.seq (W.region ?_)
     refine vP hS hE (Gives.p hE rfl) rfl ?_; clear hE a; intro a hE
     obtain ⟨cs147, hl148, hR149, hat150⟩ := h_y5_0.at hx142
     subst hR149
     refine vP hS hE (Gives.idx hE k137 rfl rfl sl26 rfl hlt141 (h_y5_0.aok hlt141)) rfl ?_; clear hE a; intro a hE
     refine vP hS hE (Gives.loadA hE rfl (fun w h => hat150 w _ h) ty47) rfl ?_; clear hE a; intro a hE
     refine WL.alloc hE hS (runs_plain rfl) zr47 rfl ?_; clear hE hS a w; intro b151 a w hE hS
     refine vP hS hE (Gives.p hE rfl) rfl ?_; clear hE a; intro a hE
     refine WL.storeI hE hS 0 rfl (GuideRide.cells x138) (runs_plain rfl) rfl rfl rfl ty47 rfl rfl rfl rfl ?_; clear hE hS a w; intro a w hE hS
     refine WL.nil ?_
     refine W.seq (W.region ?_)
     refine vP hS hE (Gives.p hE rfl) rfl ?_; clear hE a; intro a hE
     refine vP hS hE (Gives.p hE rfl) rfl ?_; clear hE a; intro a hE
     refine WL.nil ?_
     obtain ⟨q153, hq152, hq135⟩ := bindS hq135
     refine W.cut (fun a w => ∃ (s154 : Sg), s144.Le s154 ∧ .next () = q153 ∧ Rep a 129 [(1, .int .i64 x1), (5, .pointer (some ⟨pb3, 0, none⟩)), (6, .pointer (some ⟨pb4, 0, none⟩)), (7, .pointer (some ⟨pb5, 0, none⟩)), (8, .pointer (some ⟨pb6, 0, none⟩)), (69, .slice a_y5_0 y5.Rides.length c_y5_0), (70, .int .i64 ((y5.Rides).length : Int)), (71, .int .i64 ((k137 : Nat) : Int))] ∧ St w s154 (pt b151 (.cells (GuideRide.cells x138).toArray 47 (0, 0)) :: pt b55 (.cells #[.int .i64 x0] 3 (0, 0)) :: pt pb0 (.cells #[.slice a_v0 y0.length c_v0] 45 (0, 0)) :: pt pb1 (.cells #[.slice a_y1_0 y1.length c_y1_0] 66 (0, 0)) :: pt pb2 (.cells #[.func (.func 117) #[] #[.pointer (some ⟨pb0, 0, none⟩), .pointer (some ⟨pb1, 0, none⟩), .pointer (some ⟨pb2, 0, none⟩), .pointer (some ⟨pb3, 0, none⟩), .pointer (some ⟨pb4, 0, none⟩), .pointer (some ⟨pb5, 0, none⟩), .pointer (some ⟨pb6, 0, none⟩)]] 145 (0, 0)) :: pt pb3 (.cells #[.map (some b_v1)] 144 (0, 0)) :: pt pb4 (.cells #[.int .i64 y4.holds, .int .i64 (w64 (y4.all + x1)), .int .i64 y4.late] 140 (0, 0)) :: pt pb5 (.cells #[.slice a_y5_0 y5.Rides.length c_y5_0] 28 (0, 0)) :: pt pb6 (.cells #[.slice a_y6_0 y6.Day.Trains.length c_y6_0, .slice a_y6_1 y6.Day.Turns.length c_y6_1, .int .i64 y6.least] 94 (0, 0)) :: vecC 3 1 a_v0 c_v0 y0.length cs_v0 :: mapC keyI.f (Value.int .i64) b_v1 y3_0 :: R)) ?_ ?_
     ·refine W.gen fun K156 hK156 => ?_
      refine W.cond hE rfl (fun hc157 => ?_) (fun hc157 => ?_)
      ·replace hq152 := iteT hc157 hq152
       refine W.seq (W.region ?_)
       refine vP hS hE (Gives.fld hE rfl fl28_0) rfl ?_; clear hE a; intro a hE
       refine vP hS hE (Gives.loadB hE 7 rfl rfl rfl ty26) rfl ?_; clear hE a; intro a hE
       refine vP hS hE (Gives.p hE rfl) rfl ?_; clear hE a; intro a hE
       refine vP hS hE (Gives.p hE rfl) rfl ?_; clear hE a; intro a hE
       obtain ⟨x158, hx159, hq152⟩ := bindS hq152
       obtain ⟨hi160, hlt161, hy162⟩ := gx_some hx159
       obtain ⟨cs163, hl164, hR165, hat166⟩ := h_y5_0.at hy162
       subst hR165
       refine vP hS hE (Gives.idx hE (w64 (((k137 : Nat) : Int) - 1)).toNat rfl rfl sl26 hi160 hlt161 (h_y5_0.aok hlt161)) rfl ?_; clear hE a; intro a hE
       refine vP hS hE (Gives.loadA hE rfl (fun w h => hat166 w _ h) ty47) rfl ?_; clear hE a; intro a hE
       refine WL.alloc hE hS (runs_plain rfl) zr47 rfl ?_; clear hE hS a w; intro b167 a w hE hS
       refine WL.storeI hE hS 0 rfl (GuideRide.cells x158) (runs_plain rfl) rfl rfl rfl ty47 rfl rfl rfl rfl ?_; clear hE hS a w; intro a w hE hS
       refine WL.nil ?_
       refine W.seq ?_
       refine W.gen fun K168 hK168 => ?_
       refine W.regionE (sel (fun w => St w s144 (pt b167 (.cells (GuideRide.cells x158).toArray 47 (0, 0)) :: pt b151 (.cells (GuideRide.cells x138).toArray 47 (0, 0)) :: pt b55 (.cells #[.int .i64 x0] 3 (0, 0)) :: pt pb0 (.cells #[.slice a_v0 y0.length c_v0] 45 (0, 0)) :: pt pb1 (.cells #[.slice a_y1_0 y1.length c_y1_0] 66 (0, 0)) :: pt pb2 (.cells #[.func (.func 117) #[] #[.pointer (some ⟨pb0, 0, none⟩), .pointer (some ⟨pb1, 0, none⟩), .pointer (some ⟨pb2, 0, none⟩), .pointer (some ⟨pb3, 0, none⟩), .pointer (some ⟨pb4, 0, none⟩), .pointer (some ⟨pb5, 0, none⟩), .pointer (some ⟨pb6, 0, none⟩)]] 145 (0, 0)) :: pt pb3 (.cells #[.map (some b_v1)] 144 (0, 0)) :: pt pb4 (.cells #[.int .i64 y4.holds, .int .i64 (w64 (y4.all + x1)), .int .i64 y4.late] 140 (0, 0)) :: pt pb5 (.cells #[.slice a_y5_0 y5.Rides.length c_y5_0] 28 (0, 0)) :: pt pb6 (.cells #[.slice a_y6_0 y6.Day.Trains.length c_y6_0, .slice a_y6_1 y6.Day.Turns.length c_y6_1, .int .i64 y6.least] 94 (0, 0)) :: vecC 3 1 a_v0 c_v0 y0.length cs_v0 :: mapC keyI.f (Value.int .i64) b_v1 y3_0 :: R)) (fun w => St w s144 (pt b167 (.cells (GuideRide.cells x158).toArray 47 (0, 0)) :: pt b151 (.cells (GuideRide.cells x138).toArray 47 (0, 0)) :: pt b55 (.cells #[.int .i64 x0] 3 (0, 0)) :: pt pb0 (.cells #[.slice a_v0 y0.length c_v0] 45 (0, 0)) :: pt pb1 (.cells #[.slice a_y1_0 y1.length c_y1_0] 66 (0, 0)) :: pt pb2 (.cells #[.func (.func 117) #[] #[.pointer (some ⟨pb0, 0, none⟩), .pointer (some ⟨pb1, 0, none⟩), .pointer (some ⟨pb2, 0, none⟩), .pointer (some ⟨pb3, 0, none⟩), .pointer (some ⟨pb4, 0, none⟩), .pointer (some ⟨pb5, 0, none⟩), .pointer (some ⟨pb6, 0, none⟩)]] 145 (0, 0)) :: pt pb3 (.cells #[.map (some b_v1)] 144 (0, 0)) :: pt pb4 (.cells #[.int .i64 y4.holds, .int .i64 (w64 (y4.all + x1)), .int .i64 y4.late] 140 (0, 0)) :: pt pb5 (.cells #[.slice a_y5_0 y5.Rides.length c_y5_0] 28 (0, 0)) :: pt pb6 (.cells #[.slice a_y6_0 y6.Day.Trains.length c_y6_0, .slice a_y6_1 y6.Day.Turns.length c_y6_1, .int .i64 y6.least] 94 (0, 0)) :: vecC 3 1 a_v0 c_v0 y0.length cs_v0 :: mapC keyI.f (Value.int .i64) b_v1 y3_0 :: R))) (fun b i => cond b ([0, 1, 2, 3, 4, 5, 6, 7, 8, 9, 10, 11, 12, 13, 14, 15, 16, 17, 18, 19, 20, 21].contains i) ([0, 1, 2, 3, 4, 5, 6, 7, 8, 9, 10, 11, 12, 13, 14, 15, 16, 17, 18, 19, 20, 21].contains i)) mixed ?_
       replace hS := hS.drew
       have hT := tw_sel (A := fun w => St w s144 _) (B := fun w => St w s144 _) (w := _) (x := true) (y := true) (fun _ => hS) (fun _ => hS)
       have hF := hS; replace hS := hS
       refine Rg.take (i := 0) true rfl hE rfl (by kernel_rfl) (runs_plain rfl) (Gives.loadBA hE 9 rfl rfl ty94) rfl hT ?_; clear hE a; intro a hE
       replace hS := hF; clear hF hT
       have hT := tw_sel (A := fun w => St w s144 _) (B := fun w => St w s144 _) (w := _) (x := true) (y := true) (fun _ => hS) (fun _ => hS)
       have hF := hS; replace hS := hS
       refine Rg.take (i := 1) true rfl hE rfl (by kernel_rfl) (runs_plain rfl) (Gives.loadBA hE 0 rfl rfl ty47) rfl hT ?_; clear hE a; intro a hE
       replace hS := hF; clear hF hT
       have hT := tw_sel (A := fun w => St w s144 _) (B := fun w => St w s144 _) (w := _) (x := true) (y := true) (fun _ => hS) (fun _ => hS)
       have hF := hS; replace hS := hS
       refine Rg.take (i := 4) true rfl hE rfl (by kernel_rfl) (runs_plain rfl) (Gives.loadB hE 6 rfl rfl rfl ty144) rfl hT ?_; clear hE a; intro a hE
       replace hS := hF; clear hF hT
       refine Rg.takeP (i := 5) hE rfl (by kernel_rfl) (runs_plain rfl) (Gives.fld hE rfl fl47_0) rfl (tw_sel (fun _ => hS) (fun _ => hS)) ?_; clear hE a; intro a hE
       have hT := tw_sel (A := fun w => St w s144 _) (B := fun w => St w s144 _) (w := _) (x := true) (y := true) (fun _ => hS) (fun _ => hS)
       have hF := hS; replace hS := hS
       refine Rg.take (i := 6) true rfl hE rfl (by kernel_rfl) (runs_plain rfl) (Gives.loadB hE 0 rfl rfl rfl ty3) rfl hT ?_; clear hE a; intro a hE
       replace hS := hF; clear hF hT
       have hT := tw_sel (A := fun w => St w s144 _) (B := fun w => St w s144 _) (w := _) (x := true) (y := true) (fun _ => hS) (fun _ => hS)
       have hF := hS; replace hS := hS
       refine Rg.take (i := 7) true rfl hE rfl (by kernel_rfl) (runs_plain rfl) (Gives.mapGet keyI hE 11 (k := x158.Train) (z := 0) rfl rfl rfl mp144 zm3) rfl hT ?_; clear hE a; intro a hE
       replace hS := hF; clear hF hT
       refine Rg.takeP (i := 9) hE rfl (by kernel_rfl) (runs_plain rfl) (Gives.fld hE rfl fl94_1) rfl (tw_sel (fun _ => hS) (fun _ => hS)) ?_; clear hE a; intro a hE
       have hT := tw_sel (A := fun w => St w s144 _) (B := fun w => St w s144 _) (w := _) (x := true) (y := true) (fun _ => hS) (fun _ => hS)
       have hF := hS; replace hS := hS
       refine Rg.take (i := 10) true rfl hE rfl (by kernel_rfl) (runs_plain rfl) (Gives.loadB hE 9 rfl rfl rfl ty3) rfl hT ?_; clear hE a; intro a hE
       replace hS := hF; clear hF hT
       have hT := tw_sel (A := fun w => St w s144 _) (B := fun w => St w s144 _) (w := _) (x := true) (y := true) (fun _ => hS) (fun _ => hS)
       have hF := hS; replace hS := hS
       refine Rg.take (i := 12) true rfl hE rfl (by kernel_rfl) (runs_plain rfl) (Gives.loadBA hE 9 rfl rfl ty94) rfl hT ?_; clear hE a; intro a hE
       replace hS := hF; clear hF hT
       have hT := tw_sel (A := fun w => St w s144 _) (B := fun w => St w s144 _) (w := _) (x := true) (y := true) (fun _ => hS) (fun _ => hS)
       have hF := hS; replace hS := hS
       refine Rg.take (i := 13) true rfl hE rfl (by kernel_rfl) (runs_plain rfl) (Gives.loadBA hE 1 rfl rfl ty47) rfl hT ?_; clear hE a; intro a hE
       replace hS := hF; clear hF hT
       have hT := tw_sel (A := fun w => St w s144 _) (B := fun w => St w s144 _) (w := _) (x := true) (y := true) (fun _ => hS) (fun _ => hS)
       have hF := hS; replace hS := hS
       refine Rg.take (i := 16) true rfl hE rfl (by kernel_rfl) (runs_plain rfl) (Gives.loadB hE 6 rfl rfl rfl ty144) rfl hT ?_; clear hE a; intro a hE
       replace hS := hF; clear hF hT
       refine Rg.takeP (i := 17) hE rfl (by kernel_rfl) (runs_plain rfl) (Gives.fld hE rfl fl47_0) rfl (tw_sel (fun _ => hS) (fun _ => hS)) ?_; clear hE a; intro a hE
       have hT := tw_sel (A := fun w => St w s144 _) (B := fun w => St w s144 _) (w := _) (x := true) (y := true) (fun _ => hS) (fun _ => hS)
       have hF := hS; replace hS := hS
       refine Rg.take (i := 18) true rfl hE rfl (by kernel_rfl) (runs_plain rfl) (Gives.loadB hE 1 rfl rfl rfl ty3) rfl hT ?_; clear hE a; intro a hE
       replace hS := hF; clear hF hT
       have hT := tw_sel (A := fun w => St w s144 _) (B := fun w => St w s144 _) (w := _) (x := true) (y := true) (fun _ => hS) (fun _ => hS)
       have hF := hS; replace hS := hS
       refine Rg.take (i := 19) true rfl hE rfl (by kernel_rfl) (runs_plain rfl) (Gives.mapGet keyI hE 11 (k := x138.Train) (z := 0) rfl rfl rfl mp144 zm3) rfl hT ?_; clear hE a; intro a hE
       replace hS := hF; clear hF hT
       refine Rg.one (i := 2) true true rfl (by kernel_rfl) (by kernel_rfl) (by kernel_rfl) ?_
       obtain ⟨q169, hq170, hq152⟩ := bindS hq152
       have hc_ := GuideNetoff_ok hS h_y6_0 h_y6_1 hq170
       refine WL.fnq hE (hc_) (runs_plain rfl) bd77 rfl rfl rfl ?_
       clear hE hS hc_; rintro e w ⟨cs171, s173, rfl, hle174, h172, hS⟩; refine ⟨_, rfl, ?_⟩; clear a; intro a hE
       replace h_y5_0 := Sl.mono RGuideRide.mono hle174 h_y5_0
       replace h_y6_0 := Sl.mono RApiTrain.mono hle174 h_y6_0
       replace h_y6_1 := Sl.mono (RL.mono RI.mono) hle174 h_y6_1
       replace h_y1_0 := Sl.mono RGuideOdds.mono hle174 h_y1_0
       replace h_v0 := Ev.mono RI.mono hle174 h_v0
       subst h172
       refine WL.nil ?_
       refine ⟨⟨fun _ => (St.down hle174 hS), fun _ => (St.down hle174 hS)⟩, ?_⟩
       refine Rg.takeP (i := 3) hE rfl (by kernel_rfl) (runs_plain rfl) (Gives.field1 hE rfl fd106_2 ty3 rfl) rfl (tw_sel (fun _ => (St.down hle174 hS)) (fun _ => (St.down hle174 hS))) ?_; clear hE a; intro a hE
       refine Rg.takeP (i := 8) hE rfl (by kernel_rfl) (runs_plain rfl) (Gives.p hE rfl) rfl (tw_sel (fun _ => (St.down hle174 hS)) (fun _ => (St.down hle174 hS))) ?_; clear hE a; intro a hE
       refine Rg.takeP (i := 11) hE rfl (by kernel_rfl) (runs_plain rfl) (Gives.p hE rfl) rfl (tw_sel (fun _ => (St.down hle174 hS)) (fun _ => (St.down hle174 hS))) ?_; clear hE a; intro a hE
       refine Rg.one (i := 14) true true rfl (by kernel_rfl) (by kernel_rfl) (by kernel_rfl) ?_
       obtain ⟨q175, hq176, hq152⟩ := bindS hq152
       have hc_ := GuideNeton_ok hS h_y6_0 h_y6_1 hq176
       refine WL.fnq hE (hc_) (runs_plain rfl) bd99 rfl rfl rfl ?_
       clear hE hS hc_; rintro e w ⟨cs177, s179, rfl, hle180, h178, hS⟩; refine ⟨_, rfl, ?_⟩; clear a; intro a hE
       replace h_y5_0 := Sl.mono RGuideRide.mono hle180 h_y5_0
       replace h_y6_0 := Sl.mono RApiTrain.mono hle180 h_y6_0
       replace h_y6_1 := Sl.mono (RL.mono RI.mono) hle180 h_y6_1
       replace h_y1_0 := Sl.mono RGuideOdds.mono hle180 h_y1_0
       replace h_v0 := Ev.mono RI.mono hle180 h_v0
       subst h178
       refine WL.nil ?_
       refine ⟨⟨fun _ => (St.down (Sg.Le.trans hle174 hle180) hS), fun _ => (St.down (Sg.Le.trans hle174 hle180) hS)⟩, ?_⟩
       refine Rg.takeP (i := 15) hE rfl (by kernel_rfl) (runs_plain rfl) (Gives.field1 hE rfl fd106_3 ty3 rfl) rfl (tw_sel (fun _ => (St.down (Sg.Le.trans hle174 hle180) hS)) (fun _ => (St.down (Sg.Le.trans hle174 hle180) hS))) ?_; clear hE a; intro a hE
       refine Rg.takeP (i := 20) hE rfl (by kernel_rfl) (runs_plain rfl) (Gives.p hE rfl) rfl (tw_sel (fun _ => (St.down (Sg.Le.trans hle174 hle180) hS)) (fun _ => (St.down (Sg.Le.trans hle174 hle180) hS))) ?_; clear hE a; intro a hE
       refine Rg.takeP (i := 21) hE rfl (by kernel_rfl) (runs_plain rfl) (Gives.p hE rfl) rfl (tw_sel (fun _ => (St.down (Sg.Le.trans hle174 hle180) hS)) (fun _ => (St.down (Sg.Le.trans hle174 hle180) hS))) ?_; clear hE a; intro a hE
       refine Rg.done (by kernel_rfl) ?_
       subst hK168
       refine W.cond hE rfl (fun hc181 => ?_) (fun hc181 => ?_)
       ·replace hq152 := iteT hc181 hq152
        refine W.ret ?_
        subst hK156
        subst hK146
        rw [← Option.some.inj hq152] at hq135
        dsimp only at hq135
        rw [← Option.some.inj hq135] at hr
        dsimp only at hr
        refine finG (fn := Tryd.f117) (rs := []) (vs := []) hE rfl trivial ?_
        obtain rfl := Option.some.inj hr
        replace hS := hS.tail
        replace hS := hS.tail
        replace hS := hS.tail
        exact ⟨rfl, (hS.down (Sg.Le.trans (Sg.Le.trans hle145 hle174) hle180))⟩
       ·replace hq152 := iteF hc181 hq152
        refine W.skip ?_
        replace hS := hS.tail
        subst hK156
        exact ⟨s179, (Sg.Le.trans hle174 hle180), Option.some.inj hq152, hE.pick _ ⟨rfl, rfl, rfl, rfl, rfl, rfl, rfl, rfl, trivial⟩, hS⟩
      ·replace hq152 := iteF hc157 hq152
       refine W.skip ?_
       subst hK156
       exact ⟨s144, (Sg.Le.refl _), Option.some.inj hq152, hE.pick _ ⟨rfl, rfl, rfl, rfl, rfl, rfl, rfl, rfl, trivial⟩, hS⟩
     ·clear hE hS a w; rintro a w ⟨s154, hle155, rfl, hE, hS⟩
      dsimp only at hq135
      replace h_y5_0 := Sl.mono RGuideRide.mono hle155 h_y5_0
      replace h_y1_0 := Sl.mono RGuideOdds.mono hle155 h_y1_0
      replace h_y6_0 := Sl.mono RApiTrain.mono hle155 h_y6_0
      replace h_y6_1 := Sl.mono (RL.mono RI.mono) hle155 h_y6_1
      replace h_v0 := Ev.mono RI.mono hle155 h_v0
      refine W.region ?_
      refine vP hS hE (Gives.inc hE rfl (by have := h_y5_0.small; omega)) rfl ?_; clear hE a; intro a hE
      refine vP hS hE (Gives.p hE rfl) rfl ?_; clear hE a; intro a hE
      refine WL.nil ?_
      replace hS := hS.tail
      subst hK146
      exact ⟨rest139.length, Nat.lt_succ_self _, rest139, k137 + 1, s154, rfl, hd140, (Sg.Le.trans hle145 hle155), hq135, hE.pick _ ⟨rfl, rfl, rfl, rfl, rfl, rfl, rfl, rfl, trivial⟩, hS⟩
   ·clear hE hS a w; rintro a w ⟨s144, hle145, rfl, hE, hS⟩
    dsimp only at hr
    replace h_y5_0 := Sl.mono RGuideRide.mono hle145 h_y5_0
    replace h_y1_0 := Sl.mono RGuideOdds.mono hle145 h_y1_0
    replace h_y6_0 := Sl.mono RApiTrain.mono hle145 h_y6_0
    replace h_y6_1 := Sl.mono (RL.mono RI.mono) hle145 h_y6_1
    replace h_v0 := Ev.mono RI.mono hle145 h_v0
    refine W.seq (W.region ?_)
    refine vP hS hE (Gives.fld hE rfl fl140_0) rfl ?_; clear hE a; intro a hE
    refine vP hS hE (Gives.loadB hE 5 rfl rfl rfl ty3) rfl ?_; clear hE a; intro a hE
    refine vP hS hE (Gives.p hE rfl) rfl ?_; clear hE a; intro a hE
    refine vP hS hE (Gives.p hE rfl) rfl ?_; clear hE a; intro a hE
    refine vP hS hE (Gives.fld hE rfl fl140_0) rfl ?_; clear hE a; intro a hE
    refine WL.storeI hE hS 5 rfl [.int .i64 (w64 (y4.holds + x1)), .int .i64 (w64 (y4.all + x1)), .int .i64 y4.late] (runs_plain rfl) rfl rfl rfl ty3 rfl rfl rfl rfl ?_; clear hE hS a w; intro a w hE hS
    refine WL.nil ?_
    refine W.gen fun K182 hK182 => ?_
    refine W.regionE (sel (fun w => St w s144 (pt b55 (.cells #[.int .i64 x0] 3 (0, 0)) :: pt pb0 (.cells #[.slice a_v0 y0.length c_v0] 45 (0, 0)) :: pt pb1 (.cells #[.slice a_y1_0 y1.length c_y1_0] 66 (0, 0)) :: pt pb2 (.cells #[.func (.func 117) #[] #[.pointer (some ⟨pb0, 0, none⟩), .pointer (some ⟨pb1, 0, none⟩), .pointer (some ⟨pb2, 0, none⟩), .pointer (some ⟨pb3, 0, none⟩), .pointer (some ⟨pb4, 0, none⟩), .pointer (some ⟨pb5, 0, none⟩), .pointer (some ⟨pb6, 0, none⟩)]] 145 (0, 0)) :: pt pb3 (.cells #[.map (some b_v1)] 144 (0, 0)) :: pt pb4 (.cells #[.int .i64 (w64 (y4.holds + x1)), .int .i64 (w64 (y4.all + x1)), .int .i64 y4.late] 140 (0, 0)) :: pt pb5 (.cells #[.slice a_y5_0 y5.Rides.length c_y5_0] 28 (0, 0)) :: pt pb6 (.cells #[.slice a_y6_0 y6.Day.Trains.length c_y6_0, .slice a_y6_1 y6.Day.Turns.length c_y6_1, .int .i64 y6.least] 94 (0, 0)) :: vecC 3 1 a_v0 c_v0 y0.length cs_v0 :: mapC keyI.f (Value.int .i64) b_v1 y3_0 :: R)) (fun w => St w s144 (pt b55 (.cells #[.int .i64 x0] 3 (0, 0)) :: pt pb0 (.cells #[.slice a_v0 y0.length c_v0] 45 (0, 0)) :: pt pb1 (.cells #[.slice a_y1_0 y1.length c_y1_0] 66 (0, 0)) :: pt pb2 (.cells #[.func (.func 117) #[] #[.pointer (some ⟨pb0, 0, none⟩), .pointer (some ⟨pb1, 0, none⟩), .pointer (some ⟨pb2, 0, none⟩), .pointer (some ⟨pb3, 0, none⟩), .pointer (some ⟨pb4, 0, none⟩), .pointer (some ⟨pb5, 0, none⟩), .pointer (some ⟨pb6, 0, none⟩)]] 145 (0, 0)) :: pt pb3 (.cells #[.map (some b_v1)] 144 (0, 0)) :: pt pb5 (.cells #[.slice a_y5_0 y5.Rides.length c_y5_0] 28 (0, 0)) :: pt pb6 (.cells #[.slice a_y6_0 y6.Day.Trains.length c_y6_0, .slice a_y6_1 y6.Day.Turns.length c_y6_1, .int .i64 y6.least] 94 (0, 0)) :: vecC 3 1 a_v0 c_v0 y0.length cs_v0 :: mapC keyI.f (Value.int .i64) b_v1 y3_0 :: R))) (fun b i => cond b ([0, 1, 2, 3, 4, 5, 6, 7, 8, 9, 10, 11, 12, 13, 14, 15, 16].contains i) ([0, 1, 2, 3, 4, 5, 6, 7, 8, 9, 10, 11, 12, 13, 14, 15, 16, 17].contains i)) mixed ?_
    replace hS := hS.drew
    refine Rg.takeP (i := 0) hE rfl (by kernel_rfl) (runs_plain rfl) (Gives.fld hE rfl fl140_2) rfl (tw_sel (fun _ => hS) (fun _ => (hS.dropAt 5))) ?_; clear hE a; intro a hE
    have hT := tw_sel (A := fun w => St w s144 _) (B := fun w => St w s144 _) (w := _) (x := true) (y := true) (fun _ => hS) (fun _ => (hS.dropAt 5))
    have hF := hS; replace hS := hS
    refine Rg.take (i := 1) true rfl hE rfl (by kernel_rfl) (runs_plain rfl) (Gives.loadB hE 5 rfl rfl rfl ty3) rfl hT ?_; clear hE a; intro a hE
    replace hS := hF; clear hF hT
    refine Rg.takeP (i := 2) hE rfl (by kernel_rfl) (runs_plain rfl) (Gives.p hE rfl) rfl (tw_sel (fun _ => hS) (fun _ => (hS.dropAt 5))) ?_; clear hE a; intro a hE
    have hT := tw_sel (A := fun w => St w s144 _) (B := fun w => St w s144 _) (w := _) (x := true) (y := true) (fun _ => hS) (fun _ => (hS.dropAt 5))
    have hF := hS; replace hS := hS
    refine Rg.take (i := 3) true rfl hE rfl (by kernel_rfl) (runs_plain rfl) (Gives.loadB hE 4 rfl rfl rfl ty144) rfl hT ?_; clear hE a; intro a hE
    replace hS := hF; clear hF hT
    refine Rg.takeP (i := 4) hE rfl (by kernel_rfl) (runs_plain rfl) (Gives.fld hE rfl fl28_0) rfl (tw_sel (fun _ => hS) (fun _ => (hS.dropAt 5))) ?_; clear hE a; intro a hE
    have hT := tw_sel (A := fun w => St w s144 _) (B := fun w => St w s144 _) (w := _) (x := true) (y := true) (fun _ => hS) (fun _ => (hS.dropAt 5))
    have hF := hS; replace hS := hS
    refine Rg.take (i := 5) true rfl hE rfl (by kernel_rfl) (runs_plain rfl) (Gives.loadB hE 6 rfl rfl rfl ty26) rfl hT ?_; clear hE a; intro a hE
    replace hS := hF; clear hF hT
    refine Rg.takeP (i := 6) hE rfl (by kernel_rfl) (runs_plain rfl) (Gives.fld hE rfl fl28_0) rfl (tw_sel (fun _ => hS) (fun _ => (hS.dropAt 5))) ?_; clear hE a; intro a hE
    have hT := tw_sel (A := fun w => St w s144 _) (B := fun w => St w s144 _) (w := _) (x := true) (y := true) (fun _ => hS) (fun _ => (hS.dropAt 5))
    have hF := hS; replace hS := hS
    refine Rg.take (i := 7) true rfl hE rfl (by kernel_rfl) (runs_plain rfl) (Gives.loadB hE 6 rfl rfl rfl ty26) rfl hT ?_; clear hE a; intro a hE
    replace hS := hF; clear hF hT
    refine Rg.takeP (i := 8) hE rfl (by kernel_rfl) (runs_plain rfl) (Gives.len hE rfl sl26) rfl (tw_sel (fun _ => hS) (fun _ => (hS.dropAt 5))) ?_; clear hE a; intro a hE
    refine Rg.takeP (i := 9) hE rfl (by kernel_rfl) (runs_plain rfl) (Gives.p hE rfl) rfl (tw_sel (fun _ => hS) (fun _ => (hS.dropAt 5))) ?_; clear hE a; intro a hE
    obtain ⟨x183, hx184, hr⟩ := bindS hr
    obtain ⟨hi185, hlt186, hy187⟩ := gx_some hx184
    obtain ⟨cs188, hl189, hR190, hat191⟩ := h_y5_0.at hy187
    subst hR190
    refine Rg.takeP (i := 10) hE rfl (by kernel_rfl) (runs_plain rfl) (Gives.idx hE (w64 (((y5.Rides).length : Int) - 1)).toNat rfl rfl sl26 hi185 hlt186 (h_y5_0.aok hlt186)) rfl (tw_sel (fun _ => hS) (fun _ => (hS.dropAt 5))) ?_; clear hE a; intro a hE
    refine Rg.takeP (i := 11) hE rfl (by kernel_rfl) (runs_plain rfl) (Gives.fld hE rfl fl47_0) rfl (tw_sel (fun _ => hS) (fun _ => (hS.dropAt 5))) ?_; clear hE a; intro a hE
    have hT := tw_sel (A := fun w => St w s144 _) (B := fun w => St w s144 _) (w := _) (x := true) (y := true) (fun _ => hS) (fun _ => (hS.dropAt 5))
    have hF := hS; replace hS := hS
    refine Rg.take (i := 12) true rfl hE rfl (by kernel_rfl) (runs_plain rfl) (Gives.load1 hE rfl (fun w h => (hat191 w _ h).one rfl) ty3) rfl hT ?_; clear hE a; intro a hE
    replace hS := hF; clear hF hT
    have hT := tw_sel (A := fun w => St w s144 _) (B := fun w => St w s144 _) (w := _) (x := true) (y := true) (fun _ => hS) (fun _ => (hS.dropAt 5))
    have hF := hS; replace hS := hS
    refine Rg.take (i := 13) true rfl hE rfl (by kernel_rfl) (runs_plain rfl) (Gives.mapGet keyI hE 9 (k := x183.Train) (z := 0) rfl rfl rfl mp144 zm3) rfl hT ?_; clear hE a; intro a hE
    replace hS := hF; clear hF hT
    refine Rg.takeP (i := 14) hE rfl (by kernel_rfl) (runs_plain rfl) (Gives.p hE rfl) rfl (tw_sel (fun _ => hS) (fun _ => (hS.dropAt 5))) ?_; clear hE a; intro a hE
    refine Rg.takeP (i := 15) hE rfl (by kernel_rfl) (runs_plain rfl) (Gives.p hE rfl) rfl (tw_sel (fun _ => hS) (fun _ => (hS.dropAt 5))) ?_; clear hE a; intro a hE
    refine Rg.takeP (i := 16) hE rfl (by kernel_rfl) (runs_plain rfl) (Gives.fld hE rfl fl140_2) rfl (tw_sel (fun _ => hS) (fun _ => (hS.dropAt 5))) ?_; clear hE a; intro a hE
    refine Rg.one (i := 17) false true rfl (by kernel_rfl) (by kernel_rfl) (by kernel_rfl) ?_
    refine WL.storeI hE hS 5 rfl [.int .i64 (w64 (y4.holds + x1)), .int .i64 (w64 (y4.all + x1)), .int .i64 (w64 (y4.late + (w64 (x1 * ((mget y3_0 x183.Train).getD 0)))))] (runs_plain rfl) rfl rfl rfl ty3 rfl rfl rfl rfl ?_; clear hE hS a w; intro a w hE hS
    refine WL.nil ?_
    refine ⟨⟨fun h => absurd h (by decide), fun _ => (hS.dropAt 5)⟩, ?_⟩
    refine Rg.done (by kernel_rfl) ?_
    subst hK182
    refine finG (fn := Tryd.f117) (rs := []) (vs := []) hE rfl trivial ?_
    obtain rfl := Option.some.inj hr
    replace hS := hS.tail
    exact ⟨rfl, (hS.down hle145)⟩
set_option maxHeartbeats 8000000 in
theorem GuideNetcount_ok {fu : Nat}  {w : World} {s : Sg} {R : List HP} {x0 : GuideNet} {a0_0 : Option Addr} {c0_0 : Nat} {a0_1 : Option Addr} {c0_1 : Nat} {x1 : GuideJourney} {a1_0 : Option Addr} {c1_0 : Nat} {x2 : List GuideOdds} {a2 : Option Addr} {c2 : Nat} (hS : St w s (R)) (h0_0 : Sl 4 RApiTrain s a0_0 c0_0 x0.Day.Trains) (h0_1 : Sl 1 (RL 1 (RI .i64)) s a0_1 c0_1 x0.Day.Turns) (h1_0 : Sl 3 RGuideRide s a1_0 c1_0 x1.Rides) (h2 : Sl 3 RGuideOdds s a2 c2 x2) {r : GuideCases} (hr : GuideNetcount fu x0 x1 x2 = some r) :
  Calls Tryd.prog 85 [.agg [.slice a0_0 x0.Day.Trains.length c0_0, .slice a0_1 x0.Day.Turns.length c0_1, .int .i64 x0.least].toArray, .agg [.slice a1_0 x1.Rides.length c1_0].toArray, .slice a2 x2.length c2].toArray w (fun e w => ∃ (cs0 : List Value) (t : Sg), e = .returned (.agg cs0.toArray) ∧ s.Le t ∧ RGuideCases t cs0 r ∧ St w t (R)) := by
 refine enter Tryd.func85 rfl rfl rfl fun a hE => ?_
 rw [GuideNetcount] at hr
 refine W.seq (W.region ?_)
 refine WL.box hE hS (runs_plain rfl) rfl rfl rfl ?_; clear hE hS a w; intro b51 a w hE hS
 refine WL.box hE hS (runs_plain rfl) rfl rfl rfl ?_; clear hE hS a w; intro b52 a w hE hS
 refine WL.box hE hS (runs_plain rfl) rfl rfl rfl ?_; clear hE hS a w; intro b53 a w hE hS
 refine WL.alloc hE hS (runs_plain rfl) zr140 rfl ?_; clear hE hS a w; intro b54 a w hE hS
 refine WL.nil ?_
 refine W.seq (W.region ?_)
 refine WL.alloc hE hS (runs_plain rfl) zr45 rfl ?_; clear hE hS a w; intro b55 a w hE hS
 refine WL.nil ?_
 refine W.seq ?_
 refine W.seq (W.region ?_)
 refine vP hS hE (Gives.fld hE rfl fl28_0) rfl ?_; clear hE a; intro a hE
 refine vP hS hE (Gives.loadB hE 3 rfl rfl rfl ty26) rfl ?_; clear hE a; intro a hE
 refine vP hS hE (Gives.len hE rfl sl26) rfl ?_; clear hE a; intro a hE
 refine vP hS hE (Gives.p hE rfl) rfl ?_; clear hE a; intro a hE
 refine WL.nil ?_
 replace hS := hS.vecNil 3 1
 obtain ⟨q58, hq57, hr⟩ := bindS hr
 refine W.cut (fun a w => ∃ (q68 : List Int), ∃ (a69 : Option Addr), ∃ (c70 : Nat), ∃ (n72 : Nat), ∃ (cs73 : List Value), q68 = q58 ∧ Ev 1 (RI .i64) s cs73 q68 ∧ q68.length = n72 ∧ Rep a 36 [(3, .pointer (some ⟨b51, 0, none⟩)), (4, .pointer (some ⟨b52, 0, none⟩)), (5, .pointer (some ⟨b53, 0, none⟩)), (6, .pointer (some ⟨b54, 0, none⟩)), (7, .pointer (some ⟨b55, 0, none⟩))] ∧ St w s (vecC 3 1 a69 c70 n72 cs73 :: pt b55 (.cells #[.slice a69 n72 c70] 45 (0, 0)) :: pt b54 (.cells #[.int .i64 0, .int .i64 0, .int .i64 0] 140 (0, 0)) :: pt b53 (.cells #[.slice a2 x2.length c2] 66 (0, 0)) :: pt b52 (.cells #[.slice a1_0 x1.Rides.length c1_0] 28 (0, 0)) :: pt b51 (.cells #[.slice a0_0 x0.Day.Trains.length c0_0, .slice a0_1 x0.Day.Turns.length c0_1, .int .i64 x0.least] 94 (0, 0)) :: R)) ?_ ?_
 ·refine W.block ?_
  refine W.loop (fun m a w => ∃ (rest61 : List GuideRide) (k59 : Nat), ∃ (q68 : List Int), ∃ (a69 : Option Addr), ∃ (c70 : Nat), ∃ (n72 : Nat), ∃ (cs73 : List Value), rest61.length = m ∧ x1.Rides.drop k59 = rest61 ∧ GuideNetcount.loop1 rest61 q68 = some q58 ∧ Ev 1 (RI .i64) s cs73 q68 ∧ q68.length = n72 ∧ Rep a 36 [(3, .pointer (some ⟨b51, 0, none⟩)), (4, .pointer (some ⟨b52, 0, none⟩)), (5, .pointer (some ⟨b53, 0, none⟩)), (6, .pointer (some ⟨b54, 0, none⟩)), (7, .pointer (some ⟨b55, 0, none⟩)), (14, .slice a1_0 x1.Rides.length c1_0), (15, .int .i64 ((x1.Rides).length : Int)), (16, .int .i64 ((k59 : Nat) : Int))] ∧ St w s (vecC 3 1 a69 c70 n72 cs73 :: pt b55 (.cells #[.slice a69 n72 c70] 45 (0, 0)) :: pt b54 (.cells #[.int .i64 0, .int .i64 0, .int .i64 0] 140 (0, 0)) :: pt b53 (.cells #[.slice a2 x2.length c2] 66 (0, 0)) :: pt b52 (.cells #[.slice a1_0 x1.Rides.length c1_0] 28 (0, 0)) :: pt b51 (.cells #[.slice a0_0 x0.Day.Trains.length c0_0, .slice a0_1 x0.Day.Turns.length c0_1, .int .i64 x0.least] 94 (0, 0)) :: R)) (m := x1.Rides.length) ⟨x1.Rides, 0, [], none, 0, 0, [], rfl, rfl, hq57, (Ev.nil), (rfl), hE.pick _ ⟨rfl, rfl, rfl, rfl, rfl, rfl, rfl, rfl, trivial⟩, hS⟩ ?_
  clear hE hS a w hq57; rintro m65 a w ⟨rest61, k59, q68, a69, c70, n72, cs73, rfl, hd62, hq57, h71, rfl, hE, hS⟩
  refine W.gen fun K75 hK75 => ?_
  rcases rest61 with _ | ⟨x60, rest61⟩
  ·have hlt63 := drop_nil hd62
   refine W.seq (W.region ?_)
   refine vP hS hE (Gives.p hE rfl) rfl ?_; clear hE a; intro a hE
   refine WL.nil ?_
   refine W.seq ?_
   refine W.condF hE rfl (decide_eq_false (by omega)) ?_
   subst hK75
   refine W.exit rfl ?_
   exact ⟨q68, a69, c70, q68.length, cs73, Option.some.inj hq57, h71, rfl, hE.pick _ ⟨rfl, rfl, rfl, rfl, rfl, trivial⟩, hS⟩
  ·obtain ⟨hlt63, hx64, hd62⟩ := drop_cons hd62
   rw [GuideNetcount.loop1] at hq57
   refine W.seq (W.region ?_)
   refine vP hS hE (Gives.p hE rfl) rfl ?_; clear hE a; intro a hE
   refine WL.nil ?_
   refine W.seq ?_
   refine W.condT hE rfl (decide_eq_true (by omega)) ?_
   refine W.skip ?_
   refine W.seq ?_
   refine W.block ?_
   refine W.seq (W.region ?_)
   obtain ⟨cs76, hl77, hR78, hat79⟩ := h1_0.at hx64
   subst hR78
   refine vP hS hE (Gives.idx hE k59 rfl rfl sl26 rfl hlt63 (h1_0.aok hlt63)) rfl ?_; clear hE a; intro a hE
   refine vP hS hE (Gives.loadA hE rfl (fun w h => hat79 w _ h) ty47) rfl ?_; clear hE a; intro a hE
   refine WL.alloc hE hS (runs_plain rfl) zr47 rfl ?_; clear hE hS a w; intro b80 a w hE hS
   refine WL.storeI hE hS 0 rfl (GuideRide.cells x60) (runs_plain rfl) rfl rfl rfl ty47 rfl rfl rfl rfl ?_; clear hE hS a w; intro a w hE hS
   refine WL.nil ?_
   refine W.seq (W.region ?_)
   refine vP hS hE (Gives.loadB hE 2 rfl rfl rfl ty45) rfl ?_; clear hE a; intro a hE
   refine vP hS hE (Gives.fld hE rfl fl47_0) rfl ?_; clear hE a; intro a hE
   refine vP hS hE (Gives.loadB hE 0 rfl rfl rfl ty3) rfl ?_; clear hE a; intro a hE
   have hF := hS.lendV RI.mono 1 rfl h71 rfl; clear hS; obtain ⟨t81, hle82, hS, hs83, bk84⟩ := hF
   refine WL.fnq hE (SlicesContainsLint_ok hS hs83 rfl (r := SlicesContainsLint q68 x60.Train)) (runs_plain rfl) bd39 rfl rfl rfl ?_
   clear hE hS; rintro e w ⟨rfl, hS⟩; refine ⟨_, rfl, ?_⟩; clear a; intro a hE
   replace hS := bk84 _ _ hS
   refine vP hS hE (Gives.p hE rfl) rfl ?_; clear hE a; intro a hE
   refine WL.nil ?_
   obtain ⟨q86, hq85, hq57⟩ := bindS hq57
   refine W.cut (fun a w => ∃ (q89 : List Int), ∃ (a90 : Option Addr), ∃ (c91 : Nat), ∃ (n93 : Nat), ∃ (cs94 : List Value), q89 = q86 ∧ Ev 1 (RI .i64) s cs94 q89 ∧ q89.length = n93 ∧ Rep a 36 [(3, .pointer (some ⟨b51, 0, none⟩)), (4, .pointer (some ⟨b52, 0, none⟩)), (5, .pointer (some ⟨b53, 0, none⟩)), (6, .pointer (some ⟨b54, 0, none⟩)), (7, .pointer (some ⟨b55, 0, none⟩)), (14, .slice a1_0 x1.Rides.length c1_0), (15, .int .i64 ((x1.Rides).length : Int)), (16, .int .i64 ((k59 : Nat) : Int))] ∧ St w s (vecC 3 1 a90 c91 n93 cs94 :: pt b80 (.cells (GuideRide.cells x60).toArray 47 (0, 0)) :: pt b55 (.cells #[.slice a90 n93 c91] 45 (0, 0)) :: pt b54 (.cells #[.int .i64 0, .int .i64 0, .int .i64 0] 140 (0, 0)) :: pt b53 (.cells #[.slice a2 x2.length c2] 66 (0, 0)) :: pt b52 (.cells #[.slice a1_0 x1.Rides.length c1_0] 28 (0, 0)) :: pt b51 (.cells #[.slice a0_0 x0.Day.Trains.length c0_0, .slice a0_1 x0.Day.Turns.length c0_1, .int .i64 x0.least] 94 (0, 0)) :: R)) ?_ ?_
   ·refine W.gen fun K96 hK96 => ?_
    refine W.cond hE rfl (fun hc97 => ?_) (fun hc97 => ?_)
    ·replace hq85 := iteT hc97 hq85
     refine W.region ?_
     refine vP hS hE (Gives.loadB hE 2 rfl rfl rfl ty45) rfl ?_; clear hE a; intro a hE
     refine vP hS hE (Gives.fld hE rfl fl47_0) rfl ?_; clear hE a; intro a hE
     refine vP hS hE (Gives.loadB hE 1 rfl rfl rfl ty3) rfl ?_; clear hE a; intro a hE
     refine WL.lit hE hS (e := 3) (es := 1) (vs := [(0, .int .i64 x60.Train)]) (cs := [.int .i64 x60.Train]) (runs_plain rfl) rfl (by kernel_rfl) rfl ?_; clear hE hS a w; intro b98 a w hE hS
     obtain ⟨x99, hx100, hq85⟩ := bindS hq85
     refine WL.appD hE hS 0 (m := 1) (runs_plain rfl) rfl rfl rfl ap45 rfl h71 rfl (xs := [x60.Train]) (Ev.cons (c1 := [.int .i64 x60.Train]) rfl rfl (Ev.nil)) rfl rfl hx100 rfl ?_; clear hE hS a w; intro a101 c102 cs103 a w h104 hE hS
     refine WL.storeI hE hS 2 rfl [.slice a101 x99.length c102] (runs_plain rfl) rfl rfl rfl ty45 rfl rfl rfl rfl ?_; clear hE hS a w; intro a w hE hS
     refine WL.nil ?_
     subst hK96
     exact ⟨x99, a101, c102, x99.length, cs103, Option.some.inj hq85, h104, (rfl), hE.pick _ ⟨rfl, rfl, rfl, rfl, rfl, rfl, rfl, rfl, trivial⟩, hS⟩
    ·replace hq85 := iteF hc97 hq85
     refine W.skip ?_
     subst hK96
     exact ⟨q68, a69, c70, q68.length, cs73, Option.some.inj hq85, h71, rfl, hE.pick _ ⟨rfl, rfl, rfl, rfl, rfl, rfl, rfl, rfl, trivial⟩, hS⟩
   ·clear hE hS a w; rintro a w ⟨q89, a90, c91, n93, cs94, rfl, h92, rfl, hE, hS⟩
    refine W.region ?_
    refine vP hS hE (Gives.inc hE rfl (by have := h1_0.small; omega)) rfl ?_; clear hE a; intro a hE
    refine vP hS hE (Gives.p hE rfl) rfl ?_; clear hE a; intro a hE
    refine WL.nil ?_
    replace hS := hS.dropAt 1
    subst hK75
    exact ⟨rest61.length, Nat.lt_succ_self _, rest61, k59 + 1, q89, a90, c91, q89.length, cs94, rfl, hd62, hq57, h92, rfl, hE.pick _ ⟨rfl, rfl, rfl, rfl, rfl, rfl, rfl, rfl, trivial⟩, hS⟩
 ·clear hE hS a w; rintro a w ⟨q68, a69, c70, n72, cs73, rfl, h71, rfl, hE, hS⟩
  refine W.seq (W.region ?_)
  refine WL.mkMap (fk := keyI.f) (fv := (Value.int .i64)) hE hS (runs_plain rfl) rfl ?_; clear hE hS a w; intro b105 a w hE hS
  refine WL.alloc hE hS (runs_plain rfl) zr144 rfl ?_; clear hE hS a w; intro b106 a w hE hS
  refine WL.storeI hE hS 0 rfl [.map (some b105)] (runs_plain rfl) rfl rfl rfl ty144 rfl rfl rfl rfl ?_; clear hE hS a w; intro a w hE hS
  refine WL.nil ?_
  refine W.seq (W.region ?_)
  refine WL.alloc hE hS (runs_plain rfl) zr140 rfl ?_; clear hE hS a w; intro b107 a w hE hS
  refine WL.nil ?_
  refine W.seq (W.region ?_)
  refine WL.alloc hE hS (runs_plain rfl) zr145 rfl ?_; clear hE hS a w; intro b108 a w hE hS
  refine WL.nil ?_
  refine W.seq (W.region ?_)
  refine vP hS hE (Gives.mkfn hE (vs := [.pointer (some ⟨b55, 0, none⟩), .pointer (some ⟨b53, 0, none⟩), .pointer (some ⟨b108, 0, none⟩), .pointer (some ⟨b106, 0, none⟩), .pointer (some ⟨b107, 0, none⟩), .pointer (some ⟨b52, 0, none⟩), .pointer (some ⟨b51, 0, none⟩)]) rfl) rfl ?_; clear hE a; intro a hE
  refine WL.storeI hE hS 0 rfl [.func (.func 117) #[] #[.pointer (some ⟨b55, 0, none⟩), .pointer (some ⟨b53, 0, none⟩), .pointer (some ⟨b108, 0, none⟩), .pointer (some ⟨b106, 0, none⟩), .pointer (some ⟨b107, 0, none⟩), .pointer (some ⟨b52, 0, none⟩), .pointer (some ⟨b51, 0, none⟩)]] (runs_plain rfl) rfl rfl rfl ty145 rfl rfl rfl rfl ?_; clear hE hS a w; intro a w hE hS
  refine WL.nil ?_
  refine W.seq (W.region ?_)
  refine vP hS hE (Gives.loadB hE 0 rfl rfl rfl ty145) rfl ?_; clear hE a; intro a hE
  obtain ⟨q109, hq110, hr⟩ := bindS hr
  replace hS := hS.front 3 rfl
  replace hS := hS.front 4 rfl
  replace hS := hS.front 9 rfl
  replace hS := hS.front 9 rfl
  replace hS := hS.front 5 rfl
  replace hS := hS.front 6 rfl
  replace hS := hS.front 6 rfl
  replace hS := hS.front 9 rfl
  replace hS := hS.front 8 rfl
  have hc_ := GuideNetcount_1_v1_ok (y4 := (GuideCases.mk 0 0 0)) (y6 := x0) hS h71 rfl h2 h1_0 h0_0 h0_1 hq110
  refine WL.fnw hE (hc_) rfl (runs_plain rfl) bd117 rfl rfl rfl ?_
  clear hE hS hc_; rintro e w ⟨rfl, hS⟩; refine ⟨_, rfl, ?_⟩; clear a; intro a hE
  refine WL.nil ?_
  refine W.seq (W.region ?_)
  refine vP hS hE (Gives.loadBA hE 4 rfl rfl ty140) rfl ?_; clear hE a; intro a hE
  refine WL.storeI hE hS 9 rfl [.int .i64 q109.2.1, .int .i64 q109.2.2.1, .int .i64 q109.2.2.2] (runs_plain rfl) rfl rfl rfl ty140 rfl rfl rfl rfl ?_; clear hE hS a w; intro a w hE hS
  refine WL.nil ?_
  refine W.ret ?_
  refine finG (fn := Tryd.f85) (rs := [.cell 6 140]) (vs := [_]) hE rfl ⟨⟨_, rfl, .inl ⟨_, rfl, hS.seesAt 9 rfl, ty140⟩⟩, trivial⟩ ?_
  obtain rfl := Option.some.inj hr
  replace hS := hS.tail
  replace hS := hS.tail
  replace hS := hS.tail
  replace hS := hS.tail
  replace hS := hS.tail
  replace hS := hS.tail
  replace hS := hS.tail
  replace hS := hS.tail
  replace hS := hS.tail
  replace hS := hS.tail
  exact ⟨_, s, rfl, (Sg.Le.refl _), rfl, hS⟩
set_option maxHeartbeats 8000000 in
theorem Guidelowest_ok {fu : Nat}  {w : World} {s : Sg} {R : List HP} {x0 : Int} {x1 : Int} (hS : St w s (R))  {r : Int × Int} (hr : Guidelowest fu x0 x1 = some r) :
  Calls Tryd.prog 86 [.int .i64 x0, .int .i64 x1].toArray w (fun e w => e = .returned (.tuple #[.int .i64 r.1, .int .i64 r.2]) ∧ St w s (R)) := by
 refine enter Tryd.func86 rfl rfl rfl fun a hE => ?_
 rw [Guidelowest] at hr
 refine W.seq (W.region ?_)
 refine vP hS hE (Gives.p hE rfl) rfl ?_; clear hE a; intro a hE
 refine vP hS hE (Gives.p hE rfl) rfl ?_; clear hE a; intro a hE
 refine WL.nil ?_
 refine W.seq (W.region ?_)
 refine vP hS hE (Gives.p hE rfl) rfl ?_; clear hE a; intro a hE
 refine vP hS hE (Gives.p hE rfl) rfl ?_; clear hE a; intro a hE
 refine vP hS hE (Gives.p hE rfl) rfl ?_; clear hE a; intro a hE
 refine vP hS hE (Gives.p hE rfl) rfl ?_; clear hE a; intro a hE
 refine WL.nil ?_
 refine W.seq ?_
 obtain ⟨q52, hq51, hr⟩ := bindS hr
 refine W.cut (fun a w => ∃ (q57 : Int), ∃ (q58 : Int), (q57, q58) = q52 ∧ Rep a 22 [(0, .int .i64 x0), (1, .int .i64 x1), (6, .int .i64 q57)] ∧ St w s (R)) ?_ ?_
 ·refine W.block ?_
  refine W.loop (fun m a w => ∃ (n53 : Nat), ∃ (q57 : Int), ∃ (q58 : Int), n53 = m ∧ Guidelowest.loop1 n53 q57 q58 = some q52 ∧ Rep a 22 [(0, .int .i64 x0), (1, .int .i64 x1), (6, .int .i64 q57), (7, .int .i64 q58)] ∧ St w s (R)) (m := fu) ⟨fu, x0, x1, rfl, hq51, hE.pick _ ⟨rfl, rfl, rfl, rfl, trivial⟩, hS⟩ ?_
  clear hE hS a w hq51; rintro m54 a w ⟨n53, q57, q58, rfl, hq51, hE, hS⟩
  refine W.gen fun K59 hK59 => ?_
  rcases n53 with _ | n53
  ·rw [Guidelowest.loop1] at hq51; exact absurd hq51 (by simp)
  rw [Guidelowest.loop1] at hq51
  refine W.seq ?_
  refine W.seq (W.region ?_)
  refine vP hS hE (Gives.p hE rfl) rfl ?_; clear hE a; intro a hE
  refine vP hS hE (Gives.p hE rfl) rfl ?_; clear hE a; intro a hE
  refine WL.nil ?_
  refine W.cond hE rfl (fun hc60 => ?_) (fun hc60 => ?_)
  ·replace hq51 := iteT hc60 hq51
   refine W.skip ?_
   refine W.block ?_
   refine W.regionQ (C := fun w => St w s (R)) mixed (by kernel_rfl) hS.drew ?_
   refine qP hE (Gives.p hE rfl) rfl ?_; clear hE a; intro a hE
   refine qP hE (Gives.p hE rfl) rfl ?_; clear hE a; intro a hE
   refine qP hE (Gives.p hE rfl) rfl ?_; clear hE a; intro a hE
   obtain ⟨x61, hx62, hq51⟩ := bindS hq51
   refine qP hE (Gives.rm hE rfl rfl hx62) rfl ?_; clear hE a; intro a hE
   refine qP hE (Gives.p hE rfl) rfl ?_; clear hE a; intro a hE
   refine qP hE (Gives.p hE rfl) rfl ?_; clear hE a; intro a hE
   refine QL.nil ?_; clear hS w; intro w hS
   subst hK59
   exact ⟨n53, Nat.lt_succ_self _, n53, q58, x61, rfl, hq51, hE.pick _ ⟨rfl, rfl, rfl, rfl, trivial⟩, hS⟩
  ·replace hq51 := iteF hc60 hq51
   subst hK59
   refine W.exit rfl ?_
   exact ⟨q57, q58, Option.some.inj hq51, hE.pick _ ⟨rfl, rfl, rfl, trivial⟩, hS⟩
 ·clear hE hS a w; rintro a w ⟨q57, q58, rfl, hE, hS⟩
  dsimp only at hr
  refine W.seq ?_
  refine W.regionQ (C := fun w => St w s (R)) mixed (by kernel_rfl) hS.drew ?_
  refine qP hE (Gives.p hE rfl) rfl ?_; clear hE a; intro a hE
  refine qP hE (Gives.p hE rfl) rfl ?_; clear hE a; intro a hE
  obtain ⟨x63, hx64, hr⟩ := bindS hr
  refine qP hE (Gives.dv hE rfl rfl hx64) rfl ?_; clear hE a; intro a hE
  refine qP hE (Gives.p hE rfl) rfl ?_; clear hE a; intro a hE
  refine qP hE (Gives.p hE rfl) rfl ?_; clear hE a; intro a hE
  obtain ⟨x65, hx66, hr⟩ := bindS hr
  refine qP hE (Gives.dv hE rfl rfl hx66) rfl ?_; clear hE a; intro a hE
  refine qP hE (Gives.p hE rfl) rfl ?_; clear hE a; intro a hE
  refine qP hE (Gives.p hE rfl) rfl ?_; clear hE a; intro a hE
  refine QL.nil ?_; clear hS w; intro w hS
  refine W.ret ?_
  refine finG (fn := Tryd.f86) (rs := [.tmp 4, .tmp 5]) (vs := [_, _]) hE rfl ⟨rfl, rfl, trivial⟩ ?_
  obtain rfl := Option.some.inj hr
  exact ⟨rfl, hS⟩
set_option maxHeartbeats 8000000 in
theorem GuideChance_ok {fu : Nat}  {w : World} {s : Sg} {R : List HP} {x0 : ApiDay} {a0_0 : Option Addr} {c0_0 : Nat} {a0_1 : Option Addr} {c0_1 : Nat} {x1 : GuideJourney} {a1_0 : Option Addr} {c1_0 : Nat} {x2 : Int} {x3 : List GuideOdds} {a3 : Option Addr} {c3 : Nat} (hS : St w s (R)) (hTab : TabS Tryd.prog s) (h0_0 : Sl 4 RApiTrain s a0_0 c0_0 x0.Trains) (h0_1 : Sl 1 (RL 1 (RI .i64)) s a0_1 c0_1 x0.Turns) (h1_0 : Sl 3 RGuideRide s a1_0 c1_0 x1.Rides) (h3 : Sl 3 RGuideOdds s a3 c3 x3) {r : Int × Int × Int} (hr : GuideChance fu x0 x1 x2 x3 = some r) :
  Calls Tryd.prog 31 [.agg [.slice a0_0 x0.Trains.length c0_0, .slice a0_1 x0.Turns.length c0_1].toArray, .agg [.slice a1_0 x1.Rides.length c1_0].toArray, .int .i64 x2, .slice a3 x3.length c3].toArray w (fun e w => e = .returned (.tuple #[.int .i64 r.1, .int .i64 r.2.1, .int .i64 r.2.2]) ∧ St w s (R)) := by
 refine enter Tryd.func31 rfl rfl rfl fun a hE => ?_
 rw [GuideChance] at hr
 refine W.seq (W.region ?_)
 refine WL.box hE hS (runs_plain rfl) rfl rfl rfl ?_; clear hE hS a w; intro b51 a w hE hS
 refine WL.box hE hS (runs_plain rfl) rfl rfl rfl ?_; clear hE hS a w; intro b52 a w hE hS
 refine vP hS hE (Gives.p hE rfl) rfl ?_; clear hE a; intro a hE
 refine vP hS hE (Gives.p hE rfl) rfl ?_; clear hE a; intro a hE
 refine vP hS hE (Gives.p hE rfl) rfl ?_; clear hE a; intro a hE
 refine WL.nil ?_
 refine W.seq ?_
 refine W.seq (W.region ?_)
 refine vP hS hE (Gives.loadBA hE 1 rfl rfl ty25) rfl ?_; clear hE a; intro a hE
 refine vP hS hE (Gives.loadBA hE 0 rfl rfl ty28) rfl ?_; clear hE a; intro a hE
 refine vP hS hE (Gives.p hE rfl) rfl ?_; clear hE a; intro a hE
 refine vP hS hE (Gives.p hE rfl) rfl ?_; clear hE a; intro a hE
 obtain ⟨q53, hq54, hr⟩ := bindS hr
 have hc_ := GuidecheckOften_ok hS (TabS.mono (Sg.Le.refl _) hTab) h0_0 h0_1 h1_0 h3 hq54
 refine WL.fnq hE (hc_) (runs_plain rfl) bd84 rfl rfl rfl ?_
 clear hE hS hc_; rintro e w ⟨rfl, hS⟩; refine ⟨_, rfl, ?_⟩; clear a; intro a hE
 refine vP hS hE (Gives.p hE rfl) rfl ?_; clear hE a; intro a hE
 refine WL.nil ?_
 refine W.seq (W.region ?_)
 refine vP hS hE (Gives.p hE rfl) rfl ?_; clear hE a; intro a hE
 refine vP hS hE (Gives.p hE rfl) rfl ?_; clear hE a; intro a hE
 refine WL.nil ?_
 refine W.cond hE rfl (fun hc55 => ?_) (fun hc55 => ?_)
 ·replace hr := iteT hc55 hr
  refine W.seq (W.region ?_)
  refine vP hS hE (Gives.p hE rfl) rfl ?_; clear hE a; intro a hE
  refine vP hS hE (Gives.p hE rfl) rfl ?_; clear hE a; intro a hE
  refine vP hS hE (Gives.p hE rfl) rfl ?_; clear hE a; intro a hE
  refine vP hS hE (Gives.p hE rfl) rfl ?_; clear hE a; intro a hE
  refine WL.nil ?_
  refine W.ret ?_
  refine finG (fn := Tryd.f31) (rs := [.tmp 8, .tmp 9, .tmp 10]) (vs := [_, _, _]) hE rfl ⟨rfl, rfl, rfl, trivial⟩ ?_
  obtain rfl := Option.some.inj hr
  replace hS := hS.tail
  replace hS := hS.tail
  exact ⟨rfl, hS⟩
 ·replace hr := iteF hc55 hr
  refine W.skip ?_
  refine W.seq (W.region ?_)
  refine vP hS hE (Gives.loadBA hE 1 rfl rfl ty25) rfl ?_; clear hE a; intro a hE
  refine vP hS hE (Gives.p hE rfl) rfl ?_; clear hE a; intro a hE
  refine vP hS hE (Gives.build hE (vs := [(0, .agg [.slice a0_0 x0.Trains.length c0_0, .slice a0_1 x0.Turns.length c0_1].toArray), (1, .int .i64 x2)]) [.slice a0_0 x0.Trains.length c0_0, .slice a0_1 x0.Turns.length c0_1, .int .i64 x2] rfl (by kernel_rfl)) rfl ?_; clear hE a; intro a hE
  refine vP hS hE (Gives.loadBA hE 0 rfl rfl ty28) rfl ?_; clear hE a; intro a hE
  refine vP hS hE (Gives.p hE rfl) rfl ?_; clear hE a; intro a hE
  obtain ⟨q56, hq57, hr⟩ := bindS hr
  have hc_ := GuideNetcount_ok hS h0_0 h0_1 h1_0 h3 hq57
  refine WL.fnq hE (hc_) (runs_plain rfl) bd85 rfl rfl rfl ?_
  clear hE hS hc_; rintro e w ⟨cs58, s60, rfl, hle61, h59, hS⟩; refine ⟨_, rfl, ?_⟩; clear a; intro a hE
  replace h0_0 := Sl.mono RApiTrain.mono hle61 h0_0
  replace h0_1 := Sl.mono (RL.mono RI.mono) hle61 h0_1
  replace h1_0 := Sl.mono RGuideRide.mono hle61 h1_0
  replace h3 := Sl.mono RGuideOdds.mono hle61 h3
  subst h59
  refine WL.alloc hE hS (runs_plain rfl) zr140 rfl ?_; clear hE hS a w; intro b62 a w hE hS
  refine WL.storeI hE hS 0 rfl (GuideCases.cells q56) (runs_plain rfl) rfl rfl rfl ty140 rfl rfl rfl rfl ?_; clear hE hS a w; intro a w hE hS
  refine WL.nil ?_
  refine W.seq (W.region ?_)
  refine vP hS hE (Gives.fld hE rfl fl140_0) rfl ?_; clear hE a; intro a hE
  refine vP hS hE (Gives.loadB hE 0 rfl rfl rfl ty3) rfl ?_; clear hE a; intro a hE
  refine vP hS hE (Gives.fld hE rfl fl140_1) rfl ?_; clear hE a; intro a hE
  refine vP hS hE (Gives.loadB hE 0 rfl rfl rfl ty3) rfl ?_; clear hE a; intro a hE
  obtain ⟨q63, hq64, hr⟩ := bindS hr
  have hc_ := Guidelowest_ok hS  hq64
  refine WL.fnq hE (hc_) (runs_plain rfl) bd86 rfl rfl rfl ?_
  clear hE hS hc_; rintro e w ⟨rfl, hS⟩; refine ⟨_, rfl, ?_⟩; clear a; intro a hE
  refine vP hS hE (Gives.p hE rfl) rfl ?_; clear hE a; intro a hE
  refine vP hS hE (Gives.p hE rfl) rfl ?_; clear hE a; intro a hE
  refine vP hS hE (Gives.p hE rfl) rfl ?_; clear hE a; intro a hE
  refine vP hS hE (Gives.p hE rfl) rfl ?_; clear hE a; intro a hE
  refine vP hS hE (Gives.p hE rfl) rfl ?_; clear hE a; intro a hE
  refine WL.nil ?_
  refine W.seq (W.region ?_)
  refine vP hS hE (Gives.p hE rfl) rfl ?_; clear hE a; intro a hE
  refine vP hS hE (Gives.p hE rfl) rfl ?_; clear hE a; intro a hE
  refine vP hS hE (Gives.p hE rfl) rfl ?_; clear hE a; intro a hE
  refine vP hS hE (Gives.p hE rfl) rfl ?_; clear hE a; intro a hE
  refine vP hS hE (Gives.p hE rfl) rfl ?_; clear hE a; intro a hE
  refine WL.nil ?_
  refine W.ret ?_
  refine finG (fn := Tryd.f31) (rs := [.tmp 8, .tmp 9, .tmp 10]) (vs := [_, _, _]) hE rfl ⟨rfl, rfl, rfl, trivial⟩ ?_
  obtain rfl := Option.some.inj hr
  replace hS := hS.tail
  replace hS := hS.tail
  replace hS := hS.tail
  exact ⟨rfl, (hS.down hle61)⟩
set_option maxHeartbeats 8000000 in
theorem GuideExpect_ok {fu : Nat}  {w : World} {s : Sg} {R : List HP} {x0 : ApiDay} {a0_0 : Option Addr} {c0_0 : Nat} {a0_1 : Option Addr} {c0_1 : Nat} {x1 : GuideJourney} {a1_0 : Option Addr} {c1_0 : Nat} {x2 : Int} {x3 : List GuideOdds} {a3 : Option Addr} {c3 : Nat} (hS : St w s (R)) (hTab : TabS Tryd.prog s) (h0_0 : Sl 4 RApiTrain s a0_0 c0_0 x0.Trains) (h0_1 : Sl 1 (RL 1 (RI .i64)) s a0_1 c0_1 x0.Turns) (h1_0 : Sl 3 RGuideRide s a1_0 c1_0 x1.Rides) (h3 : Sl 3 RGuideOdds s a3 c3 x3) {r : Int × Int × Int} (hr : GuideExpect fu x0 x1 x2 x3 = some r) :
  Calls Tryd.prog 32 [.agg [.slice a0_0 x0.Trains.length c0_0, .slice a0_1 x0.Turns.length c0_1].toArray, .agg [.slice a1_0 x1.Rides.length c1_0].toArray, .int .i64 x2, .slice a3 x3.length c3].toArray w (fun e w => e = .returned (.tuple #[.int .i64 r.1, .int .i64 r.2.1, .int .i64 r.2.2]) ∧ St w s (R)) := by
 refine enter Tryd.func32 rfl rfl rfl fun a hE => ?_
 rw [GuideExpect] at hr
 refine W.seq (W.region ?_)
 refine WL.box hE hS (runs_plain rfl) rfl rfl rfl ?_; clear hE hS a w; intro b51 a w hE hS
 refine WL.box hE hS (runs_plain rfl) rfl rfl rfl ?_; clear hE hS a w; intro b52 a w hE hS
 refine vP hS hE (Gives.p hE rfl) rfl ?_; clear hE a; intro a hE
 refine vP hS hE (Gives.p hE rfl) rfl ?_; clear hE a; intro a hE
 refine vP hS hE (Gives.p hE rfl) rfl ?_; clear hE a; intro a hE
 refine WL.nil ?_
 refine W.seq ?_
 refine W.seq (W.region ?_)
 refine vP hS hE (Gives.loadBA hE 1 rfl rfl ty25) rfl ?_; clear hE a; intro a hE
 refine vP hS hE (Gives.loadBA hE 0 rfl rfl ty28) rfl ?_; clear hE a; intro a hE
 refine vP hS hE (Gives.p hE rfl) rfl ?_; clear hE a; intro a hE
 refine vP hS hE (Gives.p hE rfl) rfl ?_; clear hE a; intro a hE
 obtain ⟨q53, hq54, hr⟩ := bindS hr
 have hc_ := GuidecheckOften_ok hS (TabS.mono (Sg.Le.refl _) hTab) h0_0 h0_1 h1_0 h3 hq54
 refine WL.fnq hE (hc_) (runs_plain rfl) bd84 rfl rfl rfl ?_
 clear hE hS hc_; rintro e w ⟨rfl, hS⟩; refine ⟨_, rfl, ?_⟩; clear a; intro a hE
 refine vP hS hE (Gives.p hE rfl) rfl ?_; clear hE a; intro a hE
 refine WL.nil ?_
 refine W.seq (W.region ?_)
 refine vP hS hE (Gives.p hE rfl) rfl ?_; clear hE a; intro a hE
 refine vP hS hE (Gives.p hE rfl) rfl ?_; clear hE a; intro a hE
 refine WL.nil ?_
 refine W.cond hE rfl (fun hc55 => ?_) (fun hc55 => ?_)
 ·replace hr := iteT hc55 hr
  refine W.seq (W.region ?_)
  refine vP hS hE (Gives.p hE rfl) rfl ?_; clear hE a; intro a hE
  refine vP hS hE (Gives.p hE rfl) rfl ?_; clear hE a; intro a hE
  refine vP hS hE (Gives.p hE rfl) rfl ?_; clear hE a; intro a hE
  refine vP hS hE (Gives.p hE rfl) rfl ?_; clear hE a; intro a hE
  refine WL.nil ?_
  refine W.ret ?_
  refine finG (fn := Tryd.f32) (rs := [.tmp 8, .tmp 9, .tmp 10]) (vs := [_, _, _]) hE rfl ⟨rfl, rfl, rfl, trivial⟩ ?_
  obtain rfl := Option.some.inj hr
  replace hS := hS.tail
  replace hS := hS.tail
  exact ⟨rfl, hS⟩
 ·replace hr := iteF hc55 hr
  refine W.skip ?_
  refine W.seq (W.region ?_)
  refine vP hS hE (Gives.loadBA hE 1 rfl rfl ty25) rfl ?_; clear hE a; intro a hE
  refine vP hS hE (Gives.p hE rfl) rfl ?_; clear hE a; intro a hE
  refine vP hS hE (Gives.build hE (vs := [(0, .agg [.slice a0_0 x0.Trains.length c0_0, .slice a0_1 x0.Turns.length c0_1].toArray), (1, .int .i64 x2)]) [.slice a0_0 x0.Trains.length c0_0, .slice a0_1 x0.Turns.length c0_1, .int .i64 x2] rfl (by kernel_rfl)) rfl ?_; clear hE a; intro a hE
  refine vP hS hE (Gives.loadBA hE 0 rfl rfl ty28) rfl ?_; clear hE a; intro a hE
  refine vP hS hE (Gives.p hE rfl) rfl ?_; clear hE a; intro a hE
  obtain ⟨q56, hq57, hr⟩ := bindS hr
  have hc_ := GuideNetcount_ok hS h0_0 h0_1 h1_0 h3 hq57
  refine WL.fnq hE (hc_) (runs_plain rfl) bd85 rfl rfl rfl ?_
  clear hE hS hc_; rintro e w ⟨cs58, s60, rfl, hle61, h59, hS⟩; refine ⟨_, rfl, ?_⟩; clear a; intro a hE
  replace h0_0 := Sl.mono RApiTrain.mono hle61 h0_0
  replace h0_1 := Sl.mono (RL.mono RI.mono) hle61 h0_1
  replace h1_0 := Sl.mono RGuideRide.mono hle61 h1_0
  replace h3 := Sl.mono RGuideOdds.mono hle61 h3
  subst h59
  refine WL.alloc hE hS (runs_plain rfl) zr140 rfl ?_; clear hE hS a w; intro b62 a w hE hS
  refine WL.storeI hE hS 0 rfl (GuideCases.cells q56) (runs_plain rfl) rfl rfl rfl ty140 rfl rfl rfl rfl ?_; clear hE hS a w; intro a w hE hS
  refine WL.nil ?_
  refine W.seq ?_
  refine W.seq (W.region ?_)
  refine vP hS hE (Gives.fld hE rfl fl140_0) rfl ?_; clear hE a; intro a hE
  refine vP hS hE (Gives.loadB hE 0 rfl rfl rfl ty3) rfl ?_; clear hE a; intro a hE
  refine vP hS hE (Gives.p hE rfl) rfl ?_; clear hE a; intro a hE
  refine WL.nil ?_
  refine W.cond hE rfl (fun hc63 => ?_) (fun hc63 => ?_)
  ·replace hr := iteT hc63 hr
   refine W.seq (W.region ?_)
   refine vP hS hE (Gives.p hE rfl) rfl ?_; clear hE a; intro a hE
   refine vP hS hE (Gives.p hE rfl) rfl ?_; clear hE a; intro a hE
   refine vP hS hE (Gives.p hE rfl) rfl ?_; clear hE a; intro a hE
   refine WL.nil ?_
   refine W.ret ?_
   refine finG (fn := Tryd.f32) (rs := [.tmp 8, .tmp 9, .tmp 10]) (vs := [_, _, _]) hE rfl ⟨rfl, rfl, rfl, trivial⟩ ?_
   obtain rfl := Option.some.inj hr
   replace hS := hS.tail
   replace hS := hS.tail
   replace hS := hS.tail
   exact ⟨rfl, (hS.down hle61)⟩
  ·replace hr := iteF hc63 hr
   refine W.skip ?_
   refine W.seq (W.region ?_)
   refine vP hS hE (Gives.fld hE rfl fl140_2) rfl ?_; clear hE a; intro a hE
   refine vP hS hE (Gives.loadB hE 0 rfl rfl rfl ty3) rfl ?_; clear hE a; intro a hE
   refine vP hS hE (Gives.fld hE rfl fl140_0) rfl ?_; clear hE a; intro a hE
   refine vP hS hE (Gives.loadB hE 0 rfl rfl rfl ty3) rfl ?_; clear hE a; intro a hE
   obtain ⟨q64, hq65, hr⟩ := bindS hr
   have hc_ := Guidelowest_ok hS  hq65
   refine WL.fnq hE (hc_) (runs_plain rfl) bd86 rfl rfl rfl ?_
   clear hE hS hc_; rintro e w ⟨rfl, hS⟩; refine ⟨_, rfl, ?_⟩; clear a; intro a hE
   refine vP hS hE (Gives.p hE rfl) rfl ?_; clear hE a; intro a hE
   refine vP hS hE (Gives.p hE rfl) rfl ?_; clear hE a; intro a hE
   refine vP hS hE (Gives.p hE rfl) rfl ?_; clear hE a; intro a hE
   refine vP hS hE (Gives.p hE rfl) rfl ?_; clear hE a; intro a hE
   refine vP hS hE (Gives.p hE rfl) rfl ?_; clear hE a; intro a hE
   refine WL.nil ?_
   refine W.seq (W.region ?_)
   refine vP hS hE (Gives.p hE rfl) rfl ?_; clear hE a; intro a hE
   refine vP hS hE (Gives.p hE rfl) rfl ?_; clear hE a; intro a hE
   refine vP hS hE (Gives.p hE rfl) rfl ?_; clear hE a; intro a hE
   refine vP hS hE (Gives.p hE rfl) rfl ?_; clear hE a; intro a hE
   refine vP hS hE (Gives.p hE rfl) rfl ?_; clear hE a; intro a hE
   refine WL.nil ?_
   refine W.ret ?_
   refine finG (fn := Tryd.f32) (rs := [.tmp 8, .tmp 9, .tmp 10]) (vs := [_, _, _]) hE rfl ⟨rfl, rfl, rfl, trivial⟩ ?_
   obtain rfl := Option.some.inj hr
   replace hS := hS.tail
   replace hS := hS.tail
   replace hS := hS.tail
   exact ⟨rfl, (hS.down hle61)⟩
set_option maxHeartbeats 8000000 in
theorem Fishref2numbersIn_ok  {w : World} {s : Sg} {R : List HP} {x0 : ApiDay} {a0_0 : Option Addr} {c0_0 : Nat} {a0_1 : Option Addr} {c0_1 : Nat} (hS : St w s (R)) (h0_0 : Sl 4 RApiTrain s a0_0 c0_0 x0.Trains) (h0_1 : Sl 1 (RL 1 (RI .i64)) s a0_1 c0_1 x0.Turns) {r : (List (List Int))} (hr : Fishref2numbersIn x0 = some r) :
  Calls Tryd.prog 103 [.agg [.slice a0_0 x0.Trains.length c0_0, .slice a0_1 x0.Turns.length c0_1].toArray].toArray w (fun e w => ∃ (a0 : Option Addr) (c0 n0 : Nat) (cs0 : List Value) (t : Sg), e = .returned (.slice a0 n0 c0) ∧ s.Le t ∧ Ev 1 (RL 1 (RI .i64)) t cs0 r ∧ r.length = n0 ∧ St w t (vecC 45 1 a0 c0 n0 cs0 :: R)) := by
 refine enter Tryd.func103 rfl rfl rfl fun a hE => ?_
 rw [Fishref2numbersIn] at hr
 refine W.seq (W.region ?_)
 refine WL.box hE hS (runs_plain rfl) rfl rfl rfl ?_; clear hE hS a w; intro b51 a w hE hS
 refine vP hS hE (Gives.p hE rfl) rfl ?_; clear hE a; intro a hE
 refine WL.nil ?_
 refine W.seq (W.region ?_)
 replace hS := hS.vecNil 45 1
 refine vP hS hE (Gives.p hE rfl) rfl ?_; clear hE a; intro a hE
 refine WL.nil ?_
 refine W.seq ?_
 refine W.seq (W.region ?_)
 refine vP hS hE (Gives.fld hE rfl fl25_0) rfl ?_; clear hE a; intro a hE
 refine vP hS hE (Gives.loadB hE 1 rfl rfl rfl ty22) rfl ?_; clear hE a; intro a hE
 refine vP hS hE (Gives.len hE rfl sl22) rfl ?_; clear hE a; intro a hE
 refine vP hS hE (Gives.p hE rfl) rfl ?_; clear hE a; intro a hE
 refine WL.nil ?_
 obtain ⟨q54, hq53, hr⟩ := bindS hr
 refine W.cut (fun a w => ∃ (q64 : List (List Int)), ∃ (a65 : Option Addr), ∃ (c66 : Nat), ∃ (n68 : Nat), ∃ (cs69 : List Value), ∃ (s62 : Sg), s.Le s62 ∧ q64 = q54 ∧ Ev 1 (RL 1 (RI .i64)) s62 cs69 q64 ∧ q64.length = n68 ∧ Rep a 52 [(1, .pointer (some ⟨b51, 0, none⟩)), (3, .slice a65 n68 c66)] ∧ St w s62 (vecC 45 1 a65 c66 n68 cs69 :: pt b51 (.cells #[.slice a0_0 x0.Trains.length c0_0, .slice a0_1 x0.Turns.length c0_1] 25 (0, 0)) :: R)) ?_ ?_
 ·refine W.block ?_
  refine W.loop (fun m a w => ∃ (rest57 : List ApiTrain) (k55 : Nat), ∃ (q64 : List (List Int)), ∃ (a65 : Option Addr), ∃ (c66 : Nat), ∃ (n68 : Nat), ∃ (cs69 : List Value), ∃ (s62 : Sg), rest57.length = m ∧ x0.Trains.drop k55 = rest57 ∧ s.Le s62 ∧ Fishref2numbersIn.loop1 rest57 q64 = some q54 ∧ Ev 1 (RL 1 (RI .i64)) s62 cs69 q64 ∧ q64.length = n68 ∧ Rep a 52 [(1, .pointer (some ⟨b51, 0, none⟩)), (3, .slice a65 n68 c66), (9, .slice a0_0 x0.Trains.length c0_0), (10, .int .i64 ((x0.Trains).length : Int)), (11, .int .i64 ((k55 : Nat) : Int))] ∧ St w s62 (vecC 45 1 a65 c66 n68 cs69 :: pt b51 (.cells #[.slice a0_0 x0.Trains.length c0_0, .slice a0_1 x0.Turns.length c0_1] 25 (0, 0)) :: R)) (m := x0.Trains.length) ⟨x0.Trains, 0, [], none, 0, 0, [], s, rfl, rfl, (Sg.Le.refl _), hq53, (Ev.nil), (rfl), hE.pick _ ⟨rfl, rfl, rfl, rfl, rfl, trivial⟩, hS⟩ ?_
  clear hE hS a w hq53; rintro m61 a w ⟨rest57, k55, q64, a65, c66, n68, cs69, s62, rfl, hd58, hle63, hq53, h67, rfl, hE, hS⟩
  refine W.gen fun K71 hK71 => ?_
  replace h0_0 := Sl.mono RApiTrain.mono hle63 h0_0
  replace h0_1 := Sl.mono (RL.mono RI.mono) hle63 h0_1
  rcases rest57 with _ | ⟨x56, rest57⟩
  ·have hlt59 := drop_nil hd58
   refine W.seq (W.region ?_)
   refine vP hS hE (Gives.p hE rfl) rfl ?_; clear hE a; intro a hE
   refine WL.nil ?_
   refine W.seq ?_
   refine W.condF hE rfl (decide_eq_false (by omega)) ?_
   subst hK71
   refine W.exit rfl ?_
   exact ⟨q64, a65, c66, q64.length, cs69, s62, hle63, Option.some.inj hq53, h67, rfl, hE.pick _ ⟨rfl, rfl, trivial⟩, hS⟩
  ·obtain ⟨hlt59, hx60, hd58⟩ := drop_cons hd58
   rw [Fishref2numbersIn.loop1] at hq53
   refine W.seq (W.region ?_)
   refine vP hS hE (Gives.p hE rfl) rfl ?_; clear hE a; intro a hE
   refine WL.nil ?_
   refine W.seq ?_
   refine W.condT hE rfl (decide_eq_true (by omega)) ?_
   refine W.skip ?_
   refine W.seq ?_
   refine W.block ?_
   refine W.seq (W.region ?_)
   obtain ⟨cs72, hl73, hR74, hat75⟩ := h0_0.at hx60
   obtain ⟨a76, c77, a79, c80, rfl, h78, h81⟩ := hR74
   refine vP hS hE (Gives.idx hE k55 rfl rfl sl22 rfl hlt59 (h0_0.aok hlt59)) rfl ?_; clear hE a; intro a hE
   refine vP hS hE (Gives.loadA hE rfl (fun w h => hat75 w _ h) ty44) rfl ?_; clear hE a; intro a hE
   refine WL.alloc hE hS (runs_plain rfl) zr44 rfl ?_; clear hE hS a w; intro b82 a w hE hS
   refine WL.storeI hE hS 0 rfl [.int .i64 x56.No, .int .i64 x56.Stock, .slice a76 x56.Stops.length c77, .slice a79 x56.Legs.length c80] (runs_plain rfl) rfl rfl rfl ty44 rfl rfl rfl rfl ?_; clear hE hS a w; intro a w hE hS
   refine WL.nil ?_
   refine W.seq (W.region ?_)
   refine vP hS hE (Gives.p hE rfl) rfl ?_; clear hE a; intro a hE
   refine vP hS hE (Gives.fld hE rfl fl44_0) rfl ?_; clear hE a; intro a hE
   refine vP hS hE (Gives.loadB hE 0 rfl rfl rfl ty3) rfl ?_; clear hE a; intro a hE
   refine vP hS hE (Gives.fld hE rfl fl44_1) rfl ?_; clear hE a; intro a hE
   refine vP hS hE (Gives.loadB hE 0 rfl rfl rfl ty3) rfl ?_; clear hE a; intro a hE
   refine WL.lit hE hS (e := 3) (es := 1) (vs := [(0, .int .i64 x56.No), (1, .int .i64 x56.Stock)]) (cs := [.int .i64 x56.No, .int .i64 x56.Stock]) (runs_plain rfl) rfl (by kernel_rfl) rfl ?_; clear hE hS a w; intro b83 a w hE hS
   replace hS := hS.ptVec (es := 1) (m := 2) rfl (by decide)
   have h85 : Ev 1 (RI .i64) s62 [.int .i64 x56.No, .int .i64 x56.Stock] [x56.No, x56.Stock] := (Ev.cons (c1 := [.int .i64 x56.No]) rfl rfl (Ev.cons (c1 := [.int .i64 x56.Stock]) rfl rfl (Ev.nil)))
   have hF := hS.fixD RI.mono 0 rfl h85 (rfl); clear hS; obtain ⟨s86, hle87, hS, h88⟩ := hF
   replace h0_0 := Sl.mono RApiTrain.mono hle87 h0_0
   replace h78 := Sl.mono RApiStop.mono hle87 h78
   replace h81 := Sl.mono (RL.mono RI.mono) hle87 h81
   replace h67 := Ev.mono (RL.mono RI.mono) hle87 h67
   replace h0_1 := Sl.mono (RL.mono RI.mono) hle87 h0_1
   refine WL.lit hE hS (e := 45) (es := 1) (vs := [(0, .slice (some ⟨b83, 0, none⟩) 2 2)]) (cs := [.slice (some ⟨b83, 0, none⟩) 2 2]) (runs_plain rfl) rfl (by kernel_rfl) rfl ?_; clear hE hS a w; intro b89 a w hE hS
   obtain ⟨x90, hx91, hq53⟩ := bindS hq53
   refine WL.appD hE hS 1 (m := 1) (runs_plain rfl) rfl rfl rfl ap23 rfl h67 rfl (xs := [[x56.No, x56.Stock]]) (Ev.cons (c1 := [.slice (some ⟨b83, 0, none⟩) 2 2]) ⟨_, _, rfl, h88⟩ rfl (Ev.nil)) rfl rfl hx91 rfl ?_; clear hE hS a w; intro a92 c93 cs94 a w h95 hE hS
   refine vP hS hE (Gives.p hE rfl) rfl ?_; clear hE a; intro a hE
   refine WL.nil ?_
   refine W.seq ?_
   refine W.seq (W.region ?_)
   refine vP hS hE (Gives.fld hE rfl fl44_2) rfl ?_; clear hE a; intro a hE
   refine vP hS hE (Gives.loadB hE 0 rfl rfl rfl ty42) rfl ?_; clear hE a; intro a hE
   refine vP hS hE (Gives.len hE rfl sl42) rfl ?_; clear hE a; intro a hE
   refine vP hS hE (Gives.p hE rfl) rfl ?_; clear hE a; intro a hE
   refine WL.nil ?_
   obtain ⟨q97, hq96, hq53⟩ := bindS hq53
   refine W.cut (fun a w => ∃ (q107 : List (List Int)), ∃ (a108 : Option Addr), ∃ (c109 : Nat), ∃ (n111 : Nat), ∃ (cs112 : List Value), ∃ (s105 : Sg), s86.Le s105 ∧ q107 = q97 ∧ Ev 1 (RL 1 (RI .i64)) s105 cs112 q107 ∧ q107.length = n111 ∧ Rep a 52 [(1, .pointer (some ⟨b51, 0, none⟩)), (3, .slice a108 n111 c109), (5, .pointer (some ⟨b82, 0, none⟩)), (9, .slice a0_0 x0.Trains.length c0_0), (10, .int .i64 ((x0.Trains).length : Int)), (11, .int .i64 ((k55 : Nat) : Int))] ∧ St w s105 (pt b82 (.cells #[.int .i64 x56.No, .int .i64 x56.Stock, .slice a76 x56.Stops.length c77, .slice a79 x56.Legs.length c80] 44 (0, 0)) :: vecC 45 1 a108 c109 n111 cs112 :: pt b51 (.cells #[.slice a0_0 x0.Trains.length c0_0, .slice a0_1 x0.Turns.length c0_1] 25 (0, 0)) :: R)) ?_ ?_
   ·refine W.block ?_
    refine W.loop (fun m a w => ∃ (rest100 : List ApiStop) (k98 : Nat), ∃ (q107 : List (List Int)), ∃ (a108 : Option Addr), ∃ (c109 : Nat), ∃ (n111 : Nat), ∃ (cs112 : List Value), ∃ (s105 : Sg), rest100.length = m ∧ x56.Stops.drop k98 = rest100 ∧ s86.Le s105 ∧ Fishref2numbersIn.loop2 rest100 q107 = some q97 ∧ Ev 1 (RL 1 (RI .i64)) s105 cs112 q107 ∧ q107.length = n111 ∧ Rep a 52 [(1, .pointer (some ⟨b51, 0, none⟩)), (3, .slice a108 n111 c109), (5, .pointer (some ⟨b82, 0, none⟩)), (9, .slice a0_0 x0.Trains.length c0_0), (10, .int .i64 ((x0.Trains).length : Int)), (11, .int .i64 ((k55 : Nat) : Int)), (24, .slice a76 x56.Stops.length c77), (25, .int .i64 ((x56.Stops).length : Int)), (26, .int .i64 ((k98 : Nat) : Int))] ∧ St w s105 (pt b82 (.cells #[.int .i64 x56.No, .int .i64 x56.Stock, .slice a76 x56.Stops.length c77, .slice a79 x56.Legs.length c80] 44 (0, 0)) :: vecC 45 1 a108 c109 n111 cs112 :: pt b51 (.cells #[.slice a0_0 x0.Trains.length c0_0, .slice a0_1 x0.Turns.length c0_1] 25 (0, 0)) :: R)) (m := x56.Stops.length) ⟨x56.Stops, 0, x90, a92, c93, x90.length, cs94, s86, rfl, rfl, (Sg.Le.refl _), hq96, h95, (rfl), hE.pick _ ⟨rfl, rfl, rfl, rfl, rfl, rfl, rfl, rfl, rfl, trivial⟩, hS⟩ ?_
    clear hE hS a w hq96; rintro m104 a w ⟨rest100, k98, q107, a108, c109, n111, cs112, s105, rfl, hd101, hle106, hq96, h110, rfl, hE, hS⟩
    refine W.gen fun K114 hK114 => ?_
    replace h0_0 := Sl.mono RApiTrain.mono hle106 h0_0
    replace h78 := Sl.mono RApiStop.mono hle106 h78
    replace h81 := Sl.mono (RL.mono RI.mono) hle106 h81
    replace h88 := Sl.mono RI.mono hle106 h88
    replace h95 := Ev.mono (RL.mono RI.mono) hle106 h95
    replace h0_1 := Sl.mono (RL.mono RI.mono) hle106 h0_1
    rcases rest100 with _ | ⟨x99, rest100⟩
    ·have hlt102 := drop_nil hd101
     refine W.seq (W.region ?_)
     refine vP hS hE (Gives.p hE rfl) rfl ?_; clear hE a; intro a hE
     refine WL.nil ?_
     refine W.seq ?_
     refine W.condF hE rfl (decide_eq_false (by omega)) ?_
     subst hK114
     refine W.exit rfl ?_
     exact ⟨q107, a108, c109, q107.length, cs112, s105, hle106, Option.some.inj hq96, h110, rfl, hE.pick _ ⟨rfl, rfl, rfl, rfl, rfl, rfl, trivial⟩, hS⟩
    ·obtain ⟨hlt102, hx103, hd101⟩ := drop_cons hd101
     rw [Fishref2numbersIn.loop2] at hq96
     refine W.seq (W.region ?_)
     refine vP hS hE (Gives.p hE rfl) rfl ?_; clear hE a; intro a hE
     refine WL.nil ?_
     refine W.seq ?_
     refine W.condT hE rfl (decide_eq_true (by omega)) ?_
     refine W.skip ?_
     refine W.seq ?_
     refine W.block ?_
     refine W.seq (W.region ?_)
     obtain ⟨cs115, hl116, hR117, hat118⟩ := h78.at hx103
     subst hR117
     refine vP hS hE (Gives.idx hE k98 rfl rfl sl42 rfl hlt102 (h78.aok hlt102)) rfl ?_; clear hE a; intro a hE
     refine vP hS hE (Gives.loadA hE rfl (fun w h => hat118 w _ h) ty106) rfl ?_; clear hE a; intro a hE
     refine WL.alloc hE hS (runs_plain rfl) zr106 rfl ?_; clear hE hS a w; intro b119 a w hE hS
     refine WL.storeI hE hS 0 rfl (ApiStop.cells x99) (runs_plain rfl) rfl rfl rfl ty106 rfl rfl rfl rfl ?_; clear hE hS a w; intro a w hE hS
     refine WL.nil ?_
     refine W.region ?_
     refine vP hS hE (Gives.p hE rfl) rfl ?_; clear hE a; intro a hE
     refine vP hS hE (Gives.fld hE rfl fl106_0) rfl ?_; clear hE a; intro a hE
     refine vP hS hE (Gives.loadB hE 0 rfl rfl rfl ty3) rfl ?_; clear hE a; intro a hE
     refine vP hS hE (Gives.fld hE rfl fl106_1) rfl ?_; clear hE a; intro a hE
     refine vP hS hE (Gives.loadB hE 0 rfl rfl rfl ty3) rfl ?_; clear hE a; intro a hE
     refine vP hS hE (Gives.fld hE rfl fl106_2) rfl ?_; clear hE a; intro a hE
     refine vP hS hE (Gives.loadB hE 0 rfl rfl rfl ty3) rfl ?_; clear hE a; intro a hE
     refine vP hS hE (Gives.fld hE rfl fl106_3) rfl ?_; clear hE a; intro a hE
     refine vP hS hE (Gives.loadB hE 0 rfl rfl rfl ty3) rfl ?_; clear hE a; intro a hE
     refine WL.lit hE hS (e := 3) (es := 1) (vs := [(0, .int .i64 x99.Station), (1, .int .i64 x99.Track), (2, .int .i64 x99.Arr), (3, .int .i64 x99.Dep)]) (cs := [.int .i64 x99.Station, .int .i64 x99.Track, .int .i64 x99.Arr, .int .i64 x99.Dep]) (runs_plain rfl) rfl (by kernel_rfl) rfl ?_; clear hE hS a w; intro b120 a w hE hS
     replace hS := hS.ptVec (es := 1) (m := 4) rfl (by decide)
     have h122 : Ev 1 (RI .i64) s105 [.int .i64 x99.Station, .int .i64 x99.Track, .int .i64 x99.Arr, .int .i64 x99.Dep] [x99.Station, x99.Track, x99.Arr, x99.Dep] := (Ev.cons (c1 := [.int .i64 x99.Station]) rfl rfl (Ev.cons (c1 := [.int .i64 x99.Track]) rfl rfl (Ev.cons (c1 := [.int .i64 x99.Arr]) rfl rfl (Ev.cons (c1 := [.int .i64 x99.Dep]) rfl rfl (Ev.nil)))))
     have hF := hS.fixD RI.mono 0 rfl h122 (rfl); clear hS; obtain ⟨s123, hle124, hS, h125⟩ := hF
     replace h0_0 := Sl.mono RApiTrain.mono hle124 h0_0
     replace h78 := Sl.mono RApiStop.mono hle124 h78
     replace h81 := Sl.mono (RL.mono RI.mono) hle124 h81
     replace h110 := Ev.mono (RL.mono RI.mono) hle124 h110
     replace h0_1 := Sl.mono (RL.mono RI.mono) hle124 h0_1
     refine WL.lit hE hS (e := 45) (es := 1) (vs := [(0, .slice (some ⟨b120, 0, none⟩) 4 4)]) (cs := [.slice (some ⟨b120, 0, none⟩) 4 4]) (runs_plain rfl) rfl (by kernel_rfl) rfl ?_; clear hE hS a w; intro b126 a w hE hS
     obtain ⟨x127, hx128, hq96⟩ := bindS hq96
     refine WL.appD hE hS 2 (m := 1) (runs_plain rfl) rfl rfl rfl ap23 rfl h110 rfl (xs := [[x99.Station, x99.Track, x99.Arr, x99.Dep]]) (Ev.cons (c1 := [.slice (some ⟨b120, 0, none⟩) 4 4]) ⟨_, _, rfl, h125⟩ rfl (Ev.nil)) rfl rfl hx128 rfl ?_; clear hE hS a w; intro a129 c130 cs131 a w h132 hE hS
     refine vP hS hE (Gives.p hE rfl) rfl ?_; clear hE a; intro a hE
     refine WL.nil ?_
     refine W.region ?_
     refine vP hS hE (Gives.inc hE rfl (by have := h78.small; omega)) rfl ?_; clear hE a; intro a hE
     refine vP hS hE (Gives.p hE rfl) rfl ?_; clear hE a; intro a hE
     refine WL.nil ?_
     replace hS := hS.tail
     subst hK114
     exact ⟨rest100.length, Nat.lt_succ_self _, rest100, k98 + 1, x127, a129, c130, x127.length, cs131, s123, rfl, hd101, (Sg.Le.trans hle106 hle124), hq96, h132, (rfl), hE.pick _ ⟨rfl, rfl, rfl, rfl, rfl, rfl, rfl, rfl, rfl, trivial⟩, hS⟩
   ·clear hE hS a w; rintro a w ⟨q107, a108, c109, n111, cs112, s105, hle106, rfl, h110, rfl, hE, hS⟩
    replace h0_0 := Sl.mono RApiTrain.mono hle106 h0_0
    replace h78 := Sl.mono RApiStop.mono hle106 h78
    replace h81 := Sl.mono (RL.mono RI.mono) hle106 h81
    replace h88 := Sl.mono RI.mono hle106 h88
    replace h95 := Ev.mono (RL.mono RI.mono) hle106 h95
    replace h0_1 := Sl.mono (RL.mono RI.mono) hle106 h0_1
    refine W.region ?_
    refine vP hS hE (Gives.p hE rfl) rfl ?_; clear hE a; intro a hE
    refine vP hS hE (Gives.fld hE rfl fl44_3) rfl ?_; clear hE a; intro a hE
    refine vP hS hE (Gives.loadB hE 0 rfl rfl rfl ty23) rfl ?_; clear hE a; intro a hE
    obtain ⟨x133, hx134, hq53⟩ := bindS hq53
    refine WL.appS hE hS 1 (runs_plain rfl) rfl rfl (xs := x56.Legs) rfl rfl ap23 RL.one h110 rfl h81 hx134 rfl ?_; clear hE hS a w; intro a135 c136 cs137 a w h138 hE hS
    refine vP hS hE (Gives.p hE rfl) rfl ?_; clear hE a; intro a hE
    refine WL.nil ?_
    refine W.region ?_
    refine vP hS hE (Gives.inc hE rfl (by have := h0_0.small; omega)) rfl ?_; clear hE a; intro a hE
    refine vP hS hE (Gives.p hE rfl) rfl ?_; clear hE a; intro a hE
    refine WL.nil ?_
    replace hS := hS.tail
    subst hK71
    exact ⟨rest57.length, Nat.lt_succ_self _, rest57, k55 + 1, x133, a135, c136, x133.length, cs137, s105, rfl, hd58, (Sg.Le.trans (Sg.Le.trans hle63 hle87) hle106), hq53, h138, (rfl), hE.pick _ ⟨rfl, rfl, rfl, rfl, rfl, trivial⟩, hS⟩
 ·clear hE hS a w; rintro a w ⟨q64, a65, c66, n68, cs69, s62, hle63, rfl, h67, rfl, hE, hS⟩
  replace h0_0 := Sl.mono RApiTrain.mono hle63 h0_0
  replace h0_1 := Sl.mono (RL.mono RI.mono) hle63 h0_1
  refine W.seq (W.region ?_)
  refine vP hS hE (Gives.p hE rfl) rfl ?_; clear hE a; intro a hE
  refine vP hS hE (Gives.fld hE rfl fl25_1) rfl ?_; clear hE a; intro a hE
  refine vP hS hE (Gives.loadB hE 1 rfl rfl rfl ty23) rfl ?_; clear hE a; intro a hE
  obtain ⟨x139, hx140, hr⟩ := bindS hr
  refine WL.appS hE hS 0 (runs_plain rfl) rfl rfl (xs := x0.Turns) rfl rfl ap23 RL.one h67 rfl h0_1 hx140 rfl ?_; clear hE hS a w; intro a141 c142 cs143 a w h144 hE hS
  refine vP hS hE (Gives.p hE rfl) rfl ?_; clear hE a; intro a hE
  refine WL.nil ?_
  refine W.ret ?_
  refine finG (fn := Tryd.f103) (rs := [.tmp 2]) (vs := [_]) hE rfl ⟨rfl, trivial⟩ ?_
  obtain rfl := Option.some.inj hr
  replace hS := hS.dropAt 1
  exact ⟨a141, c142, x139.length, cs143, s62, rfl, hle63, h144, (rfl), hS⟩
set_option maxHeartbeats 8000000 in
theorem Fishref2within_ok  {w : World} {s : Sg} {R : List HP} {x0 : Int} {x1 : Int} {x2 : Int} (hS : St w s (R))  {r : Bool} (hr : Fishref2within x0 x1 x2 = r) :
  Calls Tryd.prog 57 [.int .i64 x0, .int .i64 x1, .int .i64 x2].toArray w (fun e w => e = .returned (.bool r) ∧ St w s (R)) := by
 refine enter Tryd.func57 rfl rfl rfl fun a hE => ?_
 rw [Fishref2within] at hr
 refine W.seq (W.region ?_)
 refine vP hS hE (Gives.p hE rfl) rfl ?_; clear hE a; intro a hE
 refine WL.nil ?_
 refine W.seq ?_
 obtain ⟨q52, hq51, hr⟩ := bndS hr
 refine W.cut (fun a w => ∃ (q55 : Bool), q55 = q52 ∧ Rep a 15 [(6, .bool q55)] ∧ St w s (R)) ?_ ?_
 ·refine W.gen fun K56 hK56 => ?_
  refine W.region ?_
  refine vP hS hE (Gives.p hE rfl) rfl ?_; clear hE a; intro a hE
  refine vP hS hE (Gives.p hE rfl) rfl ?_; clear hE a; intro a hE
  refine vP hS hE (Gives.p hE rfl) rfl ?_; clear hE a; intro a hE
  refine vP hS hE (Gives.p hE rfl) rfl ?_; clear hE a; intro a hE
  rcases Bool.eq_false_or_eq_true (decide (x0 ≥ x1)) with hg57 | hg57
  ·replace hq51 := iteT hg57 hq51
   refine WL.vS hS hE (runs_if hE rfl rfl rfl hg57) (Gives.p hE rfl) rfl ?_; clear hE a; intro a hE
   refine WL.vS hS hE (runs_if hE rfl rfl rfl hg57) (Gives.p hE rfl) rfl ?_; clear hE a; intro a hE
   refine WL.vS hS hE (runs_if hE rfl rfl rfl hg57) (Gives.p hE rfl) rfl ?_; clear hE a; intro a hE
   refine vP hS hE (Gives.pickT hE rfl hg57 rfl) rfl ?_; clear hE a; intro a hE
   refine vP hS hE (Gives.p hE rfl) rfl ?_; clear hE a; intro a hE
   refine WL.nil ?_
   subst hK56
   exact ⟨decide (x0 ≤ x2), hq51, hE.pick _ ⟨rfl, trivial⟩, hS⟩
  ·replace hq51 := iteF hg57 hq51
   refine WL.no hE (runs_not hE rfl rfl rfl (by rw [hg57]; decide)) rfl ?_; clear hE a; intro a hE
   refine WL.no hE (runs_not hE rfl rfl rfl (by rw [hg57]; decide)) rfl ?_; clear hE a; intro a hE
   refine WL.no hE (runs_not hE rfl rfl rfl (by rw [hg57]; decide)) rfl ?_; clear hE a; intro a hE
   refine vP hS hE (Gives.pickF hE rfl hg57 rfl) rfl ?_; clear hE a; intro a hE
   refine vP hS hE (Gives.p hE rfl) rfl ?_; clear hE a; intro a hE
   refine WL.nil ?_
   subst hK56
   exact ⟨false, hq51, hE.pick _ ⟨rfl, trivial⟩, hS⟩
 ·clear hE hS a w; rintro a w ⟨q55, rfl, hE, hS⟩
  refine W.ret ?_
  refine finG (fn := Tryd.f57) (rs := [.tmp 6]) (vs := [_]) hE rfl ⟨rfl, trivial⟩ ?_
  subst hr
  exact ⟨rfl, hS⟩
set_option maxHeartbeats 8000000 in
theorem Fishref2TextFault_ok  {w : World} {s : Sg} {R : List HP} {x0 : ApiDay} {a0_0 : Option Addr} {c0_0 : Nat} {a0_1 : Option Addr} {c0_1 : Nat} (hS : St w s (R)) (h0_0 : Sl 4 RApiTrain s a0_0 c0_0 x0.Trains) (h0_1 : Sl 1 (RL 1 (RI .i64)) s a0_1 c0_1 x0.Turns) {r : Int} (hr : Fishref2TextFault x0 = some r) :
  Calls Tryd.prog 56 [.agg [.slice a0_0 x0.Trains.length c0_0, .slice a0_1 x0.Turns.length c0_1].toArray].toArray w (fun e w => e = .returned (.int .i64 r) ∧ St w s (R)) := by
 refine enter Tryd.func56 rfl rfl rfl fun a hE => ?_
 rw [Fishref2TextFault] at hr
 refine W.seq (W.region ?_)
 refine WL.box hE hS (runs_plain rfl) rfl rfl rfl ?_; clear hE hS a w; intro b51 a w hE hS
 refine vP hS hE (Gives.p hE rfl) rfl ?_; clear hE a; intro a hE
 refine WL.nil ?_
 refine W.seq ?_
 refine W.seq ?_
 obtain ⟨q53, hq52, hr⟩ := bndS hr
 refine W.cut (fun a w => ∃ (q56 : Bool), q56 = q53 ∧ Rep a 105 [(1, .pointer (some ⟨b51, 0, none⟩)), (24, .bool q56)] ∧ St w s (pt b51 (.cells #[.slice a0_0 x0.Trains.length c0_0, .slice a0_1 x0.Turns.length c0_1] 25 (0, 0)) :: R)) ?_ ?_
 ·refine W.gen fun K57 hK57 => ?_
  refine W.region ?_
  refine vP hS hE (Gives.fld hE rfl fl25_0) rfl ?_; clear hE a; intro a hE
  refine vP hS hE (Gives.loadB hE 0 rfl rfl rfl ty22) rfl ?_; clear hE a; intro a hE
  refine vP hS hE (Gives.len hE rfl sl22) rfl ?_; clear hE a; intro a hE
  refine vP hS hE (Gives.p hE rfl) rfl ?_; clear hE a; intro a hE
  refine vP hS hE (Gives.p hE rfl) rfl ?_; clear hE a; intro a hE
  rcases Bool.eq_false_or_eq_true (decide (((x0.Trains).length : Int) > 12)) with hg58 | hg58
  ·replace hq52 := iteT hg58 hq52
   refine WL.no hE (runs_not hE rfl rfl rfl (by rw [hg58]; decide)) rfl ?_; clear hE a; intro a hE
   refine WL.no hE (runs_not hE rfl rfl rfl (by rw [hg58]; decide)) rfl ?_; clear hE a; intro a hE
   refine WL.no hE (runs_not hE rfl rfl rfl (by rw [hg58]; decide)) rfl ?_; clear hE a; intro a hE
   refine WL.no hE (runs_not hE rfl rfl rfl (by rw [hg58]; decide)) rfl ?_; clear hE a; intro a hE
   refine vP hS hE (Gives.pickT hE rfl hg58 rfl) rfl ?_; clear hE a; intro a hE
   refine WL.nil ?_
   subst hK57
   exact ⟨true, hq52, hE.pick _ ⟨rfl, rfl, trivial⟩, hS⟩
  ·replace hq52 := iteF hg58 hq52
   refine WL.vS hS hE (runs_if hE rfl rfl rfl hg58) (Gives.fld hE rfl fl25_1) rfl ?_; clear hE a; intro a hE
   refine WL.vS hS hE (runs_if hE rfl rfl rfl hg58) (Gives.loadB hE 0 rfl rfl rfl ty23) rfl ?_; clear hE a; intro a hE
   refine WL.vS hS hE (runs_if hE rfl rfl rfl hg58) (Gives.len hE rfl sl23) rfl ?_; clear hE a; intro a hE
   refine WL.vS hS hE (runs_if hE rfl rfl rfl hg58) (Gives.p hE rfl) rfl ?_; clear hE a; intro a hE
   refine vP hS hE (Gives.pickF hE rfl hg58 rfl) rfl ?_; clear hE a; intro a hE
   refine WL.nil ?_
   subst hK57
   exact ⟨decide (((x0.Turns).length : Int) > 8), hq52, hE.pick _ ⟨rfl, rfl, trivial⟩, hS⟩
 ·clear hE hS a w; rintro a w ⟨q56, rfl, hE, hS⟩
  refine W.cond hE rfl (fun hc59 => ?_) (fun hc59 => ?_)
  ·replace hr := iteT hc59 hr
   refine W.seq (W.region ?_)
   refine vP hS hE (Gives.p hE rfl) rfl ?_; clear hE a; intro a hE
   refine WL.nil ?_
   refine W.ret ?_
   refine finG (fn := Tryd.f56) (rs := [.tmp 2]) (vs := [_]) hE rfl ⟨rfl, trivial⟩ ?_
   obtain rfl := Option.some.inj hr
   replace hS := hS.tail
   exact ⟨rfl, hS⟩
  ·replace hr := iteF hc59 hr
   refine W.skip ?_
   refine W.seq ?_
   refine W.seq (W.region ?_)
   refine vP hS hE (Gives.fld hE rfl fl25_0) rfl ?_; clear hE a; intro a hE
   refine vP hS hE (Gives.loadB hE 0 rfl rfl rfl ty22) rfl ?_; clear hE a; intro a hE
   refine vP hS hE (Gives.len hE rfl sl22) rfl ?_; clear hE a; intro a hE
   refine vP hS hE (Gives.p hE rfl) rfl ?_; clear hE a; intro a hE
   refine WL.nil ?_
   obtain ⟨q61, hq60, hr⟩ := bndS hr
   refine W.cut (fun a w => (.next ()) = q61 ∧ Rep a 105 [(1, .pointer (some ⟨b51, 0, none⟩))] ∧ St w s (pt b51 (.cells #[.slice a0_0 x0.Trains.length c0_0, .slice a0_1 x0.Turns.length c0_1] 25 (0, 0)) :: R)) ?_ ?_
   ·refine W.block ?_
    refine W.loop (fun m a w => ∃ (rest64 : List ApiTrain) (k62 : Nat), rest64.length = m ∧ x0.Trains.drop k62 = rest64 ∧ Fishref2TextFault.loop1 rest64 = q61 ∧ Rep a 105 [(1, .pointer (some ⟨b51, 0, none⟩)), (26, .slice a0_0 x0.Trains.length c0_0), (27, .int .i64 ((x0.Trains).length : Int)), (28, .int .i64 ((k62 : Nat) : Int))] ∧ St w s (pt b51 (.cells #[.slice a0_0 x0.Trains.length c0_0, .slice a0_1 x0.Turns.length c0_1] 25 (0, 0)) :: R)) (m := x0.Trains.length) ⟨x0.Trains, 0, rfl, rfl, hq60, hE.pick _ ⟨rfl, rfl, rfl, rfl, trivial⟩, hS⟩ ?_
    clear hE hS a w hq60; rintro m68 a w ⟨rest64, k62, rfl, hd65, hq60, hE, hS⟩
    refine W.gen fun K71 hK71 => ?_
    rcases rest64 with _ | ⟨x63, rest64⟩
    ·have hlt66 := drop_nil hd65
     refine W.seq (W.region ?_)
     refine vP hS hE (Gives.p hE rfl) rfl ?_; clear hE a; intro a hE
     refine WL.nil ?_
     refine W.seq ?_
     refine W.condF hE rfl (decide_eq_false (by omega)) ?_
     subst hK71
     refine W.exit rfl ?_
     exact ⟨hq60, hE.pick _ ⟨rfl, trivial⟩, hS⟩
    ·obtain ⟨hlt66, hx67, hd65⟩ := drop_cons hd65
     rw [Fishref2TextFault.loop1] at hq60
     refine W.seq (W.region ?_)
     refine vP hS hE (Gives.p hE rfl) rfl ?_; clear hE a; intro a hE
     refine WL.nil ?_
     refine W.seq ?_
     refine W.condT hE rfl (decide_eq_true (by omega)) ?_
     refine W.skip ?_
     refine W.seq ?_
     refine W.block ?_
     refine W.seq (W.region ?_)
     obtain ⟨cs72, hl73, hR74, hat75⟩ := h0_0.at hx67
     obtain ⟨a76, c77, a79, c80, rfl, h78, h81⟩ := hR74
     refine vP hS hE (Gives.idx hE k62 rfl rfl sl22 rfl hlt66 (h0_0.aok hlt66)) rfl ?_; clear hE a; intro a hE
     refine vP hS hE (Gives.loadA hE rfl (fun w h => hat75 w _ h) ty44) rfl ?_; clear hE a; intro a hE
     refine WL.alloc hE hS (runs_plain rfl) zr44 rfl ?_; clear hE hS a w; intro b82 a w hE hS
     refine WL.storeI hE hS 0 rfl [.int .i64 x63.No, .int .i64 x63.Stock, .slice a76 x63.Stops.length c77, .slice a79 x63.Legs.length c80] (runs_plain rfl) rfl rfl rfl ty44 rfl rfl rfl rfl ?_; clear hE hS a w; intro a w hE hS
     refine WL.nil ?_
     refine W.seq ?_
     refine W.seq ?_
     obtain ⟨q84, hq83, hq60⟩ := bndS hq60
     refine W.cut (fun a w => ∃ (q87 : Bool), q87 = q84 ∧ Rep a 105 [(1, .pointer (some ⟨b51, 0, none⟩)), (4, .pointer (some ⟨b82, 0, none⟩)), (26, .slice a0_0 x0.Trains.length c0_0), (27, .int .i64 ((x0.Trains).length : Int)), (28, .int .i64 ((k62 : Nat) : Int)), (45, .bool q87)] ∧ St w s (pt b82 (.cells #[.int .i64 x63.No, .int .i64 x63.Stock, .slice a76 x63.Stops.length c77, .slice a79 x63.Legs.length c80] 44 (0, 0)) :: pt b51 (.cells #[.slice a0_0 x0.Trains.length c0_0, .slice a0_1 x0.Turns.length c0_1] 25 (0, 0)) :: R)) ?_ ?_
     ·refine W.gen fun K88 hK88 => ?_
      refine W.region ?_
      refine vP hS hE (Gives.fld hE rfl fl44_2) rfl ?_; clear hE a; intro a hE
      refine vP hS hE (Gives.loadB hE 0 rfl rfl rfl ty42) rfl ?_; clear hE a; intro a hE
      refine vP hS hE (Gives.len hE rfl sl42) rfl ?_; clear hE a; intro a hE
      refine vP hS hE (Gives.p hE rfl) rfl ?_; clear hE a; intro a hE
      refine vP hS hE (Gives.p hE rfl) rfl ?_; clear hE a; intro a hE
      rcases Bool.eq_false_or_eq_true (((x63.Stops).length : Int) == 0) with hg89 | hg89
      ·replace hq83 := iteT hg89 hq83
       refine WL.no hE (runs_not hE rfl rfl rfl (by rw [hg89]; decide)) rfl ?_; clear hE a; intro a hE
       refine WL.no hE (runs_not hE rfl rfl rfl (by rw [hg89]; decide)) rfl ?_; clear hE a; intro a hE
       refine WL.no hE (runs_not hE rfl rfl rfl (by rw [hg89]; decide)) rfl ?_; clear hE a; intro a hE
       refine WL.no hE (runs_not hE rfl rfl rfl (by rw [hg89]; decide)) rfl ?_; clear hE a; intro a hE
       refine WL.no hE (runs_not hE rfl rfl rfl (by rw [hg89]; decide)) rfl ?_; clear hE a; intro a hE
       refine WL.no hE (runs_not hE rfl rfl rfl (by rw [hg89]; decide)) rfl ?_; clear hE a; intro a hE
       refine WL.no hE (runs_not hE rfl rfl rfl (by rw [hg89]; decide)) rfl ?_; clear hE a; intro a hE
       refine WL.no hE (runs_not hE rfl rfl rfl (by rw [hg89]; decide)) rfl ?_; clear hE a; intro a hE
       refine vP hS hE (Gives.pickT hE rfl hg89 rfl) rfl ?_; clear hE a; intro a hE
       refine WL.nil ?_
       subst hK88
       exact ⟨true, hq83, hE.pick _ ⟨rfl, rfl, rfl, rfl, rfl, rfl, trivial⟩, hS⟩
      ·replace hq83 := iteF hg89 hq83
       refine WL.vS hS hE (runs_if hE rfl rfl rfl hg89) (Gives.fld hE rfl fl44_3) rfl ?_; clear hE a; intro a hE
       refine WL.vS hS hE (runs_if hE rfl rfl rfl hg89) (Gives.loadB hE 0 rfl rfl rfl ty23) rfl ?_; clear hE a; intro a hE
       refine WL.vS hS hE (runs_if hE rfl rfl rfl hg89) (Gives.len hE rfl sl23) rfl ?_; clear hE a; intro a hE
       refine WL.vS hS hE (runs_if hE rfl rfl rfl hg89) (Gives.fld hE rfl fl44_2) rfl ?_; clear hE a; intro a hE
       refine WL.vS hS hE (runs_if hE rfl rfl rfl hg89) (Gives.loadB hE 0 rfl rfl rfl ty42) rfl ?_; clear hE a; intro a hE
       refine WL.vS hS hE (runs_if hE rfl rfl rfl hg89) (Gives.len hE rfl sl42) rfl ?_; clear hE a; intro a hE
       refine WL.vS hS hE (runs_if hE rfl rfl rfl hg89) (Gives.p hE rfl) rfl ?_; clear hE a; intro a hE
       refine WL.vS hS hE (runs_if hE rfl rfl rfl hg89) (Gives.p hE rfl) rfl ?_; clear hE a; intro a hE
       refine vP hS hE (Gives.pickF hE rfl hg89 rfl) rfl ?_; clear hE a; intro a hE
       refine WL.nil ?_
       subst hK88
       exact ⟨(((x63.Legs).length : Int) != (w64 (((x63.Stops).length : Int) - 1))), hq83, hE.pick _ ⟨rfl, rfl, rfl, rfl, rfl, rfl, trivial⟩, hS⟩
     ·clear hE hS a w; rintro a w ⟨q87, rfl, hE, hS⟩
      refine W.cond hE rfl (fun hc90 => ?_) (fun hc90 => ?_)
      ·replace hq60 := iteT hc90 hq60
       refine W.seq (W.region ?_)
       refine vP hS hE (Gives.p hE rfl) rfl ?_; clear hE a; intro a hE
       refine WL.nil ?_
       refine W.ret ?_
       subst hK71
       rw [← hq60] at hr
       dsimp only at hr
       refine finG (fn := Tryd.f56) (rs := [.tmp 2]) (vs := [_]) hE rfl ⟨rfl, trivial⟩ ?_
       obtain rfl := Option.some.inj hr
       replace hS := hS.tail
       replace hS := hS.tail
       exact ⟨rfl, hS⟩
      ·replace hq60 := iteF hc90 hq60
       refine W.skip ?_
       refine W.seq ?_
       refine W.seq (W.region ?_)
       refine vP hS hE (Gives.fld hE rfl fl44_3) rfl ?_; clear hE a; intro a hE
       refine vP hS hE (Gives.loadB hE 0 rfl rfl rfl ty23) rfl ?_; clear hE a; intro a hE
       refine vP hS hE (Gives.len hE rfl sl23) rfl ?_; clear hE a; intro a hE
       refine vP hS hE (Gives.p hE rfl) rfl ?_; clear hE a; intro a hE
       refine WL.nil ?_
       obtain ⟨q92, hq91, hq60⟩ := bndS hq60
       refine W.cut (fun a w => (.next ()) = q92 ∧ Rep a 105 [(1, .pointer (some ⟨b51, 0, none⟩)), (4, .pointer (some ⟨b82, 0, none⟩)), (26, .slice a0_0 x0.Trains.length c0_0), (27, .int .i64 ((x0.Trains).length : Int)), (28, .int .i64 ((k62 : Nat) : Int))] ∧ St w s (pt b82 (.cells #[.int .i64 x63.No, .int .i64 x63.Stock, .slice a76 x63.Stops.length c77, .slice a79 x63.Legs.length c80] 44 (0, 0)) :: pt b51 (.cells #[.slice a0_0 x0.Trains.length c0_0, .slice a0_1 x0.Turns.length c0_1] 25 (0, 0)) :: R)) ?_ ?_
       ·refine W.block ?_
        refine W.loop (fun m a w => ∃ (rest95 : List (List Int)) (k93 : Nat), rest95.length = m ∧ x63.Legs.drop k93 = rest95 ∧ Fishref2TextFault.loop2 rest95 = q92 ∧ Rep a 105 [(1, .pointer (some ⟨b51, 0, none⟩)), (4, .pointer (some ⟨b82, 0, none⟩)), (26, .slice a0_0 x0.Trains.length c0_0), (27, .int .i64 ((x0.Trains).length : Int)), (28, .int .i64 ((k62 : Nat) : Int)), (47, .slice a79 x63.Legs.length c80), (48, .int .i64 ((x63.Legs).length : Int)), (49, .int .i64 ((k93 : Nat) : Int))] ∧ St w s (pt b82 (.cells #[.int .i64 x63.No, .int .i64 x63.Stock, .slice a76 x63.Stops.length c77, .slice a79 x63.Legs.length c80] 44 (0, 0)) :: pt b51 (.cells #[.slice a0_0 x0.Trains.length c0_0, .slice a0_1 x0.Turns.length c0_1] 25 (0, 0)) :: R)) (m := x63.Legs.length) ⟨x63.Legs, 0, rfl, rfl, hq91, hE.pick _ ⟨rfl, rfl, rfl, rfl, rfl, rfl, rfl, rfl, trivial⟩, hS⟩ ?_
        clear hE hS a w hq91; rintro m99 a w ⟨rest95, k93, rfl, hd96, hq91, hE, hS⟩
        refine W.gen fun K102 hK102 => ?_
        rcases rest95 with _ | ⟨x94, rest95⟩
        ·have hlt97 := drop_nil hd96
         refine W.seq (W.region ?_)
         refine vP hS hE (Gives.p hE rfl) rfl ?_; clear hE a; intro a hE
         refine WL.nil ?_
         refine W.seq ?_
         refine W.condF hE rfl (decide_eq_false (by omega)) ?_
         subst hK102
         refine W.exit rfl ?_
         exact ⟨hq91, hE.pick _ ⟨rfl, rfl, rfl, rfl, rfl, trivial⟩, hS⟩
        ·obtain ⟨hlt97, hx98, hd96⟩ := drop_cons hd96
         rw [Fishref2TextFault.loop2] at hq91
         refine W.seq (W.region ?_)
         refine vP hS hE (Gives.p hE rfl) rfl ?_; clear hE a; intro a hE
         refine WL.nil ?_
         refine W.seq ?_
         refine W.condT hE rfl (decide_eq_true (by omega)) ?_
         refine W.skip ?_
         refine W.seq ?_
         refine W.block ?_
         refine W.seq (W.region ?_)
         obtain ⟨cs103, hl104, hR105, hat106⟩ := h81.at hx98
         obtain ⟨a107, c108, rfl, h109⟩ := hR105
         refine vP hS hE (Gives.idx hE k93 rfl rfl sl23 rfl hlt97 (h81.aok hlt97)) rfl ?_; clear hE a; intro a hE
         refine vP hS hE (Gives.load1 hE rfl (fun w h => hat106 w _ h) ty45) rfl ?_; clear hE a; intro a hE
         refine vP hS hE (Gives.p hE rfl) rfl ?_; clear hE a; intro a hE
         refine WL.nil ?_
         refine W.seq (W.region ?_)
         refine vP hS hE (Gives.p hE rfl) rfl ?_; clear hE a; intro a hE
         refine vP hS hE (Gives.len hE rfl sl45) rfl ?_; clear hE a; intro a hE
         refine vP hS hE (Gives.p hE rfl) rfl ?_; clear hE a; intro a hE
         refine WL.nil ?_
         refine W.cond hE rfl (fun hc110 => ?_) (fun hc110 => ?_)
         ·replace hq91 := iteT hc110 hq91
          refine W.seq (W.region ?_)
          refine vP hS hE (Gives.p hE rfl) rfl ?_; clear hE a; intro a hE
          refine WL.nil ?_
          refine W.ret ?_
          subst hK102
          subst hK71
          rw [← hq91] at hq60
          dsimp only at hq60
          rw [← hq60] at hr
          dsimp only at hr
          refine finG (fn := Tryd.f56) (rs := [.tmp 2]) (vs := [_]) hE rfl ⟨rfl, trivial⟩ ?_
          obtain rfl := Option.some.inj hr
          replace hS := hS.tail
          replace hS := hS.tail
          exact ⟨rfl, hS⟩
         ·replace hq91 := iteF hc110 hq91
          refine W.skip ?_
          refine W.region ?_
          refine vP hS hE (Gives.inc hE rfl (by have := h81.small; omega)) rfl ?_; clear hE a; intro a hE
          refine vP hS hE (Gives.p hE rfl) rfl ?_; clear hE a; intro a hE
          refine WL.nil ?_
          subst hK102
          exact ⟨rest95.length, Nat.lt_succ_self _, rest95, k93 + 1, rfl, hd96, hq91, hE.pick _ ⟨rfl, rfl, rfl, rfl, rfl, rfl, rfl, rfl, trivial⟩, hS⟩
       ·clear hE hS a w; rintro a w ⟨rfl, hE, hS⟩
        dsimp only at hq60
        refine W.seq ?_
        refine W.seq (W.region ?_)
        refine vP hS hE (Gives.fld hE rfl fl44_2) rfl ?_; clear hE a; intro a hE
        refine vP hS hE (Gives.loadB hE 0 rfl rfl rfl ty42) rfl ?_; clear hE a; intro a hE
        refine vP hS hE (Gives.len hE rfl sl42) rfl ?_; clear hE a; intro a hE
        refine vP hS hE (Gives.p hE rfl) rfl ?_; clear hE a; intro a hE
        refine WL.nil ?_
        refine W.cond hE rfl (fun hc111 => ?_) (fun hc111 => ?_)
        ·replace hq60 := iteT hc111 hq60
         refine W.seq (W.region ?_)
         refine vP hS hE (Gives.p hE rfl) rfl ?_; clear hE a; intro a hE
         refine WL.nil ?_
         refine W.ret ?_
         subst hK71
         rw [← hq60] at hr
         dsimp only at hr
         refine finG (fn := Tryd.f56) (rs := [.tmp 2]) (vs := [_]) hE rfl ⟨rfl, trivial⟩ ?_
         obtain rfl := Option.some.inj hr
         replace hS := hS.tail
         replace hS := hS.tail
         exact ⟨rfl, hS⟩
        ·replace hq60 := iteF hc111 hq60
         refine W.skip ?_
         refine W.seq (W.region ?_)
         refine vP hS hE (Gives.fld hE rfl fl44_3) rfl ?_; clear hE a; intro a hE
         refine vP hS hE (Gives.loadB hE 0 rfl rfl rfl ty23) rfl ?_; clear hE a; intro a hE
         refine vP hS hE (Gives.len hE rfl sl23) rfl ?_; clear hE a; intro a hE
         refine vP hS hE (Gives.p hE rfl) rfl ?_; clear hE a; intro a hE
         refine WL.nil ?_
         obtain ⟨q113, hq112, hq60⟩ := bndS hq60
         refine W.cut (fun a w => (.next ()) = q113 ∧ Rep a 105 [(1, .pointer (some ⟨b51, 0, none⟩)), (26, .slice a0_0 x0.Trains.length c0_0), (27, .int .i64 ((x0.Trains).length : Int)), (28, .int .i64 ((k62 : Nat) : Int))] ∧ St w s (pt b82 (.cells #[.int .i64 x63.No, .int .i64 x63.Stock, .slice a76 x63.Stops.length c77, .slice a79 x63.Legs.length c80] 44 (0, 0)) :: pt b51 (.cells #[.slice a0_0 x0.Trains.length c0_0, .slice a0_1 x0.Turns.length c0_1] 25 (0, 0)) :: R)) ?_ ?_
         ·refine W.block ?_
          refine W.loop (fun m a w => ∃ (rest116 : List (List Int)) (k114 : Nat), rest116.length = m ∧ x63.Legs.drop k114 = rest116 ∧ Fishref2TextFault.loop3 rest116 = q113 ∧ Rep a 105 [(1, .pointer (some ⟨b51, 0, none⟩)), (26, .slice a0_0 x0.Trains.length c0_0), (27, .int .i64 ((x0.Trains).length : Int)), (28, .int .i64 ((k62 : Nat) : Int)), (62, .slice a79 x63.Legs.length c80), (63, .int .i64 ((x63.Legs).length : Int)), (64, .int .i64 ((k114 : Nat) : Int))] ∧ St w s (pt b82 (.cells #[.int .i64 x63.No, .int .i64 x63.Stock, .slice a76 x63.Stops.length c77, .slice a79 x63.Legs.length c80] 44 (0, 0)) :: pt b51 (.cells #[.slice a0_0 x0.Trains.length c0_0, .slice a0_1 x0.Turns.length c0_1] 25 (0, 0)) :: R)) (m := x63.Legs.length) ⟨x63.Legs, 0, rfl, rfl, hq112, hE.pick _ ⟨rfl, rfl, rfl, rfl, rfl, rfl, rfl, trivial⟩, hS⟩ ?_
          clear hE hS a w hq112; rintro m120 a w ⟨rest116, k114, rfl, hd117, hq112, hE, hS⟩
          refine W.gen fun K123 hK123 => ?_
          rcases rest116 with _ | ⟨x115, rest116⟩
          ·have hlt118 := drop_nil hd117
           refine W.seq (W.region ?_)
           refine vP hS hE (Gives.p hE rfl) rfl ?_; clear hE a; intro a hE
           refine WL.nil ?_
           refine W.seq ?_
           refine W.condF hE rfl (decide_eq_false (by omega)) ?_
           subst hK123
           refine W.exit rfl ?_
           exact ⟨hq112, hE.pick _ ⟨rfl, rfl, rfl, rfl, trivial⟩, hS⟩
          ·obtain ⟨hlt118, hx119, hd117⟩ := drop_cons hd117
           rw [Fishref2TextFault.loop3] at hq112
           refine W.seq (W.region ?_)
           refine vP hS hE (Gives.p hE rfl) rfl ?_; clear hE a; intro a hE
           refine WL.nil ?_
           refine W.seq ?_
           refine W.condT hE rfl (decide_eq_true (by omega)) ?_
           refine W.skip ?_
           refine W.seq ?_
           refine W.block ?_
           refine W.seq (W.region ?_)
           obtain ⟨cs124, hl125, hR126, hat127⟩ := h81.at hx119
           obtain ⟨a128, c129, rfl, h130⟩ := hR126
           refine vP hS hE (Gives.idx hE k114 rfl rfl sl23 rfl hlt118 (h81.aok hlt118)) rfl ?_; clear hE a; intro a hE
           refine vP hS hE (Gives.load1 hE rfl (fun w h => hat127 w _ h) ty45) rfl ?_; clear hE a; intro a hE
           refine vP hS hE (Gives.p hE rfl) rfl ?_; clear hE a; intro a hE
           refine WL.nil ?_
           refine W.seq (W.region ?_)
           refine vP hS hE (Gives.p hE rfl) rfl ?_; clear hE a; intro a hE
           refine vP hS hE (Gives.len hE rfl sl45) rfl ?_; clear hE a; intro a hE
           refine vP hS hE (Gives.p hE rfl) rfl ?_; clear hE a; intro a hE
           refine WL.nil ?_
           refine W.cond hE rfl (fun hc131 => ?_) (fun hc131 => ?_)
           ·replace hq112 := iteT hc131 hq112
            refine W.seq (W.region ?_)
            refine vP hS hE (Gives.p hE rfl) rfl ?_; clear hE a; intro a hE
            refine WL.nil ?_
            refine W.ret ?_
            subst hK123
            subst hK71
            rw [← hq112] at hq60
            dsimp only at hq60
            rw [← hq60] at hr
            dsimp only at hr
            refine finG (fn := Tryd.f56) (rs := [.tmp 2]) (vs := [_]) hE rfl ⟨rfl, trivial⟩ ?_
            obtain rfl := Option.some.inj hr
            replace hS := hS.tail
            replace hS := hS.tail
            exact ⟨rfl, hS⟩
           ·replace hq112 := iteF hc131 hq112
            refine W.skip ?_
            refine W.region ?_
            refine vP hS hE (Gives.inc hE rfl (by have := h81.small; omega)) rfl ?_; clear hE a; intro a hE
            refine vP hS hE (Gives.p hE rfl) rfl ?_; clear hE a; intro a hE
            refine WL.nil ?_
            subst hK123
            exact ⟨rest116.length, Nat.lt_succ_self _, rest116, k114 + 1, rfl, hd117, hq112, hE.pick _ ⟨rfl, rfl, rfl, rfl, rfl, rfl, rfl, trivial⟩, hS⟩
         ·clear hE hS a w; rintro a w ⟨rfl, hE, hS⟩
          dsimp only at hq60
          refine W.region ?_
          refine vP hS hE (Gives.inc hE rfl (by have := h0_0.small; omega)) rfl ?_; clear hE a; intro a hE
          refine vP hS hE (Gives.p hE rfl) rfl ?_; clear hE a; intro a hE
          refine WL.nil ?_
          replace hS := hS.tail
          subst hK71
          exact ⟨rest64.length, Nat.lt_succ_self _, rest64, k62 + 1, rfl, hd65, hq60, hE.pick _ ⟨rfl, rfl, rfl, rfl, trivial⟩, hS⟩
   ·clear hE hS a w; rintro a w ⟨rfl, hE, hS⟩
    dsimp only at hr
    refine W.seq ?_
    refine W.seq (W.region ?_)
    refine vP hS hE (Gives.fld hE rfl fl25_1) rfl ?_; clear hE a; intro a hE
    refine vP hS hE (Gives.loadB hE 0 rfl rfl rfl ty23) rfl ?_; clear hE a; intro a hE
    refine vP hS hE (Gives.len hE rfl sl23) rfl ?_; clear hE a; intro a hE
    refine vP hS hE (Gives.p hE rfl) rfl ?_; clear hE a; intro a hE
    refine WL.nil ?_
    obtain ⟨q133, hq132, hr⟩ := bndS hr
    refine W.cut (fun a w => (.next ()) = q133 ∧ Rep a 105 [(1, .pointer (some ⟨b51, 0, none⟩))] ∧ St w s (pt b51 (.cells #[.slice a0_0 x0.Trains.length c0_0, .slice a0_1 x0.Turns.length c0_1] 25 (0, 0)) :: R)) ?_ ?_
    ·refine W.block ?_
     refine W.loop (fun m a w => ∃ (rest136 : List (List Int)) (k134 : Nat), rest136.length = m ∧ x0.Turns.drop k134 = rest136 ∧ Fishref2TextFault.loop4 rest136 = q133 ∧ Rep a 105 [(1, .pointer (some ⟨b51, 0, none⟩)), (74, .slice a0_1 x0.Turns.length c0_1), (75, .int .i64 ((x0.Turns).length : Int)), (76, .int .i64 ((k134 : Nat) : Int))] ∧ St w s (pt b51 (.cells #[.slice a0_0 x0.Trains.length c0_0, .slice a0_1 x0.Turns.length c0_1] 25 (0, 0)) :: R)) (m := x0.Turns.length) ⟨x0.Turns, 0, rfl, rfl, hq132, hE.pick _ ⟨rfl, rfl, rfl, rfl, trivial⟩, hS⟩ ?_
     clear hE hS a w hq132; rintro m140 a w ⟨rest136, k134, rfl, hd137, hq132, hE, hS⟩
     refine W.gen fun K143 hK143 => ?_
     rcases rest136 with _ | ⟨x135, rest136⟩
     ·have hlt138 := drop_nil hd137
      refine W.seq (W.region ?_)
      refine vP hS hE (Gives.p hE rfl) rfl ?_; clear hE a; intro a hE
      refine WL.nil ?_
      refine W.seq ?_
      refine W.condF hE rfl (decide_eq_false (by omega)) ?_
      subst hK143
      refine W.exit rfl ?_
      exact ⟨hq132, hE.pick _ ⟨rfl, trivial⟩, hS⟩
     ·obtain ⟨hlt138, hx139, hd137⟩ := drop_cons hd137
      rw [Fishref2TextFault.loop4] at hq132
      refine W.seq (W.region ?_)
      refine vP hS hE (Gives.p hE rfl) rfl ?_; clear hE a; intro a hE
      refine WL.nil ?_
      refine W.seq ?_
      refine W.condT hE rfl (decide_eq_true (by omega)) ?_
      refine W.skip ?_
      refine W.seq ?_
      refine W.block ?_
      refine W.seq (W.region ?_)
      obtain ⟨cs144, hl145, hR146, hat147⟩ := h0_1.at hx139
      obtain ⟨a148, c149, rfl, h150⟩ := hR146
      refine vP hS hE (Gives.idx hE k134 rfl rfl sl23 rfl hlt138 (h0_1.aok hlt138)) rfl ?_; clear hE a; intro a hE
      refine vP hS hE (Gives.load1 hE rfl (fun w h => hat147 w _ h) ty45) rfl ?_; clear hE a; intro a hE
      refine vP hS hE (Gives.p hE rfl) rfl ?_; clear hE a; intro a hE
      refine WL.nil ?_
      refine W.seq ?_
      refine W.seq (W.region ?_)
      refine vP hS hE (Gives.p hE rfl) rfl ?_; clear hE a; intro a hE
      refine vP hS hE (Gives.len hE rfl sl45) rfl ?_; clear hE a; intro a hE
      refine vP hS hE (Gives.p hE rfl) rfl ?_; clear hE a; intro a hE
      refine WL.nil ?_
      refine W.cond hE rfl (fun hc151 => ?_) (fun hc151 => ?_)
      ·replace hq132 := iteT hc151 hq132
       refine W.seq (W.region ?_)
       refine vP hS hE (Gives.p hE rfl) rfl ?_; clear hE a; intro a hE
       refine WL.nil ?_
       refine W.ret ?_
       subst hK143
       rw [← hq132] at hr
       dsimp only at hr
       refine finG (fn := Tryd.f56) (rs := [.tmp 2]) (vs := [_]) hE rfl ⟨rfl, trivial⟩ ?_
       obtain rfl := Option.some.inj hr
       replace hS := hS.tail
       exact ⟨rfl, hS⟩
      ·replace hq132 := iteF hc151 hq132
       refine W.skip ?_
       refine W.seq (W.region ?_)
       refine vP hS hE (Gives.p hE rfl) rfl ?_; clear hE a; intro a hE
       refine vP hS hE (Gives.len hE rfl sl45) rfl ?_; clear hE a; intro a hE
       refine vP hS hE (Gives.p hE rfl) rfl ?_; clear hE a; intro a hE
       refine WL.nil ?_
       refine W.cond hE rfl (fun hc152 => ?_) (fun hc152 => ?_)
       ·replace hq132 := iteT hc152 hq132
        refine W.seq (W.region ?_)
        refine vP hS hE (Gives.p hE rfl) rfl ?_; clear hE a; intro a hE
        refine WL.nil ?_
        refine W.ret ?_
        subst hK143
        rw [← hq132] at hr
        dsimp only at hr
        refine finG (fn := Tryd.f56) (rs := [.tmp 2]) (vs := [_]) hE rfl ⟨rfl, trivial⟩ ?_
        obtain rfl := Option.some.inj hr
        replace hS := hS.tail
        exact ⟨rfl, hS⟩
       ·replace hq132 := iteF hc152 hq132
        refine W.skip ?_
        refine W.region ?_
        refine vP hS hE (Gives.inc hE rfl (by have := h0_1.small; omega)) rfl ?_; clear hE a; intro a hE
        refine vP hS hE (Gives.p hE rfl) rfl ?_; clear hE a; intro a hE
        refine WL.nil ?_
        subst hK143
        exact ⟨rest136.length, Nat.lt_succ_self _, rest136, k134 + 1, rfl, hd137, hq132, hE.pick _ ⟨rfl, rfl, rfl, rfl, trivial⟩, hS⟩
    ·clear hE hS a w; rintro a w ⟨rfl, hE, hS⟩
     dsimp only at hr
     refine W.seq ?_
     refine W.seq (W.region ?_)
     refine vP hS hE (Gives.loadBA hE 0 rfl rfl ty25) rfl ?_; clear hE a; intro a hE
     obtain ⟨q153, hq154, hr⟩ := bindS hr
     have hc_ := Fishref2numbersIn_ok hS h0_0 h0_1 hq154
     refine WL.fnq hE (hc_) (runs_plain rfl) bd103 rfl rfl rfl ?_
     clear hE hS hc_; rintro e w ⟨a155, c156, n157, cs158, s161, rfl, hle162, h159, rfl, hS⟩; refine ⟨_, rfl, ?_⟩; clear a; intro a hE
     replace h0_0 := Sl.mono RApiTrain.mono hle162 h0_0
     replace h0_1 := Sl.mono (RL.mono RI.mono) hle162 h0_1
     refine vP hS hE (Gives.len hE rfl sl23) rfl ?_; clear hE a; intro a hE
     refine vP hS hE (Gives.p hE rfl) rfl ?_; clear hE a; intro a hE
     refine WL.nil ?_
     have hb174 : q153.length ≤ 9223372036854775807 := by have := hS.vecCap 0 rfl; unfold maxLen at this; omega
     obtain ⟨q164, hq163, hr⟩ := bindS hr
     refine W.cut (fun a w => (.next ()) = q164 ∧ Rep a 105 [] ∧ St w s161 (vecC 45 1 a155 c156 q153.length cs158 :: pt b51 (.cells #[.slice a0_0 x0.Trains.length c0_0, .slice a0_1 x0.Turns.length c0_1] 25 (0, 0)) :: R)) ?_ ?_
     ·refine W.block ?_
      refine W.loop (fun m a w => ∃ (rest167 : Nat) (k165 : Nat), rest167 = m ∧ k165 + rest167 = q153.length ∧ Fishref2TextFault.loop5 q153 rest167 k165 = some q164 ∧ Rep a 105 [(88, .slice a155 q153.length c156), (89, .int .i64 ((q153.length : Nat) : Int)), (90, .int .i64 ((k165 : Nat) : Int))] ∧ St w s161 (vecC 45 1 a155 c156 q153.length cs158 :: pt b51 (.cells #[.slice a0_0 x0.Trains.length c0_0, .slice a0_1 x0.Turns.length c0_1] 25 (0, 0)) :: R)) (m := q153.length) ⟨q153.length, 0, rfl, by omega, hq163, hE.pick _ ⟨rfl, rfl, rfl, trivial⟩, hS⟩ ?_
      clear hE hS a w hq163; rintro m171 a w ⟨rest167, k165, rfl, hd168, hq163, hE, hS⟩
      refine W.gen fun K175 hK175 => ?_
      rcases rest167 with _ | rest167
      ·skip
       refine W.seq (W.region ?_)
       refine vP hS hE (Gives.p hE rfl) rfl ?_; clear hE a; intro a hE
       refine WL.nil ?_
       refine W.seq ?_
       refine W.condF hE rfl (decide_eq_false (by omega)) ?_
       subst hK175
       refine W.exit rfl ?_
       exact ⟨Option.some.inj hq163, hE.pick _ trivial, hS⟩
      ·have hlt169 : k165 < q153.length := by omega
       rw [Fishref2TextFault.loop5] at hq163
       refine W.seq (W.region ?_)
       refine vP hS hE (Gives.p hE rfl) rfl ?_; clear hE a; intro a hE
       refine WL.nil ?_
       refine W.seq ?_
       refine W.condT hE rfl (decide_eq_true (by omega)) ?_
       refine W.skip ?_
       refine W.seq ?_
       refine W.block ?_
       refine W.seq (W.region ?_)
       obtain ⟨x176, hx177, hq163⟩ := bindS hq163
       obtain ⟨hi178, hlt179, hy180⟩ := gx_some hx177
       obtain ⟨vs181, hl182, hR183, hd184, hget185⟩ := h159.at hy180
       obtain ⟨a186, c187, rfl, h188⟩ := hR183
       refine vP hS hE (Gives.idx hE ((((k165 : Nat) : Int)).toNat) rfl rfl sl23 hi178 (by omega) (hS.vecAok 0 rfl (by omega : (((k165 : Nat) : Int)).toNat < q153.length))) rfl ?_; clear hE a; intro a hE
       refine vP hS hE (Gives.load1 hE rfl (fun w h => St.vecSees h 0 rfl ((((k165 : Nat) : Int)).toNat * 1) _ hget185) ty45) rfl ?_; clear hE a; intro a hE
       refine vP hS hE (Gives.p hE rfl) rfl ?_; clear hE a; intro a hE
       refine WL.nil ?_
       refine W.seq (W.region ?_)
       refine vP hS hE (Gives.p hE rfl) rfl ?_; clear hE a; intro a hE
       refine vP hS hE (Gives.len hE rfl sl45) rfl ?_; clear hE a; intro a hE
       refine vP hS hE (Gives.p hE rfl) rfl ?_; clear hE a; intro a hE
       refine WL.nil ?_
       obtain ⟨q190, hq189, hq163⟩ := bndS hq163
       refine W.cut (fun a w => (.next ()) = q190 ∧ Rep a 105 [(88, .slice a155 q153.length c156), (89, .int .i64 ((q153.length : Nat) : Int)), (90, .int .i64 ((k165 : Nat) : Int))] ∧ St w s161 (vecC 45 1 a155 c156 q153.length cs158 :: pt b51 (.cells #[.slice a0_0 x0.Trains.length c0_0, .slice a0_1 x0.Turns.length c0_1] 25 (0, 0)) :: R)) ?_ ?_
       ·refine W.block ?_
        refine W.loop (fun m a w => ∃ (rest193 : List Int) (k191 : Nat), rest193.length = m ∧ x176.drop k191 = rest193 ∧ Fishref2TextFault.loop6 rest193 = q190 ∧ Rep a 105 [(88, .slice a155 q153.length c156), (89, .int .i64 ((q153.length : Nat) : Int)), (90, .int .i64 ((k165 : Nat) : Int)), (94, .slice a186 x176.length c187), (95, .int .i64 ((x176).length : Int)), (96, .int .i64 ((k191 : Nat) : Int))] ∧ St w s161 (vecC 45 1 a155 c156 q153.length cs158 :: pt b51 (.cells #[.slice a0_0 x0.Trains.length c0_0, .slice a0_1 x0.Turns.length c0_1] 25 (0, 0)) :: R)) (m := x176.length) ⟨x176, 0, rfl, rfl, hq189, hE.pick _ ⟨rfl, rfl, rfl, rfl, rfl, rfl, trivial⟩, hS⟩ ?_
        clear hE hS a w hq189; rintro m197 a w ⟨rest193, k191, rfl, hd194, hq189, hE, hS⟩
        refine W.gen fun K200 hK200 => ?_
        rcases rest193 with _ | ⟨x192, rest193⟩
        ·have hlt195 := drop_nil hd194
         refine W.seq (W.region ?_)
         refine vP hS hE (Gives.p hE rfl) rfl ?_; clear hE a; intro a hE
         refine WL.nil ?_
         refine W.seq ?_
         refine W.condF hE rfl (decide_eq_false (by omega)) ?_
         subst hK200
         refine W.exit rfl ?_
         exact ⟨hq189, hE.pick _ ⟨rfl, rfl, rfl, trivial⟩, hS⟩
        ·obtain ⟨hlt195, hx196, hd194⟩ := drop_cons hd194
         rw [Fishref2TextFault.loop6] at hq189
         refine W.seq (W.region ?_)
         refine vP hS hE (Gives.p hE rfl) rfl ?_; clear hE a; intro a hE
         refine WL.nil ?_
         refine W.seq ?_
         refine W.condT hE rfl (decide_eq_true (by omega)) ?_
         refine W.skip ?_
         refine W.seq ?_
         refine W.block ?_
         refine W.seq (W.region ?_)
         obtain ⟨cs201, hl202, hR203, hat204⟩ := h188.at hx196
         subst hR203
         refine vP hS hE (Gives.idx hE k191 rfl rfl sl45 rfl hlt195 (h188.aok hlt195)) rfl ?_; clear hE a; intro a hE
         refine vP hS hE (Gives.load1 hE rfl (fun w h => hat204 w _ h) ty3) rfl ?_; clear hE a; intro a hE
         refine vP hS hE (Gives.p hE rfl) rfl ?_; clear hE a; intro a hE
         refine WL.nil ?_
         refine W.seq (W.region ?_)
         refine vP hS hE (Gives.p hE rfl) rfl ?_; clear hE a; intro a hE
         refine WL.fnq hE (Fishref2within_ok hS  rfl (r := Fishref2within x192 0 999999)) (runs_plain rfl) bd57 rfl rfl rfl ?_
         clear hE hS; rintro e w ⟨rfl, hS⟩; refine ⟨_, rfl, ?_⟩; clear a; intro a hE
         refine vP hS hE (Gives.p hE rfl) rfl ?_; clear hE a; intro a hE
         refine WL.nil ?_
         refine W.cond hE rfl (fun hc205 => ?_) (fun hc205 => ?_)
         ·replace hq189 := iteT hc205 hq189
          refine W.seq (W.region ?_)
          refine vP hS hE (Gives.p hE rfl) rfl ?_; clear hE a; intro a hE
          refine WL.nil ?_
          refine W.ret ?_
          subst hK200
          subst hK175
          rw [← hq189] at hq163
          dsimp only at hq163
          rw [← Option.some.inj hq163] at hr
          dsimp only at hr
          refine finG (fn := Tryd.f56) (rs := [.tmp 2]) (vs := [_]) hE rfl ⟨rfl, trivial⟩ ?_
          obtain rfl := Option.some.inj hr
          replace hS := hS.tail
          replace hS := hS.tail
          exact ⟨rfl, (hS.down hle162)⟩
         ·replace hq189 := iteF hc205 hq189
          refine W.skip ?_
          refine W.region ?_
          refine vP hS hE (Gives.inc hE rfl (by have := h188.small; omega)) rfl ?_; clear hE a; intro a hE
          refine vP hS hE (Gives.p hE rfl) rfl ?_; clear hE a; intro a hE
          refine WL.nil ?_
          subst hK200
          exact ⟨rest193.length, Nat.lt_succ_self _, rest193, k191 + 1, rfl, hd194, hq189, hE.pick _ ⟨rfl, rfl, rfl, rfl, rfl, rfl, trivial⟩, hS⟩
       ·clear hE hS a w; rintro a w ⟨rfl, hE, hS⟩
        dsimp only at hq163
        refine W.region ?_
        refine vP hS hE (Gives.inc hE rfl (by omega)) rfl ?_; clear hE a; intro a hE
        refine vP hS hE (Gives.p hE rfl) rfl ?_; clear hE a; intro a hE
        refine WL.nil ?_
        subst hK175
        exact ⟨rest167, Nat.lt_succ_self _, rest167, k165 + 1, rfl, (by omega), hq163, hE.pick _ ⟨rfl, rfl, rfl, trivial⟩, hS⟩
     ·clear hE hS a w; rintro a w ⟨rfl, hE, hS⟩
      dsimp only at hr
      refine W.seq (W.region ?_)
      refine vP hS hE (Gives.p hE rfl) rfl ?_; clear hE a; intro a hE
      refine WL.nil ?_
      refine W.ret ?_
      refine finG (fn := Tryd.f56) (rs := [.tmp 2]) (vs := [_]) hE rfl ⟨rfl, trivial⟩ ?_
      obtain rfl := Option.some.inj hr
      replace hS := hS.tail
      replace hS := hS.tail
      exact ⟨rfl, (hS.down hle162)⟩
set_option maxHeartbeats 8000000 in
theorem Fishref2GuideFault_ok  {w : World} {s : Sg} {R : List HP} {x0 : ApiDay} {a0_0 : Option Addr} {c0_0 : Nat} {a0_1 : Option Addr} {c0_1 : Nat} (hS : St w s (R)) (h0_0 : Sl 4 RApiTrain s a0_0 c0_0 x0.Trains) (h0_1 : Sl 1 (RL 1 (RI .i64)) s a0_1 c0_1 x0.Turns) {r : Int} (hr : Fishref2GuideFault x0 = some r) :
  Calls Tryd.prog 12 [.agg [.slice a0_0 x0.Trains.length c0_0, .slice a0_1 x0.Turns.length c0_1].toArray].toArray w (fun e w => e = .returned (.int .i64 r) ∧ St w s (R)) := by
 refine enter Tryd.func12 rfl rfl rfl fun a hE => ?_
 rw [Fishref2GuideFault] at hr
 refine W.seq (W.region ?_)
 refine WL.box hE hS (runs_plain rfl) rfl rfl rfl ?_; clear hE hS a w; intro b51 a w hE hS
 refine vP hS hE (Gives.p hE rfl) rfl ?_; clear hE a; intro a hE
 refine WL.nil ?_
 refine W.seq ?_
 refine W.seq (W.region ?_)
 refine vP hS hE (Gives.loadBA hE 0 rfl rfl ty25) rfl ?_; clear hE a; intro a hE
 obtain ⟨q52, hq53, hr⟩ := bindS hr
 have hc_ := Fishref2TextFault_ok hS h0_0 h0_1 hq53
 refine WL.fnq hE (hc_) (runs_plain rfl) bd56 rfl rfl rfl ?_
 clear hE hS hc_; rintro e w ⟨rfl, hS⟩; refine ⟨_, rfl, ?_⟩; clear a; intro a hE
 refine vP hS hE (Gives.p hE rfl) rfl ?_; clear hE a; intro a hE
 refine WL.nil ?_
 refine W.seq (W.region ?_)
 refine vP hS hE (Gives.p hE rfl) rfl ?_; clear hE a; intro a hE
 refine vP hS hE (Gives.p hE rfl) rfl ?_; clear hE a; intro a hE
 refine WL.nil ?_
 refine W.cond hE rfl (fun hc54 => ?_) (fun hc54 => ?_)
 ·replace hr := iteT hc54 hr
  refine W.seq (W.region ?_)
  refine vP hS hE (Gives.p hE rfl) rfl ?_; clear hE a; intro a hE
  refine vP hS hE (Gives.p hE rfl) rfl ?_; clear hE a; intro a hE
  refine WL.nil ?_
  refine W.ret ?_
  refine finG (fn := Tryd.f12) (rs := [.tmp 2]) (vs := [_]) hE rfl ⟨rfl, trivial⟩ ?_
  obtain rfl := Option.some.inj hr
  replace hS := hS.tail
  exact ⟨rfl, hS⟩
 ·replace hr := iteF hc54 hr
  refine W.skip ?_
  refine W.seq ?_
  refine W.seq (W.region ?_)
  refine vP hS hE (Gives.fld hE rfl fl25_0) rfl ?_; clear hE a; intro a hE
  refine vP hS hE (Gives.loadB hE 0 rfl rfl rfl ty22) rfl ?_; clear hE a; intro a hE
  refine vP hS hE (Gives.len hE rfl sl22) rfl ?_; clear hE a; intro a hE
  refine vP hS hE (Gives.p hE rfl) rfl ?_; clear hE a; intro a hE
  refine WL.nil ?_
  obtain ⟨q56, hq55, hr⟩ := bindS hr
  refine W.cut (fun a w => (.next ()) = q56 ∧ Rep a 93 [] ∧ St w s (pt b51 (.cells #[.slice a0_0 x0.Trains.length c0_0, .slice a0_1 x0.Turns.length c0_1] 25 (0, 0)) :: R)) ?_ ?_
  ·refine W.block ?_
   refine W.loop (fun m a w => ∃ (rest59 : List ApiTrain) (k57 : Nat), rest59.length = m ∧ x0.Trains.drop k57 = rest59 ∧ Fishref2GuideFault.loop1 x0 rest59 k57 = some q56 ∧ Rep a 93 [(1, .pointer (some ⟨b51, 0, none⟩)), (16, .slice a0_0 x0.Trains.length c0_0), (17, .int .i64 ((x0.Trains).length : Int)), (18, .int .i64 ((k57 : Nat) : Int))] ∧ St w s (pt b51 (.cells #[.slice a0_0 x0.Trains.length c0_0, .slice a0_1 x0.Turns.length c0_1] 25 (0, 0)) :: R)) (m := x0.Trains.length) ⟨x0.Trains, 0, rfl, rfl, hq55, hE.pick _ ⟨rfl, rfl, rfl, rfl, trivial⟩, hS⟩ ?_
   clear hE hS a w hq55; rintro m63 a w ⟨rest59, k57, rfl, hd60, hq55, hE, hS⟩
   refine W.gen fun K66 hK66 => ?_
   rcases rest59 with _ | ⟨x58, rest59⟩
   ·have hlt61 := drop_nil hd60
    refine W.seq (W.region ?_)
    refine vP hS hE (Gives.p hE rfl) rfl ?_; clear hE a; intro a hE
    refine WL.nil ?_
    refine W.seq ?_
    refine W.condF hE rfl (decide_eq_false (by omega)) ?_
    subst hK66
    refine W.exit rfl ?_
    exact ⟨Option.some.inj hq55, hE.pick _ trivial, hS⟩
   ·obtain ⟨hlt61, hx62, hd60⟩ := drop_cons hd60
    rw [Fishref2GuideFault.loop1] at hq55
    refine W.seq (W.region ?_)
    refine vP hS hE (Gives.p hE rfl) rfl ?_; clear hE a; intro a hE
    refine WL.nil ?_
    refine W.seq ?_
    refine W.condT hE rfl (decide_eq_true (by omega)) ?_
    refine W.skip ?_
    refine W.seq ?_
    refine W.block ?_
    refine W.seq (W.region ?_)
    refine vP hS hE (Gives.p hE rfl) rfl ?_; clear hE a; intro a hE
    obtain ⟨cs67, hl68, hR69, hat70⟩ := h0_0.at hx62
    obtain ⟨a71, c72, a74, c75, rfl, h73, h76⟩ := hR69
    refine vP hS hE (Gives.idx hE k57 rfl rfl sl22 rfl hlt61 (h0_0.aok hlt61)) rfl ?_; clear hE a; intro a hE
    refine vP hS hE (Gives.loadA hE rfl (fun w h => hat70 w _ h) ty44) rfl ?_; clear hE a; intro a hE
    refine WL.alloc hE hS (runs_plain rfl) zr44 rfl ?_; clear hE hS a w; intro b77 a w hE hS
    refine vP hS hE (Gives.p hE rfl) rfl ?_; clear hE a; intro a hE
    refine WL.storeI hE hS 0 rfl [.int .i64 x58.No, .int .i64 x58.Stock, .slice a71 x58.Stops.length c72, .slice a74 x58.Legs.length c75] (runs_plain rfl) rfl rfl rfl ty44 rfl rfl rfl rfl ?_; clear hE hS a w; intro a w hE hS
    refine WL.nil ?_
    refine W.seq ?_
    refine W.seq (W.region ?_)
    refine vP hS hE (Gives.fld hE rfl fl44_0) rfl ?_; clear hE a; intro a hE
    refine vP hS hE (Gives.loadB hE 0 rfl rfl rfl ty3) rfl ?_; clear hE a; intro a hE
    refine WL.fnq hE (Fishref2within_ok hS  rfl (r := Fishref2within x58.No 1 9999)) (runs_plain rfl) bd57 rfl rfl rfl ?_
    clear hE hS; rintro e w ⟨rfl, hS⟩; refine ⟨_, rfl, ?_⟩; clear a; intro a hE
    refine vP hS hE (Gives.p hE rfl) rfl ?_; clear hE a; intro a hE
    refine WL.nil ?_
    refine W.cond hE rfl (fun hc78 => ?_) (fun hc78 => ?_)
    ·replace hq55 := iteT hc78 hq55
     refine W.seq (W.region ?_)
     refine vP hS hE (Gives.p hE rfl) rfl ?_; clear hE a; intro a hE
     refine WL.nil ?_
     refine W.ret ?_
     subst hK66
     rw [← Option.some.inj hq55] at hr
     dsimp only at hr
     refine finG (fn := Tryd.f12) (rs := [.tmp 2]) (vs := [_]) hE rfl ⟨rfl, trivial⟩ ?_
     obtain rfl := Option.some.inj hr
     replace hS := hS.tail
     replace hS := hS.tail
     exact ⟨rfl, hS⟩
    ·replace hq55 := iteF hc78 hq55
     refine W.skip ?_
     refine W.seq ?_
     refine W.seq (W.region ?_)
     refine vP hS hE (Gives.fld hE rfl fl25_0) rfl ?_; clear hE a; intro a hE
     refine vP hS hE (Gives.loadB hE 1 rfl rfl rfl ty22) rfl ?_; clear hE a; intro a hE
     refine vP hS hE (Gives.p hE rfl) rfl ?_; clear hE a; intro a hE
     obtain ⟨x79, hx80, hq55⟩ := bindS hq55
     obtain ⟨a81, c82, heq83, h84⟩ := h0_0.cut hx80
     obtain ⟨h85, h86, h87, _⟩ := cutl_some hx80
     refine vP hS hE (Gives.slH hE sl22 rfl rfl (by omega) (by have := h0_0.len; omega) heq83) rfl ?_; clear hE a; intro a hE
     refine vP hS hE (Gives.len hE rfl sl22) rfl ?_; clear hE a; intro a hE
     refine vP hS hE (Gives.p hE rfl) rfl ?_; clear hE a; intro a hE
     refine WL.nil ?_
     obtain ⟨q89, hq88, hq55⟩ := bndS hq55
     refine W.cut (fun a w => (.next ()) = q89 ∧ Rep a 93 [(1, .pointer (some ⟨b51, 0, none⟩)), (5, .pointer (some ⟨b77, 0, none⟩)), (16, .slice a0_0 x0.Trains.length c0_0), (17, .int .i64 ((x0.Trains).length : Int)), (18, .int .i64 ((k57 : Nat) : Int))] ∧ St w s (pt b77 (.cells #[.int .i64 x58.No, .int .i64 x58.Stock, .slice a71 x58.Stops.length c72, .slice a74 x58.Legs.length c75] 44 (0, 0)) :: pt b51 (.cells #[.slice a0_0 x0.Trains.length c0_0, .slice a0_1 x0.Turns.length c0_1] 25 (0, 0)) :: R)) ?_ ?_
     ·refine W.block ?_
      refine W.loop (fun m a w => ∃ (rest92 : List ApiTrain) (k90 : Nat), rest92.length = m ∧ x79.drop k90 = rest92 ∧ Fishref2GuideFault.loop2 x58 rest92 = q89 ∧ Rep a 93 [(1, .pointer (some ⟨b51, 0, none⟩)), (5, .pointer (some ⟨b77, 0, none⟩)), (16, .slice a0_0 x0.Trains.length c0_0), (17, .int .i64 ((x0.Trains).length : Int)), (18, .int .i64 ((k57 : Nat) : Int)), (30, .slice a81 x79.length c82), (31, .int .i64 ((x79).length : Int)), (32, .int .i64 ((k90 : Nat) : Int))] ∧ St w s (pt b77 (.cells #[.int .i64 x58.No, .int .i64 x58.Stock, .slice a71 x58.Stops.length c72, .slice a74 x58.Legs.length c75] 44 (0, 0)) :: pt b51 (.cells #[.slice a0_0 x0.Trains.length c0_0, .slice a0_1 x0.Turns.length c0_1] 25 (0, 0)) :: R)) (m := x79.length) ⟨x79, 0, rfl, rfl, hq88, hE.pick _ ⟨rfl, rfl, rfl, rfl, rfl, rfl, rfl, rfl, trivial⟩, hS⟩ ?_
      clear hE hS a w hq88; rintro m96 a w ⟨rest92, k90, rfl, hd93, hq88, hE, hS⟩
      refine W.gen fun K99 hK99 => ?_
      rcases rest92 with _ | ⟨x91, rest92⟩
      ·have hlt94 := drop_nil hd93
       refine W.seq (W.region ?_)
       refine vP hS hE (Gives.p hE rfl) rfl ?_; clear hE a; intro a hE
       refine WL.nil ?_
       refine W.seq ?_
       refine W.condF hE rfl (decide_eq_false (by omega)) ?_
       subst hK99
       refine W.exit rfl ?_
       exact ⟨hq88, hE.pick _ ⟨rfl, rfl, rfl, rfl, rfl, trivial⟩, hS⟩
      ·obtain ⟨hlt94, hx95, hd93⟩ := drop_cons hd93
       rw [Fishref2GuideFault.loop2] at hq88
       refine W.seq (W.region ?_)
       refine vP hS hE (Gives.p hE rfl) rfl ?_; clear hE a; intro a hE
       refine WL.nil ?_
       refine W.seq ?_
       refine W.condT hE rfl (decide_eq_true (by omega)) ?_
       refine W.skip ?_
       refine W.seq ?_
       refine W.block ?_
       refine W.seq (W.region ?_)
       obtain ⟨cs100, hl101, hR102, hat103⟩ := h84.at hx95
       obtain ⟨a104, c105, a107, c108, rfl, h106, h109⟩ := hR102
       refine vP hS hE (Gives.idx hE k90 rfl rfl sl22 rfl hlt94 (h84.aok hlt94)) rfl ?_; clear hE a; intro a hE
       refine vP hS hE (Gives.loadA hE rfl (fun w h => hat103 w _ h) ty44) rfl ?_; clear hE a; intro a hE
       refine WL.alloc hE hS (runs_plain rfl) zr44 rfl ?_; clear hE hS a w; intro b110 a w hE hS
       refine WL.storeI hE hS 0 rfl [.int .i64 x91.No, .int .i64 x91.Stock, .slice a104 x91.Stops.length c105, .slice a107 x91.Legs.length c108] (runs_plain rfl) rfl rfl rfl ty44 rfl rfl rfl rfl ?_; clear hE hS a w; intro a w hE hS
       refine WL.nil ?_
       refine W.seq (W.region ?_)
       refine vP hS hE (Gives.fld hE rfl fl44_0) rfl ?_; clear hE a; intro a hE
       refine vP hS hE (Gives.loadB hE 0 rfl rfl rfl ty3) rfl ?_; clear hE a; intro a hE
       refine vP hS hE (Gives.fld hE rfl fl44_0) rfl ?_; clear hE a; intro a hE
       refine vP hS hE (Gives.loadB hE 1 rfl rfl rfl ty3) rfl ?_; clear hE a; intro a hE
       refine vP hS hE (Gives.p hE rfl) rfl ?_; clear hE a; intro a hE
       refine WL.nil ?_
       refine W.cond hE rfl (fun hc111 => ?_) (fun hc111 => ?_)
       ·replace hq88 := iteT hc111 hq88
        refine W.seq (W.region ?_)
        refine vP hS hE (Gives.p hE rfl) rfl ?_; clear hE a; intro a hE
        refine WL.nil ?_
        refine W.ret ?_
        subst hK99
        subst hK66
        rw [← hq88] at hq55
        dsimp only at hq55
        rw [← Option.some.inj hq55] at hr
        dsimp only at hr
        refine finG (fn := Tryd.f12) (rs := [.tmp 2]) (vs := [_]) hE rfl ⟨rfl, trivial⟩ ?_
        obtain rfl := Option.some.inj hr
        replace hS := hS.tail
        replace hS := hS.tail
        replace hS := hS.tail
        exact ⟨rfl, hS⟩
       ·replace hq88 := iteF hc111 hq88
        refine W.skip ?_
        refine W.region ?_
        refine vP hS hE (Gives.inc hE rfl (by have := h84.small; omega)) rfl ?_; clear hE a; intro a hE
        refine vP hS hE (Gives.p hE rfl) rfl ?_; clear hE a; intro a hE
        refine WL.nil ?_
        replace hS := hS.tail
        subst hK99
        exact ⟨rest92.length, Nat.lt_succ_self _, rest92, k90 + 1, rfl, hd93, hq88, hE.pick _ ⟨rfl, rfl, rfl, rfl, rfl, rfl, rfl, rfl, trivial⟩, hS⟩
     ·clear hE hS a w; rintro a w ⟨rfl, hE, hS⟩
      dsimp only at hq55
      refine W.seq ?_
      refine W.seq (W.region ?_)
      refine vP hS hE (Gives.fld hE rfl fl44_2) rfl ?_; clear hE a; intro a hE
      refine vP hS hE (Gives.loadB hE 0 rfl rfl rfl ty42) rfl ?_; clear hE a; intro a hE
      refine vP hS hE (Gives.len hE rfl sl42) rfl ?_; clear hE a; intro a hE
      refine vP hS hE (Gives.p hE rfl) rfl ?_; clear hE a; intro a hE
      refine WL.nil ?_
      refine W.cond hE rfl (fun hc112 => ?_) (fun hc112 => ?_)
      ·replace hq55 := iteT hc112 hq55
       refine W.seq (W.region ?_)
       refine vP hS hE (Gives.p hE rfl) rfl ?_; clear hE a; intro a hE
       refine WL.nil ?_
       refine W.ret ?_
       subst hK66
       rw [← Option.some.inj hq55] at hr
       dsimp only at hr
       refine finG (fn := Tryd.f12) (rs := [.tmp 2]) (vs := [_]) hE rfl ⟨rfl, trivial⟩ ?_
       obtain rfl := Option.some.inj hr
       replace hS := hS.tail
       replace hS := hS.tail
       exact ⟨rfl, hS⟩
      ·replace hq55 := iteF hc112 hq55
       refine W.skip ?_
       refine W.seq (W.region ?_)
       refine vP hS hE (Gives.fld hE rfl fl44_2) rfl ?_; clear hE a; intro a hE
       refine vP hS hE (Gives.loadB hE 0 rfl rfl rfl ty42) rfl ?_; clear hE a; intro a hE
       refine vP hS hE (Gives.len hE rfl sl42) rfl ?_; clear hE a; intro a hE
       refine vP hS hE (Gives.p hE rfl) rfl ?_; clear hE a; intro a hE
       refine WL.nil ?_
       obtain ⟨q114, hq113, hq55⟩ := bindS hq55
       refine W.cut (fun a w => (.next ()) = q114 ∧ Rep a 93 [(1, .pointer (some ⟨b51, 0, none⟩)), (16, .slice a0_0 x0.Trains.length c0_0), (17, .int .i64 ((x0.Trains).length : Int)), (18, .int .i64 ((k57 : Nat) : Int))] ∧ St w s (pt b77 (.cells #[.int .i64 x58.No, .int .i64 x58.Stock, .slice a71 x58.Stops.length c72, .slice a74 x58.Legs.length c75] 44 (0, 0)) :: pt b51 (.cells #[.slice a0_0 x0.Trains.length c0_0, .slice a0_1 x0.Turns.length c0_1] 25 (0, 0)) :: R)) ?_ ?_
       ·refine W.block ?_
        refine W.loop (fun m a w => ∃ (rest117 : List ApiStop) (k115 : Nat), rest117.length = m ∧ x58.Stops.drop k115 = rest117 ∧ Fishref2GuideFault.loop3 x58 rest117 k115 = some q114 ∧ Rep a 93 [(1, .pointer (some ⟨b51, 0, none⟩)), (5, .pointer (some ⟨b77, 0, none⟩)), (16, .slice a0_0 x0.Trains.length c0_0), (17, .int .i64 ((x0.Trains).length : Int)), (18, .int .i64 ((k57 : Nat) : Int)), (47, .slice a71 x58.Stops.length c72), (48, .int .i64 ((x58.Stops).length : Int)), (49, .int .i64 ((k115 : Nat) : Int))] ∧ St w s (pt b77 (.cells #[.int .i64 x58.No, .int .i64 x58.Stock, .slice a71 x58.Stops.length c72, .slice a74 x58.Legs.length c75] 44 (0, 0)) :: pt b51 (.cells #[.slice a0_0 x0.Trains.length c0_0, .slice a0_1 x0.Turns.length c0_1] 25 (0, 0)) :: R)) (m := x58.Stops.length) ⟨x58.Stops, 0, rfl, rfl, hq113, hE.pick _ ⟨rfl, rfl, rfl, rfl, rfl, rfl, rfl, rfl, trivial⟩, hS⟩ ?_
        clear hE hS a w hq113; rintro m121 a w ⟨rest117, k115, rfl, hd118, hq113, hE, hS⟩
        refine W.gen fun K124 hK124 => ?_
        rcases rest117 with _ | ⟨x116, rest117⟩
        ·have hlt119 := drop_nil hd118
         refine W.seq (W.region ?_)
         refine vP hS hE (Gives.p hE rfl) rfl ?_; clear hE a; intro a hE
         refine WL.nil ?_
         refine W.seq ?_
         refine W.condF hE rfl (decide_eq_false (by omega)) ?_
         subst hK124
         refine W.exit rfl ?_
         exact ⟨Option.some.inj hq113, hE.pick _ ⟨rfl, rfl, rfl, rfl, trivial⟩, hS⟩
        ·obtain ⟨hlt119, hx120, hd118⟩ := drop_cons hd118
         rw [Fishref2GuideFault.loop3] at hq113
         refine W.seq (W.region ?_)
         refine vP hS hE (Gives.p hE rfl) rfl ?_; clear hE a; intro a hE
         refine WL.nil ?_
         refine W.seq ?_
         refine W.condT hE rfl (decide_eq_true (by omega)) ?_
         refine W.skip ?_
         refine W.seq ?_
         refine W.block ?_
         refine W.seq (W.region ?_)
         refine vP hS hE (Gives.p hE rfl) rfl ?_; clear hE a; intro a hE
         obtain ⟨cs125, hl126, hR127, hat128⟩ := h73.at hx120
         subst hR127
         refine vP hS hE (Gives.idx hE k115 rfl rfl sl42 rfl hlt119 (h73.aok hlt119)) rfl ?_; clear hE a; intro a hE
         refine vP hS hE (Gives.loadA hE rfl (fun w h => hat128 w _ h) ty106) rfl ?_; clear hE a; intro a hE
         refine WL.alloc hE hS (runs_plain rfl) zr106 rfl ?_; clear hE hS a w; intro b129 a w hE hS
         refine vP hS hE (Gives.p hE rfl) rfl ?_; clear hE a; intro a hE
         refine WL.storeI hE hS 0 rfl (ApiStop.cells x116) (runs_plain rfl) rfl rfl rfl ty106 rfl rfl rfl rfl ?_; clear hE hS a w; intro a w hE hS
         refine WL.nil ?_
         refine W.seq ?_
         refine W.seq ?_
         obtain ⟨q131, hq130, hq113⟩ := bndS hq113
         refine W.cut (fun a w => ∃ (q134 : Bool), q134 = q131 ∧ Rep a 93 [(1, .pointer (some ⟨b51, 0, none⟩)), (5, .pointer (some ⟨b77, 0, none⟩)), (8, .int .i64 ((k115 : Nat) : Int)), (9, .pointer (some ⟨b129, 0, none⟩)), (16, .slice a0_0 x0.Trains.length c0_0), (17, .int .i64 ((x0.Trains).length : Int)), (18, .int .i64 ((k57 : Nat) : Int)), (47, .slice a71 x58.Stops.length c72), (48, .int .i64 ((x58.Stops).length : Int)), (49, .int .i64 ((k115 : Nat) : Int)), (69, .bool q134)] ∧ St w s (pt b129 (.cells (ApiStop.cells x116).toArray 106 (0, 0)) :: pt b77 (.cells #[.int .i64 x58.No, .int .i64 x58.Stock, .slice a71 x58.Stops.length c72, .slice a74 x58.Legs.length c75] 44 (0, 0)) :: pt b51 (.cells #[.slice a0_0 x0.Trains.length c0_0, .slice a0_1 x0.Turns.length c0_1] 25 (0, 0)) :: R)) ?_ ?_
         ·refine W.gen fun K135 hK135 => ?_
          refine W.region ?_
          refine vP hS hE (Gives.fld hE rfl fl106_0) rfl ?_; clear hE a; intro a hE
          refine vP hS hE (Gives.loadB hE 0 rfl rfl rfl ty3) rfl ?_; clear hE a; intro a hE
          refine WL.fnq hE (Fishref2within_ok hS  rfl (r := Fishref2within x116.Station 0 11)) (runs_plain rfl) bd57 rfl rfl rfl ?_
          clear hE hS; rintro e w ⟨rfl, hS⟩; refine ⟨_, rfl, ?_⟩; clear a; intro a hE
          refine vP hS hE (Gives.p hE rfl) rfl ?_; clear hE a; intro a hE
          refine vP hS hE (Gives.p hE rfl) rfl ?_; clear hE a; intro a hE
          rcases Bool.eq_false_or_eq_true (!(Fishref2within x116.Station 0 11)) with hg136 | hg136
          ·replace hq130 := iteT hg136 hq130
           refine WL.no hE (runs_not hE rfl rfl rfl (by rw [hg136]; decide)) rfl ?_; clear hE a; intro a hE
           refine WL.no hE (runs_not hE rfl rfl rfl (by rw [hg136]; decide)) rfl ?_; clear hE a; intro a hE
           refine WL.no hE (runs_not hE rfl rfl rfl (by rw [hg136]; decide)) rfl ?_; clear hE a; intro a hE
           refine WL.no hE (runs_not hE rfl rfl rfl (by rw [hg136]; decide)) rfl ?_; clear hE a; intro a hE
           refine vP hS hE (Gives.pickT hE rfl hg136 rfl) rfl ?_; clear hE a; intro a hE
           refine vP hS hE (Gives.p hE rfl) rfl ?_; clear hE a; intro a hE
           refine WL.no hE (runs_not hE rfl rfl rfl (by decide)) rfl ?_; clear hE a; intro a hE
           refine WL.no hE (runs_not hE rfl rfl rfl (by decide)) rfl ?_; clear hE a; intro a hE
           refine WL.no hE (runs_not hE rfl rfl rfl (by decide)) rfl ?_; clear hE a; intro a hE
           refine WL.no hE (runs_not hE rfl rfl rfl (by decide)) rfl ?_; clear hE a; intro a hE
           refine vP hS hE (Gives.pickT hE rfl rfl rfl) rfl ?_; clear hE a; intro a hE
           refine WL.nil ?_
           subst hK135
           exact ⟨true, hq130, hE.pick _ ⟨rfl, rfl, rfl, rfl, rfl, rfl, rfl, rfl, rfl, rfl, rfl, trivial⟩, hS⟩
          ·replace hq130 := iteF hg136 hq130
           refine WL.vS hS hE (runs_if hE rfl rfl rfl hg136) (Gives.fld hE rfl fl106_2) rfl ?_; clear hE a; intro a hE
           refine WL.vS hS hE (runs_if hE rfl rfl rfl hg136) (Gives.loadB hE 0 rfl rfl rfl ty3) rfl ?_; clear hE a; intro a hE
           refine WL.fnq hE (Fishref2within_ok hS  rfl (r := Fishref2within x116.Arr 0 28800)) (runs_if hE rfl rfl rfl hg136) bd57 rfl rfl rfl ?_
           clear hE hS; rintro e w ⟨rfl, hS⟩; refine ⟨_, rfl, ?_⟩; clear a; intro a hE
           refine WL.vS hS hE (runs_if hE rfl rfl rfl hg136) (Gives.p hE rfl) rfl ?_; clear hE a; intro a hE
           refine vP hS hE (Gives.pickF hE rfl hg136 rfl) rfl ?_; clear hE a; intro a hE
           refine vP hS hE (Gives.p hE rfl) rfl ?_; clear hE a; intro a hE
           rcases Bool.eq_false_or_eq_true (!(Fishref2within x116.Arr 0 28800)) with hg137 | hg137
           ·replace hq130 := iteT hg137 hq130
            refine WL.no hE (runs_not hE rfl rfl rfl (by rw [hg137]; decide)) rfl ?_; clear hE a; intro a hE
            refine WL.no hE (runs_not hE rfl rfl rfl (by rw [hg137]; decide)) rfl ?_; clear hE a; intro a hE
            refine WL.no hE (runs_not hE rfl rfl rfl (by rw [hg137]; decide)) rfl ?_; clear hE a; intro a hE
            refine WL.no hE (runs_not hE rfl rfl rfl (by rw [hg137]; decide)) rfl ?_; clear hE a; intro a hE
            refine vP hS hE (Gives.pickT hE rfl hg137 rfl) rfl ?_; clear hE a; intro a hE
            refine WL.nil ?_
            subst hK135
            exact ⟨true, hq130, hE.pick _ ⟨rfl, rfl, rfl, rfl, rfl, rfl, rfl, rfl, rfl, rfl, rfl, trivial⟩, hS⟩
           ·replace hq130 := iteF hg137 hq130
            refine WL.vS hS hE (runs_if hE rfl rfl rfl hg137) (Gives.fld hE rfl fl106_3) rfl ?_; clear hE a; intro a hE
            refine WL.vS hS hE (runs_if hE rfl rfl rfl hg137) (Gives.loadB hE 0 rfl rfl rfl ty3) rfl ?_; clear hE a; intro a hE
            refine WL.fnq hE (Fishref2within_ok hS  rfl (r := Fishref2within x116.Dep 0 28800)) (runs_if hE rfl rfl rfl hg137) bd57 rfl rfl rfl ?_
            clear hE hS; rintro e w ⟨rfl, hS⟩; refine ⟨_, rfl, ?_⟩; clear a; intro a hE
            refine WL.vS hS hE (runs_if hE rfl rfl rfl hg137) (Gives.p hE rfl) rfl ?_; clear hE a; intro a hE
            refine vP hS hE (Gives.pickF hE rfl hg137 rfl) rfl ?_; clear hE a; intro a hE
            refine WL.nil ?_
            subst hK135
            exact ⟨!(Fishref2within x116.Dep 0 28800), hq130, hE.pick _ ⟨rfl, rfl, rfl, rfl, rfl, rfl, rfl, rfl, rfl, rfl, rfl, trivial⟩, hS⟩
         ·clear hE hS a w; rintro a w ⟨q134, rfl, hE, hS⟩
          refine W.cond hE rfl (fun hc138 => ?_) (fun hc138 => ?_)
          ·replace hq113 := iteT hc138 hq113
           refine W.seq (W.region ?_)
           refine vP hS hE (Gives.p hE rfl) rfl ?_; clear hE a; intro a hE
           refine WL.nil ?_
           refine W.ret ?_
           subst hK124
           subst hK66
           rw [← Option.some.inj hq113] at hq55
           dsimp only at hq55
           rw [← Option.some.inj hq55] at hr
           dsimp only at hr
           refine finG (fn := Tryd.f12) (rs := [.tmp 2]) (vs := [_]) hE rfl ⟨rfl, trivial⟩ ?_
           obtain rfl := Option.some.inj hr
           replace hS := hS.tail
           replace hS := hS.tail
           replace hS := hS.tail
           exact ⟨rfl, hS⟩
          ·replace hq113 := iteF hc138 hq113
           refine W.skip ?_
           refine W.seq ?_
           obtain ⟨q140, hq139, hq113⟩ := bindS hq113
           refine W.cut (fun a w => ∃ (q143 : Bool), q143 = q140 ∧ Rep a 93 [(1, .pointer (some ⟨b51, 0, none⟩)), (5, .pointer (some ⟨b77, 0, none⟩)), (16, .slice a0_0 x0.Trains.length c0_0), (17, .int .i64 ((x0.Trains).length : Int)), (18, .int .i64 ((k57 : Nat) : Int)), (47, .slice a71 x58.Stops.length c72), (48, .int .i64 ((x58.Stops).length : Int)), (49, .int .i64 ((k115 : Nat) : Int)), (90, .bool q143)] ∧ St w s (pt b129 (.cells (ApiStop.cells x116).toArray 106 (0, 0)) :: pt b77 (.cells #[.int .i64 x58.No, .int .i64 x58.Stock, .slice a71 x58.Stops.length c72, .slice a74 x58.Legs.length c75] 44 (0, 0)) :: pt b51 (.cells #[.slice a0_0 x0.Trains.length c0_0, .slice a0_1 x0.Turns.length c0_1] 25 (0, 0)) :: R)) ?_ ?_
           ·refine W.gen fun K144 hK144 => ?_
            refine W.regionQ (C := fun w => St w s (pt b129 (.cells (ApiStop.cells x116).toArray 106 (0, 0)) :: pt b77 (.cells #[.int .i64 x58.No, .int .i64 x58.Stock, .slice a71 x58.Stops.length c72, .slice a74 x58.Legs.length c75] 44 (0, 0)) :: pt b51 (.cells #[.slice a0_0 x0.Trains.length c0_0, .slice a0_1 x0.Turns.length c0_1] 25 (0, 0)) :: R)) mixed (by kernel_rfl) hS.drew ?_
            refine qP hE (Gives.fld hE rfl fl106_3) rfl ?_; clear hE a; intro a hE
            refine qP hE (Gives.loadB hE 0 rfl rfl rfl ty3) rfl ?_; clear hE a; intro a hE
            refine qP hE (Gives.fld hE rfl fl106_2) rfl ?_; clear hE a; intro a hE
            refine qP hE (Gives.loadB hE 0 rfl rfl rfl ty3) rfl ?_; clear hE a; intro a hE
            refine qP hE (Gives.p hE rfl) rfl ?_; clear hE a; intro a hE
            refine qP hE (Gives.p hE rfl) rfl ?_; clear hE a; intro a hE
            rcases Bool.eq_false_or_eq_true (decide (x116.Dep < x116.Arr)) with hg145 | hg145
            ·replace hq139 := iteT hg145 hq139
             refine QL.no hE (runs_not hE rfl rfl rfl (by rw [hg145]; decide)) rfl ?_; clear hE a; intro a hE
             refine QL.no hE (runs_not hE rfl rfl rfl (by rw [hg145]; decide)) rfl ?_; clear hE a; intro a hE
             refine QL.no hE (runs_not hE rfl rfl rfl (by rw [hg145]; decide)) rfl ?_; clear hE a; intro a hE
             refine QL.no hE (runs_undef hE rfl rfl rfl) rfl ?_; clear hE a; intro a hE
             refine QL.no hE (runs_undef hE rfl rfl rfl) rfl ?_; clear hE a; intro a hE
             refine QL.no hE (runs_undef hE rfl rfl rfl) rfl ?_; clear hE a; intro a hE
             refine QL.no hE (runs_undef hE rfl rfl rfl) rfl ?_; clear hE a; intro a hE
             refine QL.no hE (runs_undef hE rfl rfl rfl) rfl ?_; clear hE a; intro a hE
             refine QL.no hE (runs_undef hE rfl rfl rfl) rfl ?_; clear hE a; intro a hE
             refine QL.no hE (runs_undef hE rfl rfl rfl) rfl ?_; clear hE a; intro a hE
             refine QL.no hE (runs_undef hE rfl rfl rfl) rfl ?_; clear hE a; intro a hE
             refine QL.no hE (runs_undef hE rfl rfl rfl) rfl ?_; clear hE a; intro a hE
             refine QL.no hE (runs_undef hE rfl rfl rfl) rfl ?_; clear hE a; intro a hE
             refine QL.no hE (runs_not hE rfl rfl rfl (by rw [hg145]; decide)) rfl ?_; clear hE a; intro a hE
             refine qP hE (Gives.pickT hE rfl hg145 rfl) rfl ?_; clear hE a; intro a hE
             refine QL.nil ?_; clear hS w; intro w hS
             subst hK144
             exact ⟨true, Option.some.inj hq139, hE.pick _ ⟨rfl, rfl, rfl, rfl, rfl, rfl, rfl, rfl, rfl, trivial⟩, hS⟩
            ·replace hq139 := iteF hg145 hq139
             refine QL.v hE (runs_if hE rfl rfl rfl hg145) (Gives.p hE rfl) rfl ?_; clear hE a; intro a hE
             refine QL.v hE (runs_if hE rfl rfl rfl hg145) (Gives.p hE rfl) rfl ?_; clear hE a; intro a hE
             refine QL.v hE (runs_if hE rfl rfl rfl hg145) (Gives.p hE rfl) rfl ?_; clear hE a; intro a hE
             rcases Bool.eq_false_or_eq_true (decide (((k115 : Nat) : Int) > 0)) with hg146 | hg146
             ·replace hq139 := iteT hg146 hq139
              refine QL.v hE (runs_if hE rfl rfl rfl hg146) (Gives.fld hE rfl fl106_2) rfl ?_; clear hE a; intro a hE
              refine QL.v hE (runs_if hE rfl rfl rfl hg146) (Gives.loadB hE 0 rfl rfl rfl ty3) rfl ?_; clear hE a; intro a hE
              refine QL.v hE (runs_if hE rfl rfl rfl hg146) (Gives.fld hE rfl fl44_2) rfl ?_; clear hE a; intro a hE
              refine QL.v hE (runs_if hE rfl rfl rfl hg146) (Gives.loadB hE 1 rfl rfl rfl ty42) rfl ?_; clear hE a; intro a hE
              refine QL.v hE (runs_if hE rfl rfl rfl hg146) (Gives.p hE rfl) rfl ?_; clear hE a; intro a hE
              refine QL.v hE (runs_if hE rfl rfl rfl hg146) (Gives.p hE rfl) rfl ?_; clear hE a; intro a hE
              obtain ⟨x147, hx148, hq139⟩ := bindS hq139
              obtain ⟨hi149, hlt150, hy151⟩ := gx_some hx148
              obtain ⟨cs152, hl153, hR154, hat155⟩ := h73.at hy151
              subst hR154
              refine QL.v hE (runs_if hE rfl rfl rfl hg146) (Gives.idx hE (w64 (((k115 : Nat) : Int) - 1)).toNat rfl rfl sl42 hi149 hlt150 (h73.aok hlt150)) rfl ?_; clear hE a; intro a hE
              refine QL.v hE (runs_if hE rfl rfl rfl hg146) (Gives.fld hE rfl fl106_3) rfl ?_; clear hE a; intro a hE
              refine QL.v hE (runs_if hE rfl rfl rfl hg146) (Gives.load1 hE rfl (fun w h => (hat155 w _ h).one rfl) ty3) rfl ?_; clear hE a; intro a hE
              refine QL.v hE (runs_if hE rfl rfl rfl hg146) (Gives.p hE rfl) rfl ?_; clear hE a; intro a hE
              refine QL.v hE (runs_if hE rfl rfl rfl hg145) (Gives.pickT hE rfl hg146 rfl) rfl ?_; clear hE a; intro a hE
              refine qP hE (Gives.pickF hE rfl hg145 rfl) rfl ?_; clear hE a; intro a hE
              refine QL.nil ?_; clear hS w; intro w hS
              subst hK144
              exact ⟨decide (x116.Arr ≤ x147.Dep), Option.some.inj hq139, hE.pick _ ⟨rfl, rfl, rfl, rfl, rfl, rfl, rfl, rfl, rfl, trivial⟩, hS⟩
             ·replace hq139 := iteF hg146 hq139
              refine QL.no hE (runs_not hE rfl rfl rfl (by rw [hg146]; decide)) rfl ?_; clear hE a; intro a hE
              refine QL.no hE (runs_not hE rfl rfl rfl (by rw [hg146]; decide)) rfl ?_; clear hE a; intro a hE
              refine QL.no hE (runs_not hE rfl rfl rfl (by rw [hg146]; decide)) rfl ?_; clear hE a; intro a hE
              refine QL.no hE (runs_not hE rfl rfl rfl (by rw [hg146]; decide)) rfl ?_; clear hE a; intro a hE
              refine QL.no hE (runs_not hE rfl rfl rfl (by rw [hg146]; decide)) rfl ?_; clear hE a; intro a hE
              refine QL.no hE (runs_not hE rfl rfl rfl (by rw [hg146]; decide)) rfl ?_; clear hE a; intro a hE
              refine QL.no hE (runs_not hE rfl rfl rfl (by rw [hg146]; decide)) rfl ?_; clear hE a; intro a hE
              refine QL.no hE (runs_not hE rfl rfl rfl (by rw [hg146]; decide)) rfl ?_; clear hE a; intro a hE
              refine QL.no hE (runs_not hE rfl rfl rfl (by rw [hg146]; decide)) rfl ?_; clear hE a; intro a hE
              refine QL.no hE (runs_not hE rfl rfl rfl (by rw [hg146]; decide)) rfl ?_; clear hE a; intro a hE
              refine QL.v hE (runs_if hE rfl rfl rfl hg145) (Gives.pickF hE rfl hg146 rfl) rfl ?_; clear hE a; intro a hE
              refine qP hE (Gives.pickF hE rfl hg145 rfl) rfl ?_; clear hE a; intro a hE
              refine QL.nil ?_; clear hS w; intro w hS
              subst hK144
              exact ⟨false, Option.some.inj hq139, hE.pick _ ⟨rfl, rfl, rfl, rfl, rfl, rfl, rfl, rfl, rfl, trivial⟩, hS⟩
           ·clear hE hS a w; rintro a w ⟨q143, rfl, hE, hS⟩
            refine W.cond hE rfl (fun hc156 => ?_) (fun hc156 => ?_)
            ·replace hq113 := iteT hc156 hq113
             refine W.seq (W.region ?_)
             refine vP hS hE (Gives.p hE rfl) rfl ?_; clear hE a; intro a hE
             refine WL.nil ?_
             refine W.ret ?_
             subst hK124
             subst hK66
             rw [← Option.some.inj hq113] at hq55
             dsimp only at hq55
             rw [← Option.some.inj hq55] at hr
             dsimp only at hr
             refine finG (fn := Tryd.f12) (rs := [.tmp 2]) (vs := [_]) hE rfl ⟨rfl, trivial⟩ ?_
             obtain rfl := Option.some.inj hr
             replace hS := hS.tail
             replace hS := hS.tail
             replace hS := hS.tail
             exact ⟨rfl, hS⟩
            ·replace hq113 := iteF hc156 hq113
             refine W.skip ?_
             refine W.region ?_
             refine vP hS hE (Gives.inc hE rfl (by have := h73.small; omega)) rfl ?_; clear hE a; intro a hE
             refine vP hS hE (Gives.p hE rfl) rfl ?_; clear hE a; intro a hE
             refine WL.nil ?_
             replace hS := hS.tail
             subst hK124
             exact ⟨rest117.length, Nat.lt_succ_self _, rest117, k115 + 1, rfl, hd118, hq113, hE.pick _ ⟨rfl, rfl, rfl, rfl, rfl, rfl, rfl, rfl, trivial⟩, hS⟩
       ·clear hE hS a w; rintro a w ⟨rfl, hE, hS⟩
        dsimp only at hq55
        refine W.region ?_
        refine vP hS hE (Gives.inc hE rfl (by have := h0_0.small; omega)) rfl ?_; clear hE a; intro a hE
        refine vP hS hE (Gives.p hE rfl) rfl ?_; clear hE a; intro a hE
        refine WL.nil ?_
        replace hS := hS.tail
        subst hK66
        exact ⟨rest59.length, Nat.lt_succ_self _, rest59, k57 + 1, rfl, hd60, hq55, hE.pick _ ⟨rfl, rfl, rfl, rfl, trivial⟩, hS⟩
  ·clear hE hS a w; rintro a w ⟨rfl, hE, hS⟩
   dsimp only at hr
   refine W.seq (W.region ?_)
   refine vP hS hE (Gives.p hE rfl) rfl ?_; clear hE a; intro a hE
   refine WL.nil ?_
   refine W.ret ?_
   refine finG (fn := Tryd.f12) (rs := [.tmp 2]) (vs := [_]) hE rfl ⟨rfl, trivial⟩ ?_
   obtain rfl := Option.some.inj hr
   replace hS := hS.tail
   exact ⟨rfl, hS⟩
end Go.Proofs.YtpcebngchmgckaaDoor
