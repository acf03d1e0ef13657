/- The walks of the functions that GuideReaches reaches: each call comes to what its mirror says. The conditions are those of each contract. -/
import Derived.Test.YtpcebngchmgckaaDoorProg
import Derived.Test.YtpcebngchmgckaaDoorGuideReachesM
import Derived.Test.YtpcebngchmgckaaDoorFpAllT
import Derived.Test.YtpcebngchmgckaaDoorGuideReachesS
import Derived.Test.YtpcebngchmgckaaDoorFpMapS
import Derived.Test.YtpcebngchmgckaaDoorFpFld
import Derived.Test.YtpcebngchmgckaaDoorFpMapG
import Derived.Test.YtpcebngchmgckaaDoorFpMapV
import Derived.Test.YtpcebngchmgckaaDoorFpMaps
import Derived.Test.YtpcebngchmgckaaDoorFpOrd
import Derived.Test.YtpcebngchmgckaaDoorFpRf
import Derived.Test.YtpcebngchmgckaaDoorFpRng
import Derived.Test.YtpcebngchmgckaaDoorGuideReachesW3
set_option maxRecDepth 10000
namespace Go.Proofs.YtpcebngchmgckaaDoor
open Go Go.Fp
set_option maxHeartbeats 8000000 in
theorem Fishref2AllOf_1_v1_ok : ∀ {fu : Nat} {w : World} {s : Sg} {R : List HP} {pb0 : Nat} {pb1 : Nat} {pb2 : Nat} {pb3 : Nat} {pb4 : Nat} {pb5 : Nat} {x0 : List GuideRide} {a0 : Option Addr} {c0 : Nat} {y0 : ApiDay} {a_y0_0 : Option Addr} {c_y0_0 : Nat} {a_y0_1 : Option Addr} {c_y0_1 : Nat} {y1 : Int} {y2 : List GuideJourney} {a_v0 : Option Addr} {c_v0 n_v0 : Nat} {cs_v0 : List Value} {y3 : Int} {y4 : Int} (_hS : St w s (pt pb0 (.cells #[.slice a_y0_0 y0.Trains.length c_y0_0, .slice a_y0_1 y0.Turns.length c_y0_1] 25 (0, 0)) :: pt pb1 (.cells #[.int .i64 y1] 3 (0, 0)) :: pt pb2 (.cells #[.slice a_v0 n_v0 c_v0] 39 (0, 0)) :: pt pb3 (.cells #[.int .i64 y3] 3 (0, 0)) :: pt pb4 (.cells #[.int .i64 y4] 3 (0, 0)) :: pt pb5 (.cells #[.func (.func 83) #[] #[.pointer (some ⟨pb0, 0, none⟩), .pointer (some ⟨pb1, 0, none⟩), .pointer (some ⟨pb2, 0, none⟩), .pointer (some ⟨pb3, 0, none⟩), .pointer (some ⟨pb4, 0, none⟩), .pointer (some ⟨pb5, 0, none⟩)]] 137 (0, 0)) :: vecC 28 1 a_v0 c_v0 n_v0 cs_v0 :: R)) (_h0 : Sl 3 RGuideRide s a0 c0 x0) (_h_y0_0 : Sl 4 RApiTrain s a_y0_0 c_y0_0 y0.Trains) (_h_y0_1 : Sl 1 (RL 1 (RI .i64)) s a_y0_1 c_y0_1 y0.Turns) (_h_v0 : Ev 1 RGuideJourney s cs_v0 y2) (_hn_v0 : y2.length = n_v0) {r : (List GuideJourney)} (_hr : Fishref2AllOf_1_v1 fu x0 y0 y1 y2 y3 y4 = some r),
  Calls Tryd.prog 83 [.slice a0 x0.length c0, .pointer (some ⟨pb0, 0, none⟩), .pointer (some ⟨pb1, 0, none⟩), .pointer (some ⟨pb2, 0, none⟩), .pointer (some ⟨pb3, 0, none⟩), .pointer (some ⟨pb4, 0, none⟩), .pointer (some ⟨pb5, 0, none⟩)].toArray w (fun e w => ∃ (a59 : Option Addr) (c60 : Nat) (n62 : Nat) (cs63 : List Value) (t : Sg), e = .returned (.tuple #[]) ∧ s.Le t ∧ Ev 1 RGuideJourney t cs63 r ∧ r.length = n62 ∧ St w t (pt pb0 (.cells #[.slice a_y0_0 y0.Trains.length c_y0_0, .slice a_y0_1 y0.Turns.length c_y0_1] 25 (0, 0)) :: pt pb1 (.cells #[.int .i64 y1] 3 (0, 0)) :: pt pb2 (.cells #[.slice a59 n62 c60] 39 (0, 0)) :: pt pb3 (.cells #[.int .i64 y3] 3 (0, 0)) :: pt pb4 (.cells #[.int .i64 y4] 3 (0, 0)) :: pt pb5 (.cells #[.func (.func 83) #[] #[.pointer (some ⟨pb0, 0, none⟩), .pointer (some ⟨pb1, 0, none⟩), .pointer (some ⟨pb2, 0, none⟩), .pointer (some ⟨pb3, 0, none⟩), .pointer (some ⟨pb4, 0, none⟩), .pointer (some ⟨pb5, 0, none⟩)]] 137 (0, 0)) :: vecC 28 1 a59 c60 n62 cs63 :: R)) := by
 intro fu
 induction fu with
 | zero => intro w s R pb0 pb1 pb2 pb3 pb4 pb5 x0 a0 c0 y0 a_y0_0 c_y0_0 a_y0_1 c_y0_1 y1 y2 a_v0 c_v0 n_v0 cs_v0 y3 y4 hS h0 h_y0_0 h_y0_1 h_v0 hn_v0 r hr; rw [Fishref2AllOf_1_v1] at hr; exact absurd hr (by simp)
 | succ fu ih_Fishref2AllOf_1_v1 =>
  intro w s R pb0 pb1 pb2 pb3 pb4 pb5 x0 a0 c0 y0 a_y0_0 c_y0_0 a_y0_1 c_y0_1 y1 y2 a_v0 c_v0 n_v0 cs_v0 y3 y4 hS h0 h_y0_0 h_y0_1 h_v0 hn_v0 r hr
  rw [Fishref2AllOf_1_v1] at hr
  generalize Fishref2AllOf_1_v1 fu = self_Fishref2AllOf_1_v1 at hr ih_Fishref2AllOf_1_v1
  refine enter Tryd.func83 rfl rfl rfl fun a hE => ?_
  subst hn_v0
  refine W.seq ?_
  refine W.seq (W.region ?_)
  refine vP hS hE (Gives.p hE rfl) rfl ?_; clear hE a; intro a hE
  refine vP hS hE (Gives.len hE rfl sl26) rfl ?_; clear hE a; intro a hE
  refine vP hS hE (Gives.p hE rfl) rfl ?_; clear hE a; intro a hE
  refine WL.nil ?_
  obtain ⟨q66, hq65, hr⟩ := bindS hr
  refine W.cut (fun a w => ∃ (q69 : List GuideJourney), ∃ (a70 : Option Addr), ∃ (c71 : Nat), ∃ (n73 : Nat), ∃ (cs74 : List Value), ∃ (s67 : Sg), s.Le s67 ∧ q69 = q66 ∧ Ev 1 RGuideJourney s67 cs74 q69 ∧ q69.length = n73 ∧ Rep a 116 [(0, .slice a0 x0.length c0), (1, .pointer (some ⟨pb0, 0, none⟩)), (4, .pointer (some ⟨pb3, 0, none⟩)), (5, .pointer (some ⟨pb4, 0, none⟩)), (6, .pointer (some ⟨pb5, 0, none⟩))] ∧ St w s67 (pt pb0 (.cells #[.slice a_y0_0 y0.Trains.length c_y0_0, .slice a_y0_1 y0.Turns.length c_y0_1] 25 (0, 0)) :: pt pb1 (.cells #[.int .i64 y1] 3 (0, 0)) :: pt pb2 (.cells #[.slice a70 n73 c71] 39 (0, 0)) :: pt pb3 (.cells #[.int .i64 y3] 3 (0, 0)) :: pt pb4 (.cells #[.int .i64 y4] 3 (0, 0)) :: pt pb5 (.cells #[.func (.func 83) #[] #[.pointer (some ⟨pb0, 0, none⟩), .pointer (some ⟨pb1, 0, none⟩), .pointer (some ⟨pb2, 0, none⟩), .pointer (some ⟨pb3, 0, none⟩), .pointer (some ⟨pb4, 0, none⟩), .pointer (some ⟨pb5, 0, none⟩)]] 137 (0, 0)) :: vecC 28 1 a70 c71 n73 cs74 :: R)) ?_ ?_
  ·refine W.gen fun K76 hK76 => ?_
   refine W.cond hE rfl (fun hc77 => ?_) (fun hc77 => ?_)
   ·replace hq65 := iteT hc77 hq65
    refine W.seq (W.region ?_)
    refine vP hS hE (Gives.p hE rfl) rfl ?_; clear hE a; intro a hE
    refine vP hS hE (Gives.p hE rfl) rfl ?_; clear hE a; intro a hE
    refine vP hS hE (Gives.len hE rfl sl26) rfl ?_; clear hE a; intro a hE
    refine vP hS hE (Gives.p hE rfl) rfl ?_; clear hE a; intro a hE
    obtain ⟨x78, hx79, hq65⟩ := bindS hq65
    obtain ⟨hi80, hlt81, hy82⟩ := gx_some hx79
    obtain ⟨cs83, hl84, hR85, hat86⟩ := h0.at hy82
    subst hR85
    refine vP hS hE (Gives.idx hE (w64 (((x0).length : Int) - 1)).toNat rfl rfl sl26 hi80 hlt81 (h0.aok hlt81)) rfl ?_; clear hE a; intro a hE
    refine vP hS hE (Gives.loadA hE rfl (fun w h => hat86 w _ h) ty47) rfl ?_; clear hE a; intro a hE
    refine WL.alloc hE hS (runs_plain rfl) zr47 rfl ?_; clear hE hS a w; intro b87 a w hE hS
    refine WL.storeI hE hS 0 rfl (GuideRide.cells x78) (runs_plain rfl) rfl rfl rfl ty47 rfl rfl rfl rfl ?_; clear hE hS a w; intro a w hE hS
    refine WL.nil ?_
    refine W.seq ?_
    refine W.regionQ (C := fun w => St w s (pt b87 (.cells (GuideRide.cells x78).toArray 47 (0, 0)) :: pt pb0 (.cells #[.slice a_y0_0 y0.Trains.length c_y0_0, .slice a_y0_1 y0.Turns.length c_y0_1] 25 (0, 0)) :: pt pb1 (.cells #[.int .i64 y1] 3 (0, 0)) :: pt pb2 (.cells #[.slice a_v0 y2.length c_v0] 39 (0, 0)) :: pt pb3 (.cells #[.int .i64 y3] 3 (0, 0)) :: pt pb4 (.cells #[.int .i64 y4] 3 (0, 0)) :: pt pb5 (.cells #[.func (.func 83) #[] #[.pointer (some ⟨pb0, 0, none⟩), .pointer (some ⟨pb1, 0, none⟩), .pointer (some ⟨pb2, 0, none⟩), .pointer (some ⟨pb3, 0, none⟩), .pointer (some ⟨pb4, 0, none⟩), .pointer (some ⟨pb5, 0, none⟩)]] 137 (0, 0)) :: vecC 28 1 a_v0 c_v0 y2.length cs_v0 :: R)) mixed (by kernel_rfl) hS.drew ?_
    refine qP hE (Gives.fld hE rfl fl25_0) rfl ?_; clear hE a; intro a hE
    refine qP hE (Gives.loadB hE 1 rfl rfl rfl ty22) rfl ?_; clear hE a; intro a hE
    refine qP hE (Gives.fld hE rfl fl47_0) rfl ?_; clear hE a; intro a hE
    refine qP hE (Gives.loadB hE 0 rfl rfl rfl ty3) rfl ?_; clear hE a; intro a hE
    obtain ⟨x88, hx89, hq65⟩ := bindS hq65
    obtain ⟨hi90, hlt91, hy92⟩ := gx_some hx89
    obtain ⟨cs93, hl94, hR95, hat96⟩ := h_y0_0.at hy92
    obtain ⟨a97, c98, a100, c101, rfl, h99, h102⟩ := hR95
    refine qP hE (Gives.idx hE (x78.Train).toNat rfl rfl sl22 hi90 hlt91 (h_y0_0.aok hlt91)) rfl ?_; clear hE a; intro a hE
    refine qP hE (Gives.fld hE rfl fl44_2) rfl ?_; clear hE a; intro a hE
    refine qP hE (Gives.load1 hE rfl (fun w h => (hat96 w _ h).one rfl) ty42) rfl ?_; clear hE a; intro a hE
    refine qP hE (Gives.fld hE rfl fl47_2) rfl ?_; clear hE a; intro a hE
    refine qP hE (Gives.loadB hE 0 rfl rfl rfl ty3) rfl ?_; clear hE a; intro a hE
    obtain ⟨x103, hx104, hq65⟩ := bindS hq65
    obtain ⟨hi105, hlt106, hy107⟩ := gx_some hx104
    obtain ⟨cs108, hl109, hR110, hat111⟩ := h99.at hy107
    subst hR110
    refine qP hE (Gives.idx hE (x78.Off).toNat rfl rfl sl42 hi105 hlt106 (h99.aok hlt106)) rfl ?_; clear hE a; intro a hE
    refine qP hE (Gives.fld hE rfl fl106_0) rfl ?_; clear hE a; intro a hE
    refine qP hE (Gives.load1 hE rfl (fun w h => (hat111 w _ h).one rfl) ty3) rfl ?_; clear hE a; intro a hE
    refine qP hE (Gives.p hE rfl) rfl ?_; clear hE a; intro a hE
    refine QL.nil ?_; clear hS w; intro w hS
    refine W.seq ?_
    obtain ⟨q113, hq112, hq65⟩ := bndS hq65
    refine W.cut (fun a w => ∃ (q116 : Bool), q116 = q113 ∧ Rep a 116 [(0, .slice a0 x0.length c0), (1, .pointer (some ⟨pb0, 0, none⟩)), (3, .pointer (some ⟨pb2, 0, none⟩)), (4, .pointer (some ⟨pb3, 0, none⟩)), (5, .pointer (some ⟨pb4, 0, none⟩)), (6, .pointer (some ⟨pb5, 0, none⟩)), (42, .bool q116)] ∧ St w s (pt b87 (.cells (GuideRide.cells x78).toArray 47 (0, 0)) :: pt pb0 (.cells #[.slice a_y0_0 y0.Trains.length c_y0_0, .slice a_y0_1 y0.Turns.length c_y0_1] 25 (0, 0)) :: pt pb1 (.cells #[.int .i64 y1] 3 (0, 0)) :: pt pb2 (.cells #[.slice a_v0 y2.length c_v0] 39 (0, 0)) :: pt pb3 (.cells #[.int .i64 y3] 3 (0, 0)) :: pt pb4 (.cells #[.int .i64 y4] 3 (0, 0)) :: pt pb5 (.cells #[.func (.func 83) #[] #[.pointer (some ⟨pb0, 0, none⟩), .pointer (some ⟨pb1, 0, none⟩), .pointer (some ⟨pb2, 0, none⟩), .pointer (some ⟨pb3, 0, none⟩), .pointer (some ⟨pb4, 0, none⟩), .pointer (some ⟨pb5, 0, none⟩)]] 137 (0, 0)) :: vecC 28 1 a_v0 c_v0 y2.length cs_v0 :: R)) ?_ ?_
    ·refine W.gen fun K117 hK117 => ?_
     refine W.region ?_
     refine vP hS hE (Gives.loadB hE 2 rfl rfl rfl ty3) rfl ?_; clear hE a; intro a hE
     refine vP hS hE (Gives.p hE rfl) rfl ?_; clear hE a; intro a hE
     refine vP hS hE (Gives.p hE rfl) rfl ?_; clear hE a; intro a hE
     rcases Bool.eq_false_or_eq_true (decide (y1 < 0)) with hg118 | hg118
     ·replace hq112 := iteT hg118 hq112
      refine WL.no hE (runs_not hE rfl rfl rfl (by rw [hg118]; decide)) rfl ?_; clear hE a; intro a hE
      refine WL.no hE (runs_not hE rfl rfl rfl (by rw [hg118]; decide)) rfl ?_; clear hE a; intro a hE
      refine WL.no hE (runs_not hE rfl rfl rfl (by rw [hg118]; decide)) rfl ?_; clear hE a; intro a hE
      refine vP hS hE (Gives.pickT hE rfl hg118 rfl) rfl ?_; clear hE a; intro a hE
      refine WL.nil ?_
      subst hK117
      exact ⟨true, hq112, hE.pick _ ⟨rfl, rfl, rfl, rfl, rfl, rfl, rfl, trivial⟩, hS⟩
     ·replace hq112 := iteF hg118 hq112
      refine WL.vS hS hE (runs_if hE rfl rfl rfl hg118) (Gives.p hE rfl) rfl ?_; clear hE a; intro a hE
      refine WL.vS hS hE (runs_if hE rfl rfl rfl hg118) (Gives.loadB hE 2 rfl rfl rfl ty3) rfl ?_; clear hE a; intro a hE
      refine WL.vS hS hE (runs_if hE rfl rfl rfl hg118) (Gives.p hE rfl) rfl ?_; clear hE a; intro a hE
      refine vP hS hE (Gives.pickF hE rfl hg118 rfl) rfl ?_; clear hE a; intro a hE
      refine WL.nil ?_
      subst hK117
      exact ⟨(x103.Station == y1), hq112, hE.pick _ ⟨rfl, rfl, rfl, rfl, rfl, rfl, rfl, trivial⟩, hS⟩
    ·clear hE hS a w; rintro a w ⟨q116, rfl, hE, hS⟩
     obtain ⟨q120, hq119, hq65⟩ := bindS hq65
     refine W.cut (fun a w => ∃ (q123 : List GuideJourney), ∃ (a124 : Option Addr), ∃ (c125 : Nat), ∃ (n127 : Nat), ∃ (cs128 : List Value), ∃ (s121 : Sg), s.Le s121 ∧ q123 = q120 ∧ Ev 1 RGuideJourney s121 cs128 q123 ∧ q123.length = n127 ∧ Rep a 116 [(0, .slice a0 x0.length c0), (1, .pointer (some ⟨pb0, 0, none⟩)), (4, .pointer (some ⟨pb3, 0, none⟩)), (5, .pointer (some ⟨pb4, 0, none⟩)), (6, .pointer (some ⟨pb5, 0, none⟩))] ∧ St w s121 (pt b87 (.cells (GuideRide.cells x78).toArray 47 (0, 0)) :: pt pb0 (.cells #[.slice a_y0_0 y0.Trains.length c_y0_0, .slice a_y0_1 y0.Turns.length c_y0_1] 25 (0, 0)) :: pt pb1 (.cells #[.int .i64 y1] 3 (0, 0)) :: pt pb2 (.cells #[.slice a124 n127 c125] 39 (0, 0)) :: pt pb3 (.cells #[.int .i64 y3] 3 (0, 0)) :: pt pb4 (.cells #[.int .i64 y4] 3 (0, 0)) :: pt pb5 (.cells #[.func (.func 83) #[] #[.pointer (some ⟨pb0, 0, none⟩), .pointer (some ⟨pb1, 0, none⟩), .pointer (some ⟨pb2, 0, none⟩), .pointer (some ⟨pb3, 0, none⟩), .pointer (some ⟨pb4, 0, none⟩), .pointer (some ⟨pb5, 0, none⟩)]] 137 (0, 0)) :: vecC 28 1 a124 c125 n127 cs128 :: R)) ?_ ?_
     ·refine W.gen fun K130 hK130 => ?_
      refine W.cond hE rfl (fun hc131 => ?_) (fun hc131 => ?_)
      ·replace hq119 := iteT hc131 hq119
       refine W.gen fun K132 hK132 => ?_
       refine W.regionE (sel (fun w => St w s (pt b87 (.cells (GuideRide.cells x78).toArray 47 (0, 0)) :: pt pb0 (.cells #[.slice a_y0_0 y0.Trains.length c_y0_0, .slice a_y0_1 y0.Turns.length c_y0_1] 25 (0, 0)) :: pt pb1 (.cells #[.int .i64 y1] 3 (0, 0)) :: pt pb2 (.cells #[.slice a_v0 y2.length c_v0] 39 (0, 0)) :: pt pb3 (.cells #[.int .i64 y3] 3 (0, 0)) :: pt pb4 (.cells #[.int .i64 y4] 3 (0, 0)) :: pt pb5 (.cells #[.func (.func 83) #[] #[.pointer (some ⟨pb0, 0, none⟩), .pointer (some ⟨pb1, 0, none⟩), .pointer (some ⟨pb2, 0, none⟩), .pointer (some ⟨pb3, 0, none⟩), .pointer (some ⟨pb4, 0, none⟩), .pointer (some ⟨pb5, 0, none⟩)]] 137 (0, 0)) :: vecC 28 1 a_v0 c_v0 y2.length cs_v0 :: R)) (fun w => St w s (pt b87 (.cells (GuideRide.cells x78).toArray 47 (0, 0)) :: pt pb0 (.cells #[.slice a_y0_0 y0.Trains.length c_y0_0, .slice a_y0_1 y0.Turns.length c_y0_1] 25 (0, 0)) :: pt pb1 (.cells #[.int .i64 y1] 3 (0, 0)) :: pt pb2 (.cells #[.slice a_v0 y2.length c_v0] 39 (0, 0)) :: pt pb3 (.cells #[.int .i64 y3] 3 (0, 0)) :: pt pb4 (.cells #[.int .i64 y4] 3 (0, 0)) :: pt pb5 (.cells #[.func (.func 83) #[] #[.pointer (some ⟨pb0, 0, none⟩), .pointer (some ⟨pb1, 0, none⟩), .pointer (some ⟨pb2, 0, none⟩), .pointer (some ⟨pb3, 0, none⟩), .pointer (some ⟨pb4, 0, none⟩), .pointer (some ⟨pb5, 0, none⟩)]] 137 (0, 0)) :: R))) (fun b i => cond b ([0, 1, 2, 3, 4].contains i) ([0, 1, 2, 3, 4, 5].contains i)) mixed ?_
       replace hS := hS.drew
       have hT := tw_sel (A := fun w => St w s _) (B := fun w => St w s _) (w := _) (x := true) (y := true) (fun _ => hS) (fun _ => (hS.dropAt 7))
       have hF := hS; replace hS := hS
       refine Rg.take (i := 0) true rfl hE rfl (by kernel_rfl) (runs_plain rfl) (Gives.loadB hE 3 rfl rfl rfl ty39) rfl hT ?_; clear hE a; intro a hE
       replace hS := hF; clear hF hT
       refine Rg.takeP (i := 1) hE rfl (by kernel_rfl) (runs_plain rfl) (Gives.p hE rfl) rfl (tw_sel (fun _ => hS) (fun _ => (hS.dropAt 7))) ?_; clear hE a; intro a hE
       refine Rg.one (i := 2) true true rfl (by kernel_rfl) (by kernel_rfl) (by kernel_rfl) ?_
       obtain ⟨q133, hq134, hq119⟩ := bindS hq119
       have hc_ := SlicesCloneLguideRide_ok hS h0 hq134
       refine WL.fnq hE (hc_) (runs_plain rfl) bd76 rfl rfl rfl ?_
       clear hE hS hc_; rintro e w ⟨a135, c136, n137, cs138, rfl, h139, rfl, hS⟩; refine ⟨_, rfl, ?_⟩; clear a; intro a hE
       refine WL.nil ?_
       refine ⟨⟨fun _ => (hS.tail), fun _ => ((hS.tail).dropAt 7)⟩, ?_⟩
       refine Rg.takeP (i := 3) hE rfl (by kernel_rfl) (runs_plain rfl) (Gives.build hE (vs := [(0, .slice a135 q133.length c136)]) [.slice a135 q133.length c136] rfl (by kernel_rfl)) rfl (tw_sel (fun _ => (hS.tail)) (fun _ => ((hS.tail).dropAt 7))) ?_; clear hE a; intro a hE
       refine Rg.one (i := 4) true true rfl (by kernel_rfl) (by kernel_rfl) (by kernel_rfl) ?_
       have hF := hS.fixD RGuideRide.mono 0 rfl h139 rfl; clear hS; obtain ⟨s141, hle142, hS, h143⟩ := hF
       replace h0 := Sl.mono RGuideRide.mono hle142 h0
       replace h_y0_0 := Sl.mono RApiTrain.mono hle142 h_y0_0
       replace h_y0_1 := Sl.mono (RL.mono RI.mono) hle142 h_y0_1
       replace h_v0 := Ev.mono RGuideJourney.mono hle142 h_v0
       refine WL.lit hE hS (e := 28) (es := 1) (vs := [(0, .agg [.slice a135 q133.length c136].toArray)]) (cs := [.slice a135 q133.length c136]) (runs_plain rfl) rfl (by kernel_rfl) rfl ?_; clear hE hS a w; intro b144 a w hE hS
       refine WL.nil ?_
       refine ⟨⟨fun _ => (St.down hle142 (hS.tail)), fun _ => (St.down hle142 ((hS.tail).dropAt 7))⟩, ?_⟩
       refine Rg.one (i := 5) false true rfl (by kernel_rfl) (by kernel_rfl) (by kernel_rfl) ?_
       obtain ⟨x145, hx146, hq119⟩ := bindS hq119
       refine WL.appD hE hS 7 (m := 1) (runs_plain rfl) rfl rfl rfl ap39 rfl h_v0 (rfl) (xs := [(GuideJourney.mk q133)]) (Ev.cons (c1 := [.slice a135 q133.length c136]) ⟨_, _, rfl, h143⟩ rfl (Ev.nil)) rfl rfl hx146 rfl ?_; clear hE hS a w; intro a147 c148 cs149 a w h150 hE hS
       refine WL.nil ?_
       refine ⟨⟨fun h => absurd h (by decide), fun _ => (St.down hle142 (hS.dropAt 7))⟩, ?_⟩
       refine Rg.one (i := 6) false false rfl (by kernel_rfl) (by kernel_rfl) (by kernel_rfl) ?_
       refine WL.storeI hE hS 3 rfl [.slice a147 x145.length c148] (runs_plain rfl) rfl rfl rfl ty39 rfl rfl rfl rfl ?_; clear hE hS a w; intro a w hE hS
       refine WL.nil ?_
       refine ⟨⟨fun h => absurd h (by decide), fun h => absurd h (by decide)⟩, ?_⟩
       refine Rg.done (by kernel_rfl) ?_
       subst hK132
       subst hK130
       exact ⟨x145, a147, c148, x145.length, cs149, s141, hle142, Option.some.inj hq119, h150, (rfl), hE.pick _ ⟨rfl, rfl, rfl, rfl, rfl, trivial⟩, hS⟩
      ·replace hq119 := iteF hc131 hq119
       refine W.skip ?_
       subst hK130
       exact ⟨y2, a_v0, c_v0, y2.length, cs_v0, s, (Sg.Le.refl _), Option.some.inj hq119, h_v0, (rfl), hE.pick _ ⟨rfl, rfl, rfl, rfl, rfl, trivial⟩, hS⟩
     ·clear hE hS a w; rintro a w ⟨q123, a124, c125, n127, cs128, s121, hle122, rfl, h126, rfl, hE, hS⟩
      replace h0 := Sl.mono RGuideRide.mono hle122 h0
      replace h_y0_0 := Sl.mono RApiTrain.mono hle122 h_y0_0
      replace h_y0_1 := Sl.mono (RL.mono RI.mono) hle122 h_y0_1
      replace h_v0 := Ev.mono RGuideJourney.mono hle122 h_v0
      replace hS := hS.tail
      subst hK76
      exact ⟨q123, a124, c125, q123.length, cs128, s121, hle122, Option.some.inj hq65, h126, rfl, hE.pick _ ⟨rfl, rfl, rfl, rfl, rfl, trivial⟩, hS⟩
   ·replace hq65 := iteF hc77 hq65
    refine W.skip ?_
    subst hK76
    exact ⟨y2, a_v0, c_v0, y2.length, cs_v0, s, (Sg.Le.refl _), Option.some.inj hq65, h_v0, (rfl), hE.pick _ ⟨rfl, rfl, rfl, rfl, rfl, trivial⟩, hS⟩
  ·clear hE hS a w; rintro a w ⟨q69, a70, c71, n73, cs74, s67, hle68, rfl, h72, rfl, hE, hS⟩
   replace h0 := Sl.mono RGuideRide.mono hle68 h0
   replace h_y0_0 := Sl.mono RApiTrain.mono hle68 h_y0_0
   replace h_y0_1 := Sl.mono (RL.mono RI.mono) hle68 h_y0_1
   replace h_v0 := Ev.mono RGuideJourney.mono hle68 h_v0
   refine W.seq ?_
   refine W.seq (W.region ?_)
   refine vP hS hE (Gives.p hE rfl) rfl ?_; clear hE a; intro a hE
   refine vP hS hE (Gives.len hE rfl sl26) rfl ?_; clear hE a; intro a hE
   refine vP hS hE (Gives.p hE rfl) rfl ?_; clear hE a; intro a hE
   refine WL.nil ?_
   refine W.cond hE rfl (fun hc151 => ?_) (fun hc151 => ?_)
   ·replace hr := iteT hc151 hr
    refine W.ret ?_
    refine finG (fn := Tryd.f83) (rs := []) (vs := []) hE rfl trivial ?_
    obtain rfl := Option.some.inj hr
    exact ⟨a70, c71, q69.length, cs74, s67, rfl, hle68, h72, rfl, hS⟩
   ·replace hr := iteF hc151 hr
    refine W.skip ?_
    refine W.seq (W.region ?_)
    refine vP hS hE (Gives.fld hE rfl fl25_0) rfl ?_; clear hE a; intro a hE
    refine vP hS hE (Gives.loadB hE 0 rfl rfl rfl ty22) rfl ?_; clear hE a; intro a hE
    refine vP hS hE (Gives.len hE rfl sl22) rfl ?_; clear hE a; intro a hE
    refine vP hS hE (Gives.p hE rfl) rfl ?_; clear hE a; intro a hE
    refine WL.nil ?_
    obtain ⟨q153, hq152, hr⟩ := bindS hr
    refine W.cut (fun a w => ∃ (q163 : List GuideJourney), ∃ (a164 : Option Addr), ∃ (c165 : Nat), ∃ (n167 : Nat), ∃ (cs168 : List Value), ∃ (s161 : Sg), s67.Le s161 ∧ q163 = q153 ∧ Ev 1 RGuideJourney s161 cs168 q163 ∧ q163.length = n167 ∧ Rep a 116 [] ∧ St w s161 (pt pb0 (.cells #[.slice a_y0_0 y0.Trains.length c_y0_0, .slice a_y0_1 y0.Turns.length c_y0_1] 25 (0, 0)) :: pt pb1 (.cells #[.int .i64 y1] 3 (0, 0)) :: pt pb2 (.cells #[.slice a164 n167 c165] 39 (0, 0)) :: pt pb3 (.cells #[.int .i64 y3] 3 (0, 0)) :: pt pb4 (.cells #[.int .i64 y4] 3 (0, 0)) :: pt pb5 (.cells #[.func (.func 83) #[] #[.pointer (some ⟨pb0, 0, none⟩), .pointer (some ⟨pb1, 0, none⟩), .pointer (some ⟨pb2, 0, none⟩), .pointer (some ⟨pb3, 0, none⟩), .pointer (some ⟨pb4, 0, none⟩), .pointer (some ⟨pb5, 0, none⟩)]] 137 (0, 0)) :: vecC 28 1 a164 c165 n167 cs168 :: R)) ?_ ?_
    ·refine W.block ?_
     refine W.loop (fun m a w => ∃ (rest156 : List ApiTrain) (k154 : Nat), ∃ (q163 : List GuideJourney), ∃ (a164 : Option Addr), ∃ (c165 : Nat), ∃ (n167 : Nat), ∃ (cs168 : List Value), ∃ (s161 : Sg), rest156.length = m ∧ y0.Trains.drop k154 = rest156 ∧ s67.Le s161 ∧ Fishref2AllOf_1_v1.loop1 x0 y0 y1 y3 y4 fu self_Fishref2AllOf_1_v1 rest156 k154 q163 = some q153 ∧ Ev 1 RGuideJourney s161 cs168 q163 ∧ q163.length = n167 ∧ Rep a 116 [(0, .slice a0 x0.length c0), (1, .pointer (some ⟨pb0, 0, none⟩)), (4, .pointer (some ⟨pb3, 0, none⟩)), (5, .pointer (some ⟨pb4, 0, none⟩)), (6, .pointer (some ⟨pb5, 0, none⟩)), (53, .slice a_y0_0 y0.Trains.length c_y0_0), (54, .int .i64 ((y0.Trains).length : Int)), (55, .int .i64 ((k154 : Nat) : Int))] ∧ St w s161 (pt pb0 (.cells #[.slice a_y0_0 y0.Trains.length c_y0_0, .slice a_y0_1 y0.Turns.length c_y0_1] 25 (0, 0)) :: pt pb1 (.cells #[.int .i64 y1] 3 (0, 0)) :: pt pb2 (.cells #[.slice a164 n167 c165] 39 (0, 0)) :: pt pb3 (.cells #[.int .i64 y3] 3 (0, 0)) :: pt pb4 (.cells #[.int .i64 y4] 3 (0, 0)) :: pt pb5 (.cells #[.func (.func 83) #[] #[.pointer (some ⟨pb0, 0, none⟩), .pointer (some ⟨pb1, 0, none⟩), .pointer (some ⟨pb2, 0, none⟩), .pointer (some ⟨pb3, 0, none⟩), .pointer (some ⟨pb4, 0, none⟩), .pointer (some ⟨pb5, 0, none⟩)]] 137 (0, 0)) :: vecC 28 1 a164 c165 n167 cs168 :: R)) (m := y0.Trains.length) ⟨y0.Trains, 0, q69, a70, c71, q69.length, cs74, s67, rfl, rfl, (Sg.Le.refl _), hq152, h72, rfl, hE.pick _ ⟨rfl, rfl, rfl, rfl, rfl, rfl, rfl, rfl, trivial⟩, hS⟩ ?_
     clear hE hS a w hq152; rintro m160 a w ⟨rest156, k154, q163, a164, c165, n167, cs168, s161, rfl, hd157, hle162, hq152, h166, rfl, hE, hS⟩
     refine W.gen fun K170 hK170 => ?_
     replace h0 := Sl.mono RGuideRide.mono hle162 h0
     replace h_y0_0 := Sl.mono RApiTrain.mono hle162 h_y0_0
     replace h_y0_1 := Sl.mono (RL.mono RI.mono) hle162 h_y0_1
     replace h72 := Ev.mono RGuideJourney.mono hle162 h72
     rcases rest156 with _ | ⟨x155, rest156⟩
     ·have hlt158 := drop_nil hd157
      refine W.seq (W.region ?_)
      refine vP hS hE (Gives.p hE rfl) rfl ?_; clear hE a; intro a hE
      refine WL.nil ?_
      refine W.seq ?_
      refine W.condF hE rfl (decide_eq_false (by omega)) ?_
      subst hK170
      refine W.exit rfl ?_
      exact ⟨q163, a164, c165, q163.length, cs168, s161, hle162, Option.some.inj hq152, h166, rfl, hE.pick _ trivial, hS⟩
     ·obtain ⟨hlt158, hx159, hd157⟩ := drop_cons hd157
      rw [Fishref2AllOf_1_v1.loop1] at hq152
      refine W.seq (W.region ?_)
      refine vP hS hE (Gives.p hE rfl) rfl ?_; clear hE a; intro a hE
      refine WL.nil ?_
      refine W.seq ?_
      refine W.condT hE rfl (decide_eq_true (by omega)) ?_
      refine W.skip ?_
      refine W.seq ?_
      refine W.block ?_
      refine W.seq (W.region ?_)
      refine vP hS hE (Gives.p hE rfl) rfl ?_; clear hE a; intro a hE
      obtain ⟨cs171, hl172, hR173, hat174⟩ := h_y0_0.at hx159
      obtain ⟨a175, c176, a178, c179, rfl, h177, h180⟩ := hR173
      refine vP hS hE (Gives.idx hE k154 rfl rfl sl22 rfl hlt158 (h_y0_0.aok hlt158)) rfl ?_; clear hE a; intro a hE
      refine vP hS hE (Gives.loadA hE rfl (fun w h => hat174 w _ h) ty44) rfl ?_; clear hE a; intro a hE
      refine WL.alloc hE hS (runs_plain rfl) zr44 rfl ?_; clear hE hS a w; intro b181 a w hE hS
      refine vP hS hE (Gives.p hE rfl) rfl ?_; clear hE a; intro a hE
      refine WL.storeI hE hS 0 rfl [.int .i64 x155.No, .int .i64 x155.Stock, .slice a175 x155.Stops.length c176, .slice a178 x155.Legs.length c179] (runs_plain rfl) rfl rfl rfl ty44 rfl rfl rfl rfl ?_; clear hE hS a w; intro a w hE hS
      refine WL.nil ?_
      refine W.seq (W.region ?_)
      refine vP hS hE (Gives.fld hE rfl fl44_2) rfl ?_; clear hE a; intro a hE
      refine vP hS hE (Gives.loadB hE 0 rfl rfl rfl ty42) rfl ?_; clear hE a; intro a hE
      refine vP hS hE (Gives.len hE rfl sl42) rfl ?_; clear hE a; intro a hE
      refine vP hS hE (Gives.p hE rfl) rfl ?_; clear hE a; intro a hE
      refine WL.nil ?_
      obtain ⟨q183, hq182, hq152⟩ := bindS hq152
      refine W.cut (fun a w => ∃ (q193 : List GuideJourney), ∃ (a194 : Option Addr), ∃ (c195 : Nat), ∃ (n197 : Nat), ∃ (cs198 : List Value), ∃ (s191 : Sg), s161.Le s191 ∧ q193 = q183 ∧ Ev 1 RGuideJourney s191 cs198 q193 ∧ q193.length = n197 ∧ Rep a 116 [(0, .slice a0 x0.length c0), (1, .pointer (some ⟨pb0, 0, none⟩)), (4, .pointer (some ⟨pb3, 0, none⟩)), (5, .pointer (some ⟨pb4, 0, none⟩)), (6, .pointer (some ⟨pb5, 0, none⟩)), (53, .slice a_y0_0 y0.Trains.length c_y0_0), (54, .int .i64 ((y0.Trains).length : Int)), (55, .int .i64 ((k154 : Nat) : Int))] ∧ St w s191 (pt b181 (.cells #[.int .i64 x155.No, .int .i64 x155.Stock, .slice a175 x155.Stops.length c176, .slice a178 x155.Legs.length c179] 44 (0, 0)) :: pt pb0 (.cells #[.slice a_y0_0 y0.Trains.length c_y0_0, .slice a_y0_1 y0.Turns.length c_y0_1] 25 (0, 0)) :: pt pb1 (.cells #[.int .i64 y1] 3 (0, 0)) :: pt pb2 (.cells #[.slice a194 n197 c195] 39 (0, 0)) :: pt pb3 (.cells #[.int .i64 y3] 3 (0, 0)) :: pt pb4 (.cells #[.int .i64 y4] 3 (0, 0)) :: pt pb5 (.cells #[.func (.func 83) #[] #[.pointer (some ⟨pb0, 0, none⟩), .pointer (some ⟨pb1, 0, none⟩), .pointer (some ⟨pb2, 0, none⟩), .pointer (some ⟨pb3, 0, none⟩), .pointer (some ⟨pb4, 0, none⟩), .pointer (some ⟨pb5, 0, none⟩)]] 137 (0, 0)) :: vecC 28 1 a194 c195 n197 cs198 :: R)) ?_ ?_
      ·refine W.block ?_
       refine W.loop (fun m a w => ∃ (rest186 : List ApiStop) (k184 : Nat), ∃ (q193 : List GuideJourney), ∃ (a194 : Option Addr), ∃ (c195 : Nat), ∃ (n197 : Nat), ∃ (cs198 : List Value), ∃ (s191 : Sg), rest186.length = m ∧ x155.Stops.drop k184 = rest186 ∧ s161.Le s191 ∧ Fishref2AllOf_1_v1.loop2 x0 y0 y1 y3 y4 fu self_Fishref2AllOf_1_v1 x155 k154 rest186 k184 q193 = some q183 ∧ Ev 1 RGuideJourney s191 cs198 q193 ∧ q193.length = n197 ∧ Rep a 116 [(0, .slice a0 x0.length c0), (1, .pointer (some ⟨pb0, 0, none⟩)), (4, .pointer (some ⟨pb3, 0, none⟩)), (5, .pointer (some ⟨pb4, 0, none⟩)), (6, .pointer (some ⟨pb5, 0, none⟩)), (10, .int .i64 ((k154 : Nat) : Int)), (11, .pointer (some ⟨b181, 0, none⟩)), (53, .slice a_y0_0 y0.Trains.length c_y0_0), (54, .int .i64 ((y0.Trains).length : Int)), (55, .int .i64 ((k154 : Nat) : Int)), (62, .int .i64 ((x155.Stops).length : Int)), (63, .int .i64 ((k184 : Nat) : Int))] ∧ St w s191 (pt b181 (.cells #[.int .i64 x155.No, .int .i64 x155.Stock, .slice a175 x155.Stops.length c176, .slice a178 x155.Legs.length c179] 44 (0, 0)) :: pt pb0 (.cells #[.slice a_y0_0 y0.Trains.length c_y0_0, .slice a_y0_1 y0.Turns.length c_y0_1] 25 (0, 0)) :: pt pb1 (.cells #[.int .i64 y1] 3 (0, 0)) :: pt pb2 (.cells #[.slice a194 n197 c195] 39 (0, 0)) :: pt pb3 (.cells #[.int .i64 y3] 3 (0, 0)) :: pt pb4 (.cells #[.int .i64 y4] 3 (0, 0)) :: pt pb5 (.cells #[.func (.func 83) #[] #[.pointer (some ⟨pb0, 0, none⟩), .pointer (some ⟨pb1, 0, none⟩), .pointer (some ⟨pb2, 0, none⟩), .pointer (some ⟨pb3, 0, none⟩), .pointer (some ⟨pb4, 0, none⟩), .pointer (some ⟨pb5, 0, none⟩)]] 137 (0, 0)) :: vecC 28 1 a194 c195 n197 cs198 :: R)) (m := x155.Stops.length) ⟨x155.Stops, 0, q163, a164, c165, q163.length, cs168, s161, rfl, rfl, (Sg.Le.refl _), hq182, h166, rfl, hE.pick _ ⟨rfl, rfl, rfl, rfl, rfl, rfl, rfl, rfl, rfl, rfl, rfl, rfl, trivial⟩, hS⟩ ?_
       clear hE hS a w hq182; rintro m190 a w ⟨rest186, k184, q193, a194, c195, n197, cs198, s191, rfl, hd187, hle192, hq182, h196, rfl, hE, hS⟩
       refine W.gen fun K200 hK200 => ?_
       replace h0 := Sl.mono RGuideRide.mono hle192 h0
       replace h_y0_0 := Sl.mono RApiTrain.mono hle192 h_y0_0
       replace h177 := Sl.mono RApiStop.mono hle192 h177
       replace h180 := Sl.mono (RL.mono RI.mono) hle192 h180
       replace h_y0_1 := Sl.mono (RL.mono RI.mono) hle192 h_y0_1
       replace h166 := Ev.mono RGuideJourney.mono hle192 h166
       rcases rest186 with _ | ⟨x185, rest186⟩
       ·have hlt188 := drop_nil hd187
        refine W.seq (W.region ?_)
        refine vP hS hE (Gives.p hE rfl) rfl ?_; clear hE a; intro a hE
        refine WL.nil ?_
        refine W.seq ?_
        refine W.condF hE rfl (decide_eq_false (by omega)) ?_
        subst hK200
        refine W.exit rfl ?_
        exact ⟨q193, a194, c195, q193.length, cs198, s191, hle192, Option.some.inj hq182, h196, rfl, hE.pick _ ⟨rfl, rfl, rfl, rfl, rfl, rfl, rfl, rfl, trivial⟩, hS⟩
       ·obtain ⟨hlt188, hx189, hd187⟩ := drop_cons hd187
        rw [Fishref2AllOf_1_v1.loop2] at hq182
        refine W.seq (W.region ?_)
        refine vP hS hE (Gives.p hE rfl) rfl ?_; clear hE a; intro a hE
        refine WL.nil ?_
        refine W.seq ?_
        refine W.condT hE rfl (decide_eq_true (by omega)) ?_
        refine W.skip ?_
        refine W.seq ?_
        refine W.block ?_
        refine W.seq (W.region ?_)
        refine vP hS hE (Gives.p hE rfl) rfl ?_; clear hE a; intro a hE
        refine vP hS hE (Gives.p hE rfl) rfl ?_; clear hE a; intro a hE
        refine WL.nil ?_
        refine W.seq ?_
        refine W.seq ?_
        obtain ⟨q202, hq201, hq182⟩ := bndS hq182
        refine W.cut (fun a w => ∃ (q205 : Bool), q205 = q202 ∧ Rep a 116 [(0, .slice a0 x0.length c0), (1, .pointer (some ⟨pb0, 0, none⟩)), (4, .pointer (some ⟨pb3, 0, none⟩)), (5, .pointer (some ⟨pb4, 0, none⟩)), (6, .pointer (some ⟨pb5, 0, none⟩)), (10, .int .i64 ((k154 : Nat) : Int)), (11, .pointer (some ⟨b181, 0, none⟩)), (12, .int .i64 ((k184 : Nat) : Int)), (53, .slice a_y0_0 y0.Trains.length c_y0_0), (54, .int .i64 ((y0.Trains).length : Int)), (55, .int .i64 ((k154 : Nat) : Int)), (62, .int .i64 ((x155.Stops).length : Int)), (63, .int .i64 ((k184 : Nat) : Int)), (78, .bool q205)] ∧ St w s191 (pt b181 (.cells #[.int .i64 x155.No, .int .i64 x155.Stock, .slice a175 x155.Stops.length c176, .slice a178 x155.Legs.length c179] 44 (0, 0)) :: pt pb0 (.cells #[.slice a_y0_0 y0.Trains.length c_y0_0, .slice a_y0_1 y0.Turns.length c_y0_1] 25 (0, 0)) :: pt pb1 (.cells #[.int .i64 y1] 3 (0, 0)) :: pt pb2 (.cells #[.slice a194 q193.length c195] 39 (0, 0)) :: pt pb3 (.cells #[.int .i64 y3] 3 (0, 0)) :: pt pb4 (.cells #[.int .i64 y4] 3 (0, 0)) :: pt pb5 (.cells #[.func (.func 83) #[] #[.pointer (some ⟨pb0, 0, none⟩), .pointer (some ⟨pb1, 0, none⟩), .pointer (some ⟨pb2, 0, none⟩), .pointer (some ⟨pb3, 0, none⟩), .pointer (some ⟨pb4, 0, none⟩), .pointer (some ⟨pb5, 0, none⟩)]] 137 (0, 0)) :: vecC 28 1 a194 c195 q193.length cs198 :: R)) ?_ ?_
        ·refine W.gen fun K206 hK206 => ?_
         refine W.regionQ (C := fun w => St w s191 (pt b181 (.cells #[.int .i64 x155.No, .int .i64 x155.Stock, .slice a175 x155.Stops.length c176, .slice a178 x155.Legs.length c179] 44 (0, 0)) :: pt pb0 (.cells #[.slice a_y0_0 y0.Trains.length c_y0_0, .slice a_y0_1 y0.Turns.length c_y0_1] 25 (0, 0)) :: pt pb1 (.cells #[.int .i64 y1] 3 (0, 0)) :: pt pb2 (.cells #[.slice a194 q193.length c195] 39 (0, 0)) :: pt pb3 (.cells #[.int .i64 y3] 3 (0, 0)) :: pt pb4 (.cells #[.int .i64 y4] 3 (0, 0)) :: pt pb5 (.cells #[.func (.func 83) #[] #[.pointer (some ⟨pb0, 0, none⟩), .pointer (some ⟨pb1, 0, none⟩), .pointer (some ⟨pb2, 0, none⟩), .pointer (some ⟨pb3, 0, none⟩), .pointer (some ⟨pb4, 0, none⟩), .pointer (some ⟨pb5, 0, none⟩)]] 137 (0, 0)) :: vecC 28 1 a194 c195 q193.length cs198 :: R)) mixed (by kernel_rfl) hS.drew ?_
         refine qP hE (Gives.p hE rfl) rfl ?_; clear hE a; intro a hE
         refine qP hE (Gives.len hE rfl sl26) rfl ?_; clear hE a; intro a hE
         refine qP hE (Gives.p hE rfl) rfl ?_; clear hE a; intro a hE
         refine qP hE (Gives.p hE rfl) rfl ?_; clear hE a; intro a hE
         rcases Bool.eq_false_or_eq_true (((x0).length : Int) == 0) with hg207 | hg207
         ·replace hq201 := iteT hg207 hq201
          refine QL.v hE (runs_if hE rfl rfl rfl hg207) (Gives.fld hE rfl fl44_2) rfl ?_; clear hE a; intro a hE
          refine QL.v hE (runs_if hE rfl rfl rfl hg207) (Gives.loadB hE 0 rfl rfl rfl ty42) rfl ?_; clear hE a; intro a hE
          refine QL.v hE (runs_if hE rfl rfl rfl hg207) (Gives.p hE rfl) rfl ?_; clear hE a; intro a hE
          obtain ⟨cs208, hl209, hR210, hat211⟩ := h177.at hx189
          subst hR210
          refine QL.v hE (runs_if hE rfl rfl rfl hg207) (Gives.idx hE k184 rfl rfl sl42 rfl hlt188 (h177.aok hlt188)) rfl ?_; clear hE a; intro a hE
          refine QL.v hE (runs_if hE rfl rfl rfl hg207) (Gives.fld hE rfl fl106_0) rfl ?_; clear hE a; intro a hE
          refine QL.v hE (runs_if hE rfl rfl rfl hg207) (Gives.load1 hE rfl (fun w h => (hat211 w _ h).one rfl) ty3) rfl ?_; clear hE a; intro a hE
          refine QL.v hE (runs_if hE rfl rfl rfl hg207) (Gives.loadB hE 4 rfl rfl rfl ty3) rfl ?_; clear hE a; intro a hE
          refine QL.v hE (runs_if hE rfl rfl rfl hg207) (Gives.p hE rfl) rfl ?_; clear hE a; intro a hE
          refine qP hE (Gives.pickT hE rfl hg207 rfl) rfl ?_; clear hE a; intro a hE
          refine QL.nil ?_; clear hS w; intro w hS
          subst hK206
          exact ⟨(x185.Station != y3), hq201, hE.pick _ ⟨rfl, rfl, rfl, rfl, rfl, rfl, rfl, rfl, rfl, rfl, rfl, rfl, rfl, rfl, trivial⟩, hS⟩
         ·replace hq201 := iteF hg207 hq201
          refine QL.no hE (runs_not hE rfl rfl rfl (by rw [hg207]; decide)) rfl ?_; clear hE a; intro a hE
          refine QL.no hE (runs_not hE rfl rfl rfl (by rw [hg207]; decide)) rfl ?_; clear hE a; intro a hE
          refine QL.no hE (runs_not hE rfl rfl rfl (by rw [hg207]; decide)) rfl ?_; clear hE a; intro a hE
          refine QL.no hE (runs_not hE rfl rfl rfl (by rw [hg207]; decide)) rfl ?_; clear hE a; intro a hE
          refine QL.no hE (runs_not hE rfl rfl rfl (by rw [hg207]; decide)) rfl ?_; clear hE a; intro a hE
          refine QL.no hE (runs_not hE rfl rfl rfl (by rw [hg207]; decide)) rfl ?_; clear hE a; intro a hE
          refine QL.no hE (runs_not hE rfl rfl rfl (by rw [hg207]; decide)) rfl ?_; clear hE a; intro a hE
          refine QL.no hE (runs_not hE rfl rfl rfl (by rw [hg207]; decide)) rfl ?_; clear hE a; intro a hE
          refine qP hE (Gives.pickF hE rfl hg207 rfl) rfl ?_; clear hE a; intro a hE
          refine QL.nil ?_; clear hS w; intro w hS
          subst hK206
          exact ⟨false, hq201, hE.pick _ ⟨rfl, rfl, rfl, rfl, rfl, rfl, rfl, rfl, rfl, rfl, rfl, rfl, rfl, rfl, trivial⟩, hS⟩
        ·clear hE hS a w; rintro a w ⟨q205, rfl, hE, hS⟩
         refine W.cond hE rfl (fun hc212 => ?_) (fun hc212 => ?_)
         ·replace hq182 := iteT hc212 hq182
          refine W.exit rfl ?_
          refine W.region ?_
          refine vP hS hE (Gives.inc hE rfl (by have := h177.small; omega)) rfl ?_; clear hE a; intro a hE
          refine vP hS hE (Gives.p hE rfl) rfl ?_; clear hE a; intro a hE
          refine WL.nil ?_
          subst hK200
          exact ⟨rest186.length, Nat.lt_succ_self _, rest186, k184 + 1, q193, a194, c195, q193.length, cs198, s191, rfl, hd187, hle192, hq182, h196, rfl, hE.pick _ ⟨rfl, rfl, rfl, rfl, rfl, rfl, rfl, rfl, rfl, rfl, rfl, rfl, trivial⟩, hS⟩
         ·replace hq182 := iteF hc212 hq182
          refine W.skip ?_
          refine W.seq (W.region ?_)
          refine vP hS hE (Gives.p hE rfl) rfl ?_; clear hE a; intro a hE
          refine vP hS hE (Gives.inc hE rfl (by have := h177.small; omega)) rfl ?_; clear hE a; intro a hE
          refine vP hS hE (Gives.p hE rfl) rfl ?_; clear hE a; intro a hE
          refine WL.nil ?_
          obtain ⟨q214, hq213, hq182⟩ := bindS hq182
          refine W.cut (fun a w => ∃ (q219 : Int), ∃ (q220 : List GuideJourney), ∃ (a221 : Option Addr), ∃ (c222 : Nat), ∃ (n224 : Nat), ∃ (cs225 : List Value), ∃ (s217 : Sg), s191.Le s217 ∧ (q219, q220) = q214 ∧ Ev 1 RGuideJourney s217 cs225 q220 ∧ q220.length = n224 ∧ Rep a 116 [(0, .slice a0 x0.length c0), (1, .pointer (some ⟨pb0, 0, none⟩)), (4, .pointer (some ⟨pb3, 0, none⟩)), (5, .pointer (some ⟨pb4, 0, none⟩)), (6, .pointer (some ⟨pb5, 0, none⟩)), (10, .int .i64 ((k154 : Nat) : Int)), (11, .pointer (some ⟨b181, 0, none⟩)), (53, .slice a_y0_0 y0.Trains.length c_y0_0), (54, .int .i64 ((y0.Trains).length : Int)), (55, .int .i64 ((k154 : Nat) : Int)), (62, .int .i64 ((x155.Stops).length : Int)), (63, .int .i64 ((k184 : Nat) : Int))] ∧ St w s217 (pt b181 (.cells #[.int .i64 x155.No, .int .i64 x155.Stock, .slice a175 x155.Stops.length c176, .slice a178 x155.Legs.length c179] 44 (0, 0)) :: pt pb0 (.cells #[.slice a_y0_0 y0.Trains.length c_y0_0, .slice a_y0_1 y0.Turns.length c_y0_1] 25 (0, 0)) :: pt pb1 (.cells #[.int .i64 y1] 3 (0, 0)) :: pt pb2 (.cells #[.slice a221 n224 c222] 39 (0, 0)) :: pt pb3 (.cells #[.int .i64 y3] 3 (0, 0)) :: pt pb4 (.cells #[.int .i64 y4] 3 (0, 0)) :: pt pb5 (.cells #[.func (.func 83) #[] #[.pointer (some ⟨pb0, 0, none⟩), .pointer (some ⟨pb1, 0, none⟩), .pointer (some ⟨pb2, 0, none⟩), .pointer (some ⟨pb3, 0, none⟩), .pointer (some ⟨pb4, 0, none⟩), .pointer (some ⟨pb5, 0, none⟩)]] 137 (0, 0)) :: vecC 28 1 a221 c222 n224 cs225 :: R)) ?_ ?_
          ·refine W.block ?_
           refine W.loop (fun m a w => ∃ (n215 : Nat), ∃ (q219 : Int), ∃ (q220 : List GuideJourney), ∃ (a221 : Option Addr), ∃ (c222 : Nat), ∃ (n224 : Nat), ∃ (cs225 : List Value), ∃ (s217 : Sg), n215 = m ∧ s191.Le s217 ∧ Fishref2AllOf_1_v1.loop3 x0 y0 y1 y3 y4 self_Fishref2AllOf_1_v1 x155 k154 k184 n215 q219 q220 = some q214 ∧ Ev 1 RGuideJourney s217 cs225 q220 ∧ q220.length = n224 ∧ Rep a 116 [(0, .slice a0 x0.length c0), (1, .pointer (some ⟨pb0, 0, none⟩)), (4, .pointer (some ⟨pb3, 0, none⟩)), (5, .pointer (some ⟨pb4, 0, none⟩)), (6, .pointer (some ⟨pb5, 0, none⟩)), (10, .int .i64 ((k154 : Nat) : Int)), (11, .pointer (some ⟨b181, 0, none⟩)), (12, .int .i64 ((k184 : Nat) : Int)), (13, .int .i64 q219), (53, .slice a_y0_0 y0.Trains.length c_y0_0), (54, .int .i64 ((y0.Trains).length : Int)), (55, .int .i64 ((k154 : Nat) : Int)), (62, .int .i64 ((x155.Stops).length : Int)), (63, .int .i64 ((k184 : Nat) : Int))] ∧ St w s217 (pt b181 (.cells #[.int .i64 x155.No, .int .i64 x155.Stock, .slice a175 x155.Stops.length c176, .slice a178 x155.Legs.length c179] 44 (0, 0)) :: pt pb0 (.cells #[.slice a_y0_0 y0.Trains.length c_y0_0, .slice a_y0_1 y0.Turns.length c_y0_1] 25 (0, 0)) :: pt pb1 (.cells #[.int .i64 y1] 3 (0, 0)) :: pt pb2 (.cells #[.slice a221 n224 c222] 39 (0, 0)) :: pt pb3 (.cells #[.int .i64 y3] 3 (0, 0)) :: pt pb4 (.cells #[.int .i64 y4] 3 (0, 0)) :: pt pb5 (.cells #[.func (.func 83) #[] #[.pointer (some ⟨pb0, 0, none⟩), .pointer (some ⟨pb1, 0, none⟩), .pointer (some ⟨pb2, 0, none⟩), .pointer (some ⟨pb3, 0, none⟩), .pointer (some ⟨pb4, 0, none⟩), .pointer (some ⟨pb5, 0, none⟩)]] 137 (0, 0)) :: vecC 28 1 a221 c222 n224 cs225 :: R)) (m := fu) ⟨fu, ((k184 + 1 : Nat) : Int), q193, a194, c195, q193.length, cs198, s191, rfl, (Sg.Le.refl _), hq213, h196, rfl, hE.pick _ ⟨rfl, rfl, rfl, rfl, rfl, rfl, rfl, rfl, rfl, rfl, rfl, rfl, rfl, rfl, trivial⟩, hS⟩ ?_
           clear hE hS a w hq213; rintro m216 a w ⟨n215, q219, q220, a221, c222, n224, cs225, s217, rfl, hle218, hq213, h223, rfl, hE, hS⟩
           refine W.gen fun K227 hK227 => ?_
           replace h0 := Sl.mono RGuideRide.mono hle218 h0
           replace h_y0_0 := Sl.mono RApiTrain.mono hle218 h_y0_0
           replace h177 := Sl.mono RApiStop.mono hle218 h177
           replace h180 := Sl.mono (RL.mono RI.mono) hle218 h180
           replace h_y0_1 := Sl.mono (RL.mono RI.mono) hle218 h_y0_1
           replace h196 := Ev.mono RGuideJourney.mono hle218 h196
           rcases n215 with _ | n215
           ·rw [Fishref2AllOf_1_v1.loop3] at hq213; exact absurd hq213 (by simp)
           rw [Fishref2AllOf_1_v1.loop3] at hq213
           refine W.seq ?_
           refine W.seq (W.region ?_)
           refine vP hS hE (Gives.p hE rfl) rfl ?_; clear hE a; intro a hE
           refine vP hS hE (Gives.fld hE rfl fl44_2) rfl ?_; clear hE a; intro a hE
           refine vP hS hE (Gives.loadB hE 0 rfl rfl rfl ty42) rfl ?_; clear hE a; intro a hE
           refine vP hS hE (Gives.len hE rfl sl42) rfl ?_; clear hE a; intro a hE
           refine vP hS hE (Gives.p hE rfl) rfl ?_; clear hE a; intro a hE
           refine WL.nil ?_
           refine W.cond hE rfl (fun hc228 => ?_) (fun hc228 => ?_)
           ·replace hq213 := iteT hc228 hq213
            refine W.skip ?_
            refine W.seq ?_
            refine W.block ?_
            refine W.seq (W.region ?_)
            refine vP hS hE (Gives.p hE rfl) rfl ?_; clear hE a; intro a hE
            obtain ⟨q229, hq230, hq213⟩ := bindS hq213
            have hc_ := SlicesCloneLguideRide_ok hS h0 hq230
            refine WL.fnq hE (hc_) (runs_plain rfl) bd76 rfl rfl rfl ?_
            clear hE hS hc_; rintro e w ⟨a231, c232, n233, cs234, rfl, h235, rfl, hS⟩; refine ⟨_, rfl, ?_⟩; clear a; intro a hE
            refine vP hS hE (Gives.p hE rfl) rfl ?_; clear hE a; intro a hE
            refine vP hS hE (Gives.p hE rfl) rfl ?_; clear hE a; intro a hE
            refine vP hS hE (Gives.p hE rfl) rfl ?_; clear hE a; intro a hE
            refine vP hS hE (Gives.build hE (vs := [(0, .int .i64 ((k154 : Nat) : Int)), (1, .int .i64 ((k184 : Nat) : Int)), (2, .int .i64 q219)]) [.int .i64 ((k154 : Nat) : Int), .int .i64 ((k184 : Nat) : Int), .int .i64 q219] rfl (by kernel_rfl)) rfl ?_; clear hE a; intro a hE
            refine WL.lit hE hS (e := 47) (es := 3) (vs := [(0, .agg [.int .i64 ((k154 : Nat) : Int), .int .i64 ((k184 : Nat) : Int), .int .i64 q219].toArray)]) (cs := [.int .i64 ((k154 : Nat) : Int), .int .i64 ((k184 : Nat) : Int), .int .i64 q219]) (runs_plain rfl) rfl (by kernel_rfl) rfl ?_; clear hE hS a w; intro b237 a w hE hS
            obtain ⟨x238, hx239, hq213⟩ := bindS hq213
            refine WL.appD hE hS 0 (m := 1) (runs_plain rfl) rfl rfl rfl ap26 rfl h235 rfl (xs := [(GuideRide.mk ((k154 : Nat) : Int) ((k184 : Nat) : Int) q219)]) (Ev.cons (c1 := [.int .i64 ((k154 : Nat) : Int), .int .i64 ((k184 : Nat) : Int), .int .i64 q219]) rfl rfl (Ev.nil)) rfl rfl hx239 rfl ?_; clear hE hS a w; intro a240 c241 cs242 a w h243 hE hS
            refine vP hS hE (Gives.p hE rfl) rfl ?_; clear hE a; intro a hE
            refine WL.nil ?_
            refine W.seq ?_
            have hF := hS.fixD RGuideRide.mono 0 rfl h243 (rfl); clear hS; obtain ⟨s244, hle245, hS, h246⟩ := hF
            replace h0 := Sl.mono RGuideRide.mono hle245 h0
            replace h_y0_0 := Sl.mono RApiTrain.mono hle245 h_y0_0
            replace h177 := Sl.mono RApiStop.mono hle245 h177
            replace h180 := Sl.mono (RL.mono RI.mono) hle245 h180
            replace h_y0_1 := Sl.mono (RL.mono RI.mono) hle245 h_y0_1
            replace h223 := Ev.mono RGuideJourney.mono hle245 h223
            obtain ⟨q248, hq247, hq213⟩ := bindS hq213
            refine W.cut (fun a w => ∃ (q251 : Bool), q251 = q248 ∧ Rep a 116 [(0, .slice a0 x0.length c0), (1, .pointer (some ⟨pb0, 0, none⟩)), (4, .pointer (some ⟨pb3, 0, none⟩)), (5, .pointer (some ⟨pb4, 0, none⟩)), (6, .pointer (some ⟨pb5, 0, none⟩)), (10, .int .i64 ((k154 : Nat) : Int)), (11, .pointer (some ⟨b181, 0, none⟩)), (12, .int .i64 ((k184 : Nat) : Int)), (13, .int .i64 q219), (14, .slice a240 x238.length c241), (53, .slice a_y0_0 y0.Trains.length c_y0_0), (54, .int .i64 ((y0.Trains).length : Int)), (55, .int .i64 ((k154 : Nat) : Int)), (62, .int .i64 ((x155.Stops).length : Int)), (63, .int .i64 ((k184 : Nat) : Int)), (110, .bool q251)] ∧ St w s244 (pt b181 (.cells #[.int .i64 x155.No, .int .i64 x155.Stock, .slice a175 x155.Stops.length c176, .slice a178 x155.Legs.length c179] 44 (0, 0)) :: pt pb0 (.cells #[.slice a_y0_0 y0.Trains.length c_y0_0, .slice a_y0_1 y0.Turns.length c_y0_1] 25 (0, 0)) :: pt pb1 (.cells #[.int .i64 y1] 3 (0, 0)) :: pt pb2 (.cells #[.slice a221 q220.length c222] 39 (0, 0)) :: pt pb3 (.cells #[.int .i64 y3] 3 (0, 0)) :: pt pb4 (.cells #[.int .i64 y4] 3 (0, 0)) :: pt pb5 (.cells #[.func (.func 83) #[] #[.pointer (some ⟨pb0, 0, none⟩), .pointer (some ⟨pb1, 0, none⟩), .pointer (some ⟨pb2, 0, none⟩), .pointer (some ⟨pb3, 0, none⟩), .pointer (some ⟨pb4, 0, none⟩), .pointer (some ⟨pb5, 0, none⟩)]] 137 (0, 0)) :: vecC 28 1 a221 c222 q220.length cs225 :: R)) ?_ ?_
            ·refine W.gen fun K252 hK252 => ?_
             refine W.regionQ (C := fun w => St w s244 (pt b181 (.cells #[.int .i64 x155.No, .int .i64 x155.Stock, .slice a175 x155.Stops.length c176, .slice a178 x155.Legs.length c179] 44 (0, 0)) :: pt pb0 (.cells #[.slice a_y0_0 y0.Trains.length c_y0_0, .slice a_y0_1 y0.Turns.length c_y0_1] 25 (0, 0)) :: pt pb1 (.cells #[.int .i64 y1] 3 (0, 0)) :: pt pb2 (.cells #[.slice a221 q220.length c222] 39 (0, 0)) :: pt pb3 (.cells #[.int .i64 y3] 3 (0, 0)) :: pt pb4 (.cells #[.int .i64 y4] 3 (0, 0)) :: pt pb5 (.cells #[.func (.func 83) #[] #[.pointer (some ⟨pb0, 0, none⟩), .pointer (some ⟨pb1, 0, none⟩), .pointer (some ⟨pb2, 0, none⟩), .pointer (some ⟨pb3, 0, none⟩), .pointer (some ⟨pb4, 0, none⟩), .pointer (some ⟨pb5, 0, none⟩)]] 137 (0, 0)) :: vecC 28 1 a221 c222 q220.length cs225 :: R)) mixed (by kernel_rfl) hS.drew ?_
             refine qP hE (Gives.p hE rfl) rfl ?_; clear hE a; intro a hE
             refine qP hE (Gives.len hE rfl sl26) rfl ?_; clear hE a; intro a hE
             refine qP hE (Gives.p hE rfl) rfl ?_; clear hE a; intro a hE
             refine qP hE (Gives.p hE rfl) rfl ?_; clear hE a; intro a hE
             rcases Bool.eq_false_or_eq_true (((x238).length : Int) == 1) with hg253 | hg253
             ·replace hq247 := iteT hg253 hq247
              refine QL.no hE (runs_not hE rfl rfl rfl (by rw [hg253]; decide)) rfl ?_; clear hE a; intro a hE
              refine QL.no hE (runs_not hE rfl rfl rfl (by rw [hg253]; decide)) rfl ?_; clear hE a; intro a hE
              refine QL.no hE (runs_not hE rfl rfl rfl (by rw [hg253]; decide)) rfl ?_; clear hE a; intro a hE
              refine QL.no hE (runs_not hE rfl rfl rfl (by rw [hg253]; decide)) rfl ?_; clear hE a; intro a hE
              refine QL.no hE (runs_not hE rfl rfl rfl (by rw [hg253]; decide)) rfl ?_; clear hE a; intro a hE
              refine QL.no hE (runs_not hE rfl rfl rfl (by rw [hg253]; decide)) rfl ?_; clear hE a; intro a hE
              refine QL.no hE (runs_not hE rfl rfl rfl (by rw [hg253]; decide)) rfl ?_; clear hE a; intro a hE
              refine QL.no hE (runs_not hE rfl rfl rfl (by rw [hg253]; decide)) rfl ?_; clear hE a; intro a hE
              refine QL.no hE (runs_not hE rfl rfl rfl (by rw [hg253]; decide)) rfl ?_; clear hE a; intro a hE
              refine QL.no hE (runs_not hE rfl rfl rfl (by rw [hg253]; decide)) rfl ?_; clear hE a; intro a hE
              refine qP hE (Gives.pickT hE rfl hg253 rfl) rfl ?_; clear hE a; intro a hE
              refine QL.nil ?_; clear hS w; intro w hS
              subst hK252
              exact ⟨true, Option.some.inj hq247, hE.pick _ ⟨rfl, rfl, rfl, rfl, rfl, rfl, rfl, rfl, rfl, rfl, rfl, rfl, rfl, rfl, rfl, rfl, trivial⟩, hS⟩
             ·replace hq247 := iteF hg253 hq247
              refine QL.v hE (runs_if hE rfl rfl rfl hg253) (Gives.loadBA hE 1 rfl rfl ty25) rfl ?_; clear hE a; intro a hE
              refine QL.v hE (runs_if hE rfl rfl rfl hg253) (Gives.p hE rfl) rfl ?_; clear hE a; intro a hE
              refine QL.v hE (runs_if hE rfl rfl rfl hg253) (Gives.p hE rfl) rfl ?_; clear hE a; intro a hE
              refine QL.v hE (runs_if hE rfl rfl rfl hg253) (Gives.len hE rfl sl26) rfl ?_; clear hE a; intro a hE
              refine QL.v hE (runs_if hE rfl rfl rfl hg253) (Gives.p hE rfl) rfl ?_; clear hE a; intro a hE
              obtain ⟨x254, hx255, hq247⟩ := bindS hq247
              obtain ⟨a256, c257, heq258, h259⟩ := h246.cut hx255
              obtain ⟨h260, h261, h262, _⟩ := cutl_some hx255
              refine QL.v hE (runs_if hE rfl rfl rfl hg253) (Gives.slL hE sl26 rfl rfl h260 (by omega) (by simpa using heq258)) rfl ?_; clear hE a; intro a hE
              refine QL.v hE (runs_if hE rfl rfl rfl hg253) (Gives.build hE (vs := [(0, .slice a256 x254.length c257)]) [.slice a256 x254.length c257] rfl (by kernel_rfl)) rfl ?_; clear hE a; intro a hE
              refine QL.v hE (runs_if hE rfl rfl rfl hg253) (Gives.loadB hE 5 rfl rfl rfl ty3) rfl ?_; clear hE a; intro a hE
              obtain ⟨q263, hq264, hq247⟩ := bindS hq247
              refine QL.fnq hE (fun w hS => Fishref2JourneyFault_ok hS h_y0_0 h_y0_1 h259 hq264) (runs_if hE rfl rfl rfl hg253) bd18 rfl rfl rfl ?_; clear hE a; intro a hE
              refine QL.v hE (runs_if hE rfl rfl rfl hg253) (Gives.p hE rfl) rfl ?_; clear hE a; intro a hE
              refine qP hE (Gives.pickF hE rfl hg253 rfl) rfl ?_; clear hE a; intro a hE
              refine QL.nil ?_; clear hS w; intro w hS
              subst hK252
              exact ⟨(q263 == 0), Option.some.inj hq247, hE.pick _ ⟨rfl, rfl, rfl, rfl, rfl, rfl, rfl, rfl, rfl, rfl, rfl, rfl, rfl, rfl, rfl, rfl, trivial⟩, hS⟩
            ·clear hE hS a w; rintro a w ⟨q251, rfl, hE, hS⟩
             refine W.cond hE rfl (fun hc265 => ?_) (fun hc265 => ?_)
             ·replace hq213 := iteT hc265 hq213
              refine W.region ?_
              refine vP hS hE (Gives.loadB hE 6 rfl rfl rfl ty137) rfl ?_; clear hE a; intro a hE
              refine vP hS hE (Gives.p hE rfl) rfl ?_; clear hE a; intro a hE
              obtain ⟨q266, hq267, hq213⟩ := bindS hq213
              replace hS := hS.front 7 rfl
              replace hS := hS.front 7 rfl
              replace hS := hS.front 7 rfl
              replace hS := hS.front 7 rfl
              replace hS := hS.front 7 rfl
              replace hS := hS.front 7 rfl
              replace hS := hS.front 7 rfl
              have hc_ := ih_Fishref2AllOf_1_v1 (y0 := y0) hS h246 h_y0_0 h_y0_1 h223 rfl hq267
              refine WL.fnw hE (hc_) rfl (runs_plain rfl) bd83 rfl rfl rfl ?_
              clear hE hS hc_; rintro e w ⟨a268, c269, n270, cs271, s273, rfl, hle274, h272, rfl, hS⟩; refine ⟨_, rfl, ?_⟩; clear a; intro a hE
              replace h0 := Sl.mono RGuideRide.mono hle274 h0
              replace h246 := Sl.mono RGuideRide.mono hle274 h246
              replace h_y0_0 := Sl.mono RApiTrain.mono hle274 h_y0_0
              replace h_y0_1 := Sl.mono (RL.mono RI.mono) hle274 h_y0_1
              replace h223 := Ev.mono RGuideJourney.mono hle274 h223
              replace h177 := Sl.mono RApiStop.mono hle274 h177
              replace h180 := Sl.mono (RL.mono RI.mono) hle274 h180
              refine WL.nil ?_
              refine W.region ?_
              refine vP hS hE (Gives.p hE rfl) rfl ?_; clear hE a; intro a hE
              refine vP hS hE (Gives.p hE rfl) rfl ?_; clear hE a; intro a hE
              refine vP hS hE (Gives.p hE rfl) rfl ?_; clear hE a; intro a hE
              refine WL.nil ?_
              replace hS := hS.front 6 rfl
              replace hS := hS.front 6 rfl
              replace hS := hS.front 6 rfl
              replace hS := hS.front 6 rfl
              replace hS := hS.front 6 rfl
              replace hS := hS.front 6 rfl
              replace hS := hS.front 6 rfl
              replace hS := hS.front 7 rfl
              subst hK227
              exact ⟨n215, Nat.lt_succ_self _, n215, (w64 (q219 + 1)), q266, a268, c269, q266.length, cs271, s273, rfl, (Sg.Le.trans (Sg.Le.trans hle218 hle245) hle274), hq213, h272, rfl, hE.pick _ ⟨rfl, rfl, rfl, rfl, rfl, rfl, rfl, rfl, rfl, rfl, rfl, rfl, rfl, rfl, trivial⟩, hS⟩
             ·replace hq213 := iteF hc265 hq213
              refine W.skip ?_
              refine W.region ?_
              refine vP hS hE (Gives.p hE rfl) rfl ?_; clear hE a; intro a hE
              refine vP hS hE (Gives.p hE rfl) rfl ?_; clear hE a; intro a hE
              refine vP hS hE (Gives.p hE rfl) rfl ?_; clear hE a; intro a hE
              refine WL.nil ?_
              subst hK227
              exact ⟨n215, Nat.lt_succ_self _, n215, (w64 (q219 + 1)), q220, a221, c222, q220.length, cs225, s244, rfl, (Sg.Le.trans hle218 hle245), hq213, h223, rfl, hE.pick _ ⟨rfl, rfl, rfl, rfl, rfl, rfl, rfl, rfl, rfl, rfl, rfl, rfl, rfl, rfl, trivial⟩, hS⟩
           ·replace hq213 := iteF hc228 hq213
            subst hK227
            refine W.exit rfl ?_
            exact ⟨q219, q220, a221, c222, q220.length, cs225, s217, hle218, Option.some.inj hq213, h223, rfl, hE.pick _ ⟨rfl, rfl, rfl, rfl, rfl, rfl, rfl, rfl, rfl, rfl, rfl, rfl, trivial⟩, hS⟩
          ·clear hE hS a w; rintro a w ⟨q219, q220, a221, c222, n224, cs225, s217, hle218, rfl, h223, rfl, hE, hS⟩
           dsimp only at hq182
           replace h0 := Sl.mono RGuideRide.mono hle218 h0
           replace h_y0_0 := Sl.mono RApiTrain.mono hle218 h_y0_0
           replace h177 := Sl.mono RApiStop.mono hle218 h177
           replace h180 := Sl.mono (RL.mono RI.mono) hle218 h180
           replace h_y0_1 := Sl.mono (RL.mono RI.mono) hle218 h_y0_1
           replace h196 := Ev.mono RGuideJourney.mono hle218 h196
           refine W.region ?_
           refine vP hS hE (Gives.inc hE rfl (by have := h177.small; omega)) rfl ?_; clear hE a; intro a hE
           refine vP hS hE (Gives.p hE rfl) rfl ?_; clear hE a; intro a hE
           refine WL.nil ?_
           subst hK200
           exact ⟨rest186.length, Nat.lt_succ_self _, rest186, k184 + 1, q220, a221, c222, q220.length, cs225, s217, rfl, hd187, (Sg.Le.trans hle192 hle218), hq182, h223, rfl, hE.pick _ ⟨rfl, rfl, rfl, rfl, rfl, rfl, rfl, rfl, rfl, rfl, rfl, rfl, trivial⟩, hS⟩
      ·clear hE hS a w; rintro a w ⟨q193, a194, c195, n197, cs198, s191, hle192, rfl, h196, rfl, hE, hS⟩
       replace h0 := Sl.mono RGuideRide.mono hle192 h0
       replace h_y0_0 := Sl.mono RApiTrain.mono hle192 h_y0_0
       replace h177 := Sl.mono RApiStop.mono hle192 h177
       replace h180 := Sl.mono (RL.mono RI.mono) hle192 h180
       replace h_y0_1 := Sl.mono (RL.mono RI.mono) hle192 h_y0_1
       replace h166 := Ev.mono RGuideJourney.mono hle192 h166
       refine W.region ?_
       refine vP hS hE (Gives.inc hE rfl (by have := h_y0_0.small; omega)) rfl ?_; clear hE a; intro a hE
       refine vP hS hE (Gives.p hE rfl) rfl ?_; clear hE a; intro a hE
       refine WL.nil ?_
       replace hS := hS.tail
       subst hK170
       exact ⟨rest156.length, Nat.lt_succ_self _, rest156, k154 + 1, q193, a194, c195, q193.length, cs198, s191, rfl, hd157, (Sg.Le.trans hle162 hle192), hq152, h196, rfl, hE.pick _ ⟨rfl, rfl, rfl, rfl, rfl, rfl, rfl, rfl, trivial⟩, hS⟩
    ·clear hE hS a w; rintro a w ⟨q163, a164, c165, n167, cs168, s161, hle162, rfl, h166, rfl, hE, hS⟩
     replace h0 := Sl.mono RGuideRide.mono hle162 h0
     replace h_y0_0 := Sl.mono RApiTrain.mono hle162 h_y0_0
     replace h_y0_1 := Sl.mono (RL.mono RI.mono) hle162 h_y0_1
     replace h72 := Ev.mono RGuideJourney.mono hle162 h72
     refine finG (fn := Tryd.f83) (rs := []) (vs := []) hE rfl trivial ?_
     obtain rfl := Option.some.inj hr
     exact ⟨a164, c165, q163.length, cs168, s161, rfl, (Sg.Le.trans hle68 hle162), h166, rfl, hS⟩
set_option maxHeartbeats 8000000 in
theorem Fishref2AllOf_ok {fu : Nat}  {w : World} {s : Sg} {R : List HP} {x0 : ApiDay} {a0_0 : Option Addr} {c0_0 : Nat} {a0_1 : Option Addr} {c0_1 : Nat} {x1 : Int} {x2 : Int} {x3 : Int} (hS : St w s (R)) (h0_0 : Sl 4 RApiTrain s a0_0 c0_0 x0.Trains) (h0_1 : Sl 1 (RL 1 (RI .i64)) s a0_1 c0_1 x0.Turns) {r : (List GuideJourney)} (hr : Fishref2AllOf fu x0 x1 x2 x3 = some r) :
  Calls Tryd.prog 29 [.agg [.slice a0_0 x0.Trains.length c0_0, .slice a0_1 x0.Turns.length c0_1].toArray, .int .i64 x1, .int .i64 x2, .int .i64 x3].toArray w (fun e w => ∃ (a0 : Option Addr) (c0 n0 : Nat) (cs0 : List Value) (t : Sg), e = .returned (.slice a0 n0 c0) ∧ s.Le t ∧ Ev 1 RGuideJourney t cs0 r ∧ r.length = n0 ∧ St w t (vecC 28 1 a0 c0 n0 cs0 :: R)) := by
 refine enter Tryd.func29 rfl rfl rfl fun a hE => ?_
 rw [Fishref2AllOf] at hr
 refine W.seq (W.region ?_)
 refine WL.box hE hS (runs_plain rfl) rfl rfl rfl ?_; clear hE hS a w; intro b51 a w hE hS
 refine WL.box hE hS (runs_plain rfl) rfl rfl rfl ?_; clear hE hS a w; intro b52 a w hE hS
 refine WL.box hE hS (runs_plain rfl) rfl rfl rfl ?_; clear hE hS a w; intro b53 a w hE hS
 refine WL.box hE hS (runs_plain rfl) rfl rfl rfl ?_; clear hE hS a w; intro b54 a w hE hS
 refine vP hS hE (Gives.p hE rfl) rfl ?_; clear hE a; intro a hE
 refine WL.nil ?_
 refine W.seq (W.region ?_)
 refine WL.alloc hE hS (runs_plain rfl) zr39 rfl ?_; clear hE hS a w; intro b55 a w hE hS
 refine WL.nil ?_
 refine W.seq (W.region ?_)
 refine WL.alloc hE hS (runs_plain rfl) zr137 rfl ?_; clear hE hS a w; intro b56 a w hE hS
 refine WL.nil ?_
 refine W.seq (W.region ?_)
 replace hS := hS.vecNil 28 1
 refine vP hS hE (Gives.mkfn hE (vs := [.pointer (some ⟨b51, 0, none⟩), .pointer (some ⟨b53, 0, none⟩), .pointer (some ⟨b55, 0, none⟩), .pointer (some ⟨b52, 0, none⟩), .pointer (some ⟨b54, 0, none⟩), .pointer (some ⟨b56, 0, none⟩)]) rfl) rfl ?_; clear hE a; intro a hE
 refine WL.storeI hE hS 1 rfl [.func (.func 83) #[] #[.pointer (some ⟨b51, 0, none⟩), .pointer (some ⟨b53, 0, none⟩), .pointer (some ⟨b55, 0, none⟩), .pointer (some ⟨b52, 0, none⟩), .pointer (some ⟨b54, 0, none⟩), .pointer (some ⟨b56, 0, none⟩)]] (runs_plain rfl) rfl rfl rfl ty137 rfl rfl rfl rfl ?_; clear hE hS a w; intro a w hE hS
 refine WL.nil ?_
 refine W.seq (W.region ?_)
 refine vP hS hE (Gives.loadB hE 1 rfl rfl rfl ty137) rfl ?_; clear hE a; intro a hE
 obtain ⟨q58, hq59, hr⟩ := bindS hr
 replace hS := hS.front 0 rfl
 replace hS := hS.front 1 rfl
 replace hS := hS.front 3 rfl
 replace hS := hS.front 5 rfl
 replace hS := hS.front 4 rfl
 replace hS := hS.front 5 rfl
 replace hS := hS.front 6 rfl
 have hc_ := Fishref2AllOf_1_v1_ok (y0 := x0) hS Sl.nil h0_0 h0_1 (Ev.nil) (rfl) hq59
 refine WL.fnw hE (hc_) rfl (runs_plain rfl) bd83 rfl rfl rfl ?_
 clear hE hS hc_; rintro e w ⟨a60, c61, n62, cs63, s65, rfl, hle66, h64, rfl, hS⟩; refine ⟨_, rfl, ?_⟩; clear a; intro a hE
 replace h0_0 := Sl.mono RApiTrain.mono hle66 h0_0
 replace h0_1 := Sl.mono (RL.mono RI.mono) hle66 h0_1
 refine WL.nil ?_
 refine W.seq (W.region ?_)
 refine vP hS hE (Gives.loadB hE 2 rfl rfl rfl ty39) rfl ?_; clear hE a; intro a hE
 refine vP hS hE (Gives.p hE rfl) rfl ?_; clear hE a; intro a hE
 refine WL.nil ?_
 refine W.ret ?_
 refine finG (fn := Tryd.f29) (rs := [.tmp 8]) (vs := [_]) hE rfl ⟨rfl, trivial⟩ ?_
 obtain rfl := Option.some.inj hr
 replace hS := hS.tail
 replace hS := hS.tail
 replace hS := hS.tail
 replace hS := hS.tail
 replace hS := hS.tail
 replace hS := hS.tail
 exact ⟨a60, c61, q58.length, cs63, s65, rfl, hle66, h64, rfl, hS⟩
set_option maxHeartbeats 8000000 in
theorem Fishref2Arrives_ok  {w : World} {s : Sg} {R : List HP} {x0 : ApiDay} {a0_0 : Option Addr} {c0_0 : Nat} {a0_1 : Option Addr} {c0_1 : Nat} {x1 : GuideJourney} {a1_0 : Option Addr} {c1_0 : Nat} (hS : St w s (R)) (h0_0 : Sl 4 RApiTrain s a0_0 c0_0 x0.Trains) (_h0_1 : Sl 1 (RL 1 (RI .i64)) s a0_1 c0_1 x0.Turns) (h1_0 : Sl 3 RGuideRide s a1_0 c1_0 x1.Rides) {r : Int} (hr : Fishref2Arrives x0 x1 = some r) :
  Calls Tryd.prog 63 [.agg [.slice a0_0 x0.Trains.length c0_0, .slice a0_1 x0.Turns.length c0_1].toArray, .agg [.slice a1_0 x1.Rides.length c1_0].toArray].toArray w (fun e w => e = .returned (.int .i64 r) ∧ St w s (R)) := by
 refine enter Tryd.func63 rfl rfl rfl fun a hE => ?_
 rw [Fishref2Arrives] at hr
 refine W.seq (W.region ?_)
 refine WL.box hE hS (runs_plain rfl) rfl rfl rfl ?_; clear hE hS a w; intro b51 a w hE hS
 refine WL.box hE hS (runs_plain rfl) rfl rfl rfl ?_; clear hE hS a w; intro b52 a w hE hS
 refine vP hS hE (Gives.p hE rfl) rfl ?_; clear hE a; intro a hE
 refine WL.nil ?_
 refine W.seq (W.region ?_)
 refine vP hS hE (Gives.fld hE rfl fl28_0) rfl ?_; clear hE a; intro a hE
 refine vP hS hE (Gives.loadB hE 0 rfl rfl rfl ty26) rfl ?_; clear hE a; intro a hE
 refine vP hS hE (Gives.fld hE rfl fl28_0) rfl ?_; clear hE a; intro a hE
 refine vP hS hE (Gives.loadB hE 0 rfl rfl rfl ty26) rfl ?_; clear hE a; intro a hE
 refine vP hS hE (Gives.len hE rfl sl26) rfl ?_; clear hE a; intro a hE
 refine vP hS hE (Gives.p hE rfl) rfl ?_; clear hE a; intro a hE
 obtain ⟨x53, hx54, hr⟩ := bindS hr
 obtain ⟨hi55, hlt56, hy57⟩ := gx_some hx54
 obtain ⟨cs58, hl59, hR60, hat61⟩ := h1_0.at hy57
 subst hR60
 refine vP hS hE (Gives.idx hE (w64 (((x1.Rides).length : Int) - 1)).toNat rfl rfl sl26 hi55 hlt56 (h1_0.aok hlt56)) rfl ?_; clear hE a; intro a hE
 refine vP hS hE (Gives.loadA hE rfl (fun w h => hat61 w _ h) ty47) rfl ?_; clear hE a; intro a hE
 refine WL.alloc hE hS (runs_plain rfl) zr47 rfl ?_; clear hE hS a w; intro b62 a w hE hS
 refine WL.storeI hE hS 0 rfl (GuideRide.cells x53) (runs_plain rfl) rfl rfl rfl ty47 rfl rfl rfl rfl ?_; clear hE hS a w; intro a w hE hS
 refine WL.nil ?_
 refine W.seq ?_
 refine W.regionQ (C := fun w => St w s (pt b62 (.cells (GuideRide.cells x53).toArray 47 (0, 0)) :: pt b52 (.cells #[.slice a1_0 x1.Rides.length c1_0] 28 (0, 0)) :: pt b51 (.cells #[.slice a0_0 x0.Trains.length c0_0, .slice a0_1 x0.Turns.length c0_1] 25 (0, 0)) :: R)) mixed (by kernel_rfl) hS.drew ?_
 refine qP hE (Gives.fld hE rfl fl25_0) rfl ?_; clear hE a; intro a hE
 refine qP hE (Gives.loadB hE 2 rfl rfl rfl ty22) rfl ?_; clear hE a; intro a hE
 refine qP hE (Gives.fld hE rfl fl47_0) rfl ?_; clear hE a; intro a hE
 refine qP hE (Gives.loadB hE 0 rfl rfl rfl ty3) rfl ?_; clear hE a; intro a hE
 obtain ⟨x63, hx64, hr⟩ := bindS hr
 obtain ⟨hi65, hlt66, hy67⟩ := gx_some hx64
 obtain ⟨cs68, hl69, hR70, hat71⟩ := h0_0.at hy67
 obtain ⟨a72, c73, a75, c76, rfl, h74, h77⟩ := hR70
 refine qP hE (Gives.idx hE (x53.Train).toNat rfl rfl sl22 hi65 hlt66 (h0_0.aok hlt66)) rfl ?_; clear hE a; intro a hE
 refine qP hE (Gives.fld hE rfl fl44_2) rfl ?_; clear hE a; intro a hE
 refine qP hE (Gives.load1 hE rfl (fun w h => (hat71 w _ h).one rfl) ty42) rfl ?_; clear hE a; intro a hE
 refine qP hE (Gives.fld hE rfl fl47_2) rfl ?_; clear hE a; intro a hE
 refine qP hE (Gives.loadB hE 0 rfl rfl rfl ty3) rfl ?_; clear hE a; intro a hE
 obtain ⟨x78, hx79, hr⟩ := bindS hr
 obtain ⟨hi80, hlt81, hy82⟩ := gx_some hx79
 obtain ⟨cs83, hl84, hR85, hat86⟩ := h74.at hy82
 subst hR85
 refine qP hE (Gives.idx hE (x53.Off).toNat rfl rfl sl42 hi80 hlt81 (h74.aok hlt81)) rfl ?_; clear hE a; intro a hE
 refine qP hE (Gives.fld hE rfl fl106_2) rfl ?_; clear hE a; intro a hE
 refine qP hE (Gives.load1 hE rfl (fun w h => (hat86 w _ h).one rfl) ty3) rfl ?_; clear hE a; intro a hE
 refine qP hE (Gives.p hE rfl) rfl ?_; clear hE a; intro a hE
 refine QL.nil ?_; clear hS w; intro w hS
 refine W.ret ?_
 refine finG (fn := Tryd.f63) (rs := [.tmp 4]) (vs := [_]) hE rfl ⟨rfl, trivial⟩ ?_
 obtain rfl := Option.some.inj hr
 replace hS := hS.tail
 replace hS := hS.tail
 replace hS := hS.tail
 exact ⟨rfl, hS⟩
set_option maxHeartbeats 8000000 in
theorem Fishref2Leaves_ok  {w : World} {s : Sg} {R : List HP} {x0 : ApiDay} {a0_0 : Option Addr} {c0_0 : Nat} {a0_1 : Option Addr} {c0_1 : Nat} {x1 : GuideJourney} {a1_0 : Option Addr} {c1_0 : Nat} (hS : St w s (R)) (h0_0 : Sl 4 RApiTrain s a0_0 c0_0 x0.Trains) (_h0_1 : Sl 1 (RL 1 (RI .i64)) s a0_1 c0_1 x0.Turns) (h1_0 : Sl 3 RGuideRide s a1_0 c1_0 x1.Rides) {r : Int} (hr : Fishref2Leaves x0 x1 = some r) :
  Calls Tryd.prog 60 [.agg [.slice a0_0 x0.Trains.length c0_0, .slice a0_1 x0.Turns.length c0_1].toArray, .agg [.slice a1_0 x1.Rides.length c1_0].toArray].toArray w (fun e w => e = .returned (.int .i64 r) ∧ St w s (R)) := by
 refine enter Tryd.func60 rfl rfl rfl fun a hE => ?_
 rw [Fishref2Leaves] at hr
 refine W.seq (W.region ?_)
 refine WL.box hE hS (runs_plain rfl) rfl rfl rfl ?_; clear hE hS a w; intro b51 a w hE hS
 refine WL.box hE hS (runs_plain rfl) rfl rfl rfl ?_; clear hE hS a w; intro b52 a w hE hS
 refine vP hS hE (Gives.p hE rfl) rfl ?_; clear hE a; intro a hE
 refine WL.nil ?_
 refine W.seq (W.region ?_)
 refine vP hS hE (Gives.fld hE rfl fl28_0) rfl ?_; clear hE a; intro a hE
 refine vP hS hE (Gives.loadB hE 0 rfl rfl rfl ty26) rfl ?_; clear hE a; intro a hE
 obtain ⟨x53, hx54, hr⟩ := bindS hr
 obtain ⟨hi55, hlt56, hy57⟩ := gx_some hx54
 obtain ⟨cs58, hl59, hR60, hat61⟩ := h1_0.at hy57
 subst hR60
 refine vP hS hE (Gives.idx hE ((0 : Int)).toNat rfl rfl sl26 hi55 hlt56 (h1_0.aok hlt56)) rfl ?_; clear hE a; intro a hE
 refine vP hS hE (Gives.loadA hE rfl (fun w h => hat61 w _ h) ty47) rfl ?_; clear hE a; intro a hE
 refine WL.alloc hE hS (runs_plain rfl) zr47 rfl ?_; clear hE hS a w; intro b62 a w hE hS
 refine WL.storeI hE hS 0 rfl (GuideRide.cells x53) (runs_plain rfl) rfl rfl rfl ty47 rfl rfl rfl rfl ?_; clear hE hS a w; intro a w hE hS
 refine WL.nil ?_
 refine W.seq ?_
 refine W.regionQ (C := fun w => St w s (pt b62 (.cells (GuideRide.cells x53).toArray 47 (0, 0)) :: pt b52 (.cells #[.slice a1_0 x1.Rides.length c1_0] 28 (0, 0)) :: pt b51 (.cells #[.slice a0_0 x0.Trains.length c0_0, .slice a0_1 x0.Turns.length c0_1] 25 (0, 0)) :: R)) mixed (by kernel_rfl) hS.drew ?_
 refine qP hE (Gives.fld hE rfl fl25_0) rfl ?_; clear hE a; intro a hE
 refine qP hE (Gives.loadB hE 2 rfl rfl rfl ty22) rfl ?_; clear hE a; intro a hE
 refine qP hE (Gives.fld hE rfl fl47_0) rfl ?_; clear hE a; intro a hE
 refine qP hE (Gives.loadB hE 0 rfl rfl rfl ty3) rfl ?_; clear hE a; intro a hE
 obtain ⟨x63, hx64, hr⟩ := bindS hr
 obtain ⟨hi65, hlt66, hy67⟩ := gx_some hx64
 obtain ⟨cs68, hl69, hR70, hat71⟩ := h0_0.at hy67
 obtain ⟨a72, c73, a75, c76, rfl, h74, h77⟩ := hR70
 refine qP hE (Gives.idx hE (x53.Train).toNat rfl rfl sl22 hi65 hlt66 (h0_0.aok hlt66)) rfl ?_; clear hE a; intro a hE
 refine qP hE (Gives.fld hE rfl fl44_2) rfl ?_; clear hE a; intro a hE
 refine qP hE (Gives.load1 hE rfl (fun w h => (hat71 w _ h).one rfl) ty42) rfl ?_; clear hE a; intro a hE
 refine qP hE (Gives.fld hE rfl fl47_1) rfl ?_; clear hE a; intro a hE
 refine qP hE (Gives.loadB hE 0 rfl rfl rfl ty3) rfl ?_; clear hE a; intro a hE
 obtain ⟨x78, hx79, hr⟩ := bindS hr
 obtain ⟨hi80, hlt81, hy82⟩ := gx_some hx79
 obtain ⟨cs83, hl84, hR85, hat86⟩ := h74.at hy82
 subst hR85
 refine qP hE (Gives.idx hE (x53.On).toNat rfl rfl sl42 hi80 hlt81 (h74.aok hlt81)) rfl ?_; clear hE a; intro a hE
 refine qP hE (Gives.fld hE rfl fl106_3) rfl ?_; clear hE a; intro a hE
 refine qP hE (Gives.load1 hE rfl (fun w h => (hat86 w _ h).one rfl) ty3) rfl ?_; clear hE a; intro a hE
 refine qP hE (Gives.p hE rfl) rfl ?_; clear hE a; intro a hE
 refine QL.nil ?_; clear hS w; intro w hS
 refine W.ret ?_
 refine finG (fn := Tryd.f60) (rs := [.tmp 4]) (vs := [_]) hE rfl ⟨rfl, trivial⟩ ?_
 obtain rfl := Option.some.inj hr
 replace hS := hS.tail
 replace hS := hS.tail
 replace hS := hS.tail
 exact ⟨rfl, hS⟩
set_option maxHeartbeats 8000000 in
theorem Fishref2ReachOf_ok {fu : Nat}  {w : World} {s : Sg} {R : List HP} {x0 : ApiDay} {a0_0 : Option Addr} {c0_0 : Nat} {a0_1 : Option Addr} {c0_1 : Nat} {x1 : Int} {x2 : Int} {x3 : Int} (hS : St w s (R)) (h0_0 : Sl 4 RApiTrain s a0_0 c0_0 x0.Trains) (h0_1 : Sl 1 (RL 1 (RI .i64)) s a0_1 c0_1 x0.Turns) {r : (List Int)} (hr : Fishref2ReachOf fu x0 x1 x2 x3 = some r) :
  Calls Tryd.prog 24 [.agg [.slice a0_0 x0.Trains.length c0_0, .slice a0_1 x0.Turns.length c0_1].toArray, .int .i64 x1, .int .i64 x2, .int .i64 x3].toArray w (fun e w => ∃ (a0 : Option Addr) (c0 n0 : Nat) (cs0 : List Value) (t : Sg), e = .returned (.slice a0 n0 c0) ∧ s.Le t ∧ Ev 1 (RI .i64) t cs0 r ∧ r.length = n0 ∧ St w t (vecC 3 1 a0 c0 n0 cs0 :: R)) := by
 refine enter Tryd.func24 rfl rfl rfl fun a hE => ?_
 rw [Fishref2ReachOf] at hr
 refine W.seq (W.region ?_)
 refine WL.box hE hS (runs_plain rfl) rfl rfl rfl ?_; clear hE hS a w; intro b51 a w hE hS
 refine vP hS hE (Gives.p hE rfl) rfl ?_; clear hE a; intro a hE
 refine WL.nil ?_
 refine W.seq (W.region ?_)
 refine WL.lit hE hS (e := 3) (es := 1) (vs := [(0, .int .i64 (-1))]) (cs := [.int .i64 (-1)]) (runs_plain rfl) rfl (by kernel_rfl) rfl ?_; clear hE hS a w; intro b52 a w hE hS
 replace hS := hS.ptVec (es := 1) (m := 1) rfl (by decide)
 have h54 : Ev 1 (RI .i64) s [.int .i64 (-1)] [(-1)] := (Ev.cons (c1 := [.int .i64 (-1)]) rfl rfl (Ev.nil))
 have hF := hS.fixD RI.mono 0 rfl h54 (rfl); clear hS; obtain ⟨s55, hle56, hS, h57⟩ := hF
 replace h0_0 := Sl.mono RApiTrain.mono hle56 h0_0
 replace h0_1 := Sl.mono (RL.mono RI.mono) hle56 h0_1
 obtain ⟨q58, hq59, hr⟩ := bindS hr
 have hc_ := SlicesRepeatLint_ok hS h57 hq59
 refine WL.fnq hE (hc_) (runs_plain rfl) bd69 rfl rfl rfl ?_
 clear hE hS hc_; rintro e w ⟨a60, c61, n62, cs63, rfl, h64, rfl, hS⟩; refine ⟨_, rfl, ?_⟩; clear a; intro a hE
 refine vP hS hE (Gives.p hE rfl) rfl ?_; clear hE a; intro a hE
 refine WL.nil ?_
 refine W.seq ?_
 refine W.seq (W.region ?_)
 refine vP hS hE (Gives.loadBA hE 1 rfl rfl ty25) rfl ?_; clear hE a; intro a hE
 refine vP hS hE (Gives.p hE rfl) rfl ?_; clear hE a; intro a hE
 refine vP hS hE (Gives.p hE rfl) rfl ?_; clear hE a; intro a hE
 obtain ⟨q66, hq67, hr⟩ := bindS hr
 have hc_ := Fishref2AllOf_ok hS h0_0 h0_1 hq67
 refine WL.fnq hE (hc_) (runs_plain rfl) bd29 rfl rfl rfl ?_
 clear hE hS hc_; rintro e w ⟨a68, c69, n70, cs71, s74, rfl, hle75, h72, rfl, hS⟩; refine ⟨_, rfl, ?_⟩; clear a; intro a hE
 replace h0_0 := Sl.mono RApiTrain.mono hle75 h0_0
 replace h0_1 := Sl.mono (RL.mono RI.mono) hle75 h0_1
 replace h57 := Sl.mono RI.mono hle75 h57
 replace h64 := Ev.mono RI.mono hle75 h64
 refine vP hS hE (Gives.len hE rfl sl39) rfl ?_; clear hE a; intro a hE
 refine vP hS hE (Gives.p hE rfl) rfl ?_; clear hE a; intro a hE
 refine WL.nil ?_
 have hb87 : q66.length ≤ 9223372036854775807 := by have := hS.vecCap 0 rfl; unfold maxLen at this; omega
 obtain ⟨q77, hq76, hr⟩ := bindS hr
 refine W.cut (fun a w => ∃ (q88 : List Int), ∃ (cs92 : List Value), q88 = q77 ∧ Ev 1 (RI .i64) s74 cs92 q88 ∧ q88.length = q58.length ∧ Rep a 79 [(1, .int .i64 x1), (2, .int .i64 x2), (9, .slice a60 q58.length c61)] ∧ St w s74 (vecC 28 1 a68 c69 q66.length cs71 :: vecC 3 1 a60 c61 q58.length cs92 :: pt b51 (.cells #[.slice a0_0 x0.Trains.length c0_0, .slice a0_1 x0.Turns.length c0_1] 25 (0, 0)) :: R)) ?_ ?_
 ·refine W.block ?_
  refine W.loop (fun m a w => ∃ (rest80 : Nat) (k78 : Nat), ∃ (q88 : List Int), ∃ (cs92 : List Value), rest80 = m ∧ k78 + rest80 = q66.length ∧ Fishref2ReachOf.loop1 x0 x2 q66 rest80 k78 q88 = some q77 ∧ Ev 1 (RI .i64) s74 cs92 q88 ∧ q88.length = q58.length ∧ Rep a 79 [(1, .int .i64 x1), (2, .int .i64 x2), (4, .pointer (some ⟨b51, 0, none⟩)), (9, .slice a60 q58.length c61), (20, .slice a68 q66.length c69), (21, .int .i64 ((q66.length : Nat) : Int)), (22, .int .i64 ((k78 : Nat) : Int))] ∧ St w s74 (vecC 28 1 a68 c69 q66.length cs71 :: vecC 3 1 a60 c61 q58.length cs92 :: pt b51 (.cells #[.slice a0_0 x0.Trains.length c0_0, .slice a0_1 x0.Turns.length c0_1] 25 (0, 0)) :: R)) (m := q66.length) ⟨q66.length, 0, q58, cs63, rfl, by omega, hq76, h64, rfl, hE.pick _ ⟨rfl, rfl, rfl, rfl, rfl, rfl, rfl, trivial⟩, hS⟩ ?_
  clear hE hS a w hq76; rintro m84 a w ⟨rest80, k78, q88, cs92, rfl, hd81, hq76, h91, hn93, hE, hS⟩
  refine W.gen fun K94 hK94 => ?_
  rcases rest80 with _ | rest80
  ·skip
   refine W.seq (W.region ?_)
   refine vP hS hE (Gives.p hE rfl) rfl ?_; clear hE a; intro a hE
   refine WL.nil ?_
   refine W.seq ?_
   refine W.condF hE rfl (decide_eq_false (by omega)) ?_
   subst hK94
   refine W.exit rfl ?_
   exact ⟨q88, cs92, Option.some.inj hq76, h91, hn93, hE.pick _ ⟨rfl, rfl, rfl, trivial⟩, hS⟩
  ·have hlt82 : k78 < q66.length := by omega
   rw [Fishref2ReachOf.loop1] at hq76
   refine W.seq (W.region ?_)
   refine vP hS hE (Gives.p hE rfl) rfl ?_; clear hE a; intro a hE
   refine WL.nil ?_
   refine W.seq ?_
   refine W.condT hE rfl (decide_eq_true (by omega)) ?_
   refine W.skip ?_
   refine W.seq ?_
   refine W.block ?_
   refine W.seq (W.region ?_)
   obtain ⟨x95, hx96, hq76⟩ := bindS hq76
   obtain ⟨hi97, hlt98, hy99⟩ := gx_some hx96
   obtain ⟨vs100, hl101, hR102, hd103, hget104⟩ := h72.at hy99
   obtain ⟨a105, c106, rfl, h107⟩ := hR102
   refine vP hS hE (Gives.idx hE ((((k78 : Nat) : Int)).toNat) rfl rfl sl39 hi97 (by omega) (hS.vecAok 0 rfl (by omega : (((k78 : Nat) : Int)).toNat < q66.length))) rfl ?_; clear hE a; intro a hE
   refine vP hS hE (Gives.loadA hE rfl (fun w h => St.vecSees h 0 rfl ((((k78 : Nat) : Int)).toNat * 1) _ hget104) ty28) rfl ?_; clear hE a; intro a hE
   refine WL.alloc hE hS (runs_plain rfl) zr28 rfl ?_; clear hE hS a w; intro b108 a w hE hS
   refine WL.storeI hE hS 0 rfl [.slice a105 x95.Rides.length c106] (runs_plain rfl) rfl rfl rfl ty28 rfl rfl rfl rfl ?_; clear hE hS a w; intro a w hE hS
   refine WL.nil ?_
   refine W.seq (W.region ?_)
   refine vP hS hE (Gives.fld hE rfl fl28_0) rfl ?_; clear hE a; intro a hE
   refine vP hS hE (Gives.loadB hE 0 rfl rfl rfl ty26) rfl ?_; clear hE a; intro a hE
   refine vP hS hE (Gives.fld hE rfl fl28_0) rfl ?_; clear hE a; intro a hE
   refine vP hS hE (Gives.loadB hE 0 rfl rfl rfl ty26) rfl ?_; clear hE a; intro a hE
   refine vP hS hE (Gives.len hE rfl sl26) rfl ?_; clear hE a; intro a hE
   refine vP hS hE (Gives.p hE rfl) rfl ?_; clear hE a; intro a hE
   obtain ⟨x109, hx110, hq76⟩ := bindS hq76
   obtain ⟨hi111, hlt112, hy113⟩ := gx_some hx110
   obtain ⟨cs114, hl115, hR116, hat117⟩ := h107.at hy113
   subst hR116
   refine vP hS hE (Gives.idx hE (w64 (((x95.Rides).length : Int) - 1)).toNat rfl rfl sl26 hi111 hlt112 (h107.aok hlt112)) rfl ?_; clear hE a; intro a hE
   refine vP hS hE (Gives.loadA hE rfl (fun w h => hat117 w _ h) ty47) rfl ?_; clear hE a; intro a hE
   refine WL.alloc hE hS (runs_plain rfl) zr47 rfl ?_; clear hE hS a w; intro b118 a w hE hS
   refine WL.storeI hE hS 0 rfl (GuideRide.cells x109) (runs_plain rfl) rfl rfl rfl ty47 rfl rfl rfl rfl ?_; clear hE hS a w; intro a w hE hS
   refine WL.nil ?_
   refine W.seq ?_
   refine W.regionQ (C := fun w => St w s74 (pt b118 (.cells (GuideRide.cells x109).toArray 47 (0, 0)) :: pt b108 (.cells #[.slice a105 x95.Rides.length c106] 28 (0, 0)) :: vecC 28 1 a68 c69 q66.length cs71 :: vecC 3 1 a60 c61 q58.length cs92 :: pt b51 (.cells #[.slice a0_0 x0.Trains.length c0_0, .slice a0_1 x0.Turns.length c0_1] 25 (0, 0)) :: R)) mixed (by kernel_rfl) hS.drew ?_
   refine qP hE (Gives.fld hE rfl fl25_0) rfl ?_; clear hE a; intro a hE
   refine qP hE (Gives.loadB hE 4 rfl rfl rfl ty22) rfl ?_; clear hE a; intro a hE
   refine qP hE (Gives.fld hE rfl fl47_0) rfl ?_; clear hE a; intro a hE
   refine qP hE (Gives.loadB hE 0 rfl rfl rfl ty3) rfl ?_; clear hE a; intro a hE
   obtain ⟨x119, hx120, hq76⟩ := bindS hq76
   obtain ⟨hi121, hlt122, hy123⟩ := gx_some hx120
   obtain ⟨cs124, hl125, hR126, hat127⟩ := h0_0.at hy123
   obtain ⟨a128, c129, a131, c132, rfl, h130, h133⟩ := hR126
   refine qP hE (Gives.idx hE (x109.Train).toNat rfl rfl sl22 hi121 hlt122 (h0_0.aok hlt122)) rfl ?_; clear hE a; intro a hE
   refine qP hE (Gives.fld hE rfl fl44_2) rfl ?_; clear hE a; intro a hE
   refine qP hE (Gives.load1 hE rfl (fun w h => (hat127 w _ h).one rfl) ty42) rfl ?_; clear hE a; intro a hE
   refine qP hE (Gives.fld hE rfl fl47_2) rfl ?_; clear hE a; intro a hE
   refine qP hE (Gives.loadB hE 0 rfl rfl rfl ty3) rfl ?_; clear hE a; intro a hE
   obtain ⟨x134, hx135, hq76⟩ := bindS hq76
   obtain ⟨hi136, hlt137, hy138⟩ := gx_some hx135
   obtain ⟨cs139, hl140, hR141, hat142⟩ := h130.at hy138
   subst hR141
   refine qP hE (Gives.idx hE (x109.Off).toNat rfl rfl sl42 hi136 hlt137 (h130.aok hlt137)) rfl ?_; clear hE a; intro a hE
   refine qP hE (Gives.fld hE rfl fl106_0) rfl ?_; clear hE a; intro a hE
   refine qP hE (Gives.load1 hE rfl (fun w h => (hat142 w _ h).one rfl) ty3) rfl ?_; clear hE a; intro a hE
   refine qP hE (Gives.p hE rfl) rfl ?_; clear hE a; intro a hE
   refine QL.nil ?_; clear hS w; intro w hS
   refine W.seq (W.region ?_)
   refine vP hS hE (Gives.loadBA hE 4 rfl rfl ty25) rfl ?_; clear hE a; intro a hE
   refine vP hS hE (Gives.loadBA hE 1 rfl rfl ty28) rfl ?_; clear hE a; intro a hE
   obtain ⟨q143, hq144, hq76⟩ := bindS hq76
   have hc_ := Fishref2Arrives_ok hS h0_0 h0_1 h107 hq144
   refine WL.fnq hE (hc_) (runs_plain rfl) bd63 rfl rfl rfl ?_
   clear hE hS hc_; rintro e w ⟨rfl, hS⟩; refine ⟨_, rfl, ?_⟩; clear a; intro a hE
   refine vP hS hE (Gives.p hE rfl) rfl ?_; clear hE a; intro a hE
   refine WL.nil ?_
   refine W.seq ?_
   obtain ⟨q146, hq145, hq76⟩ := bindS hq76
   refine W.cut (fun a w => ∃ (q149 : Bool), q149 = q146 ∧ Rep a 79 [(1, .int .i64 x1), (2, .int .i64 x2), (4, .pointer (some ⟨b51, 0, none⟩)), (9, .slice a60 q58.length c61), (13, .int .i64 x134.Station), (14, .int .i64 q143), (20, .slice a68 q66.length c69), (21, .int .i64 ((q66.length : Nat) : Int)), (22, .int .i64 ((k78 : Nat) : Int)), (68, .bool q149)] ∧ St w s74 (pt b118 (.cells (GuideRide.cells x109).toArray 47 (0, 0)) :: pt b108 (.cells #[.slice a105 x95.Rides.length c106] 28 (0, 0)) :: vecC 28 1 a68 c69 q66.length cs71 :: vecC 3 1 a60 c61 q58.length cs92 :: pt b51 (.cells #[.slice a0_0 x0.Trains.length c0_0, .slice a0_1 x0.Turns.length c0_1] 25 (0, 0)) :: R)) ?_ ?_
   ·refine W.gen fun K150 hK150 => ?_
    refine W.region ?_
    refine vP hS hE (Gives.loadBA hE 4 rfl rfl ty25) rfl ?_; clear hE a; intro a hE
    refine vP hS hE (Gives.loadBA hE 1 rfl rfl ty28) rfl ?_; clear hE a; intro a hE
    obtain ⟨q151, hq152, hq145⟩ := bindS hq145
    have hc_ := Fishref2Leaves_ok hS h0_0 h0_1 h107 hq152
    refine WL.fnq hE (hc_) (runs_plain rfl) bd60 rfl rfl rfl ?_
    clear hE hS hc_; rintro e w ⟨rfl, hS⟩; refine ⟨_, rfl, ?_⟩; clear a; intro a hE
    refine vP hS hE (Gives.p hE rfl) rfl ?_; clear hE a; intro a hE
    refine vP hS hE (Gives.p hE rfl) rfl ?_; clear hE a; intro a hE
    refine vP hS hE (Gives.p hE rfl) rfl ?_; clear hE a; intro a hE
    rcases Bool.eq_false_or_eq_true (decide (q151 ≥ x2)) with hg153 | hg153
    ·replace hq145 := iteT hg153 hq145
     refine WL.vS hS hE (runs_if hE rfl rfl rfl hg153) (Gives.p hE rfl) rfl ?_; clear hE a; intro a hE
     refine WL.vS hS hE (runs_if hE rfl rfl rfl hg153) (Gives.p hE rfl) rfl ?_; clear hE a; intro a hE
     obtain ⟨x154, hx155, hq145⟩ := bindS hq145
     obtain ⟨hi156, hlt157, hy158⟩ := gx_some hx155
     obtain ⟨vs159, hl160, hR161, hd162, hget163⟩ := h91.at hy158
     subst hR161
     refine WL.vS hS hE (runs_if hE rfl rfl rfl hg153) (Gives.idx hE ((x134.Station).toNat) rfl rfl sl45 hi156 (by have := hn93; omega) (hS.vecAok 3 rfl (by have := hn93; omega : (x134.Station).toNat < q58.length))) rfl ?_; clear hE a; intro a hE
     refine WL.vS hS hE (runs_if hE rfl rfl rfl hg153) (Gives.load1 hE rfl (fun w h => St.vecSees h 3 rfl ((x134.Station).toNat * 1) _ hget163) ty3) rfl ?_; clear hE a; intro a hE
     refine WL.vS hS hE (runs_if hE rfl rfl rfl hg153) (Gives.p hE rfl) rfl ?_; clear hE a; intro a hE
     refine WL.vS hS hE (runs_if hE rfl rfl rfl hg153) (Gives.p hE rfl) rfl ?_; clear hE a; intro a hE
     rcases Bool.eq_false_or_eq_true (decide (x154 < 0)) with hg164 | hg164
     ·replace hq145 := iteT hg164 hq145
      refine WL.no hE (runs_not hE rfl rfl rfl (by rw [hg164]; decide)) rfl ?_; clear hE a; intro a hE
      refine WL.no hE (runs_not hE rfl rfl rfl (by rw [hg164]; decide)) rfl ?_; clear hE a; intro a hE
      refine WL.no hE (runs_not hE rfl rfl rfl (by rw [hg164]; decide)) rfl ?_; clear hE a; intro a hE
      refine WL.no hE (runs_not hE rfl rfl rfl (by rw [hg164]; decide)) rfl ?_; clear hE a; intro a hE
      refine WL.no hE (runs_not hE rfl rfl rfl (by rw [hg164]; decide)) rfl ?_; clear hE a; intro a hE
      refine WL.no hE (runs_not hE rfl rfl rfl (by rw [hg164]; decide)) rfl ?_; clear hE a; intro a hE
      refine WL.vS hS hE (runs_if hE rfl rfl rfl hg153) (Gives.pickT hE rfl hg164 rfl) rfl ?_; clear hE a; intro a hE
      refine vP hS hE (Gives.pickT hE rfl hg153 rfl) rfl ?_; clear hE a; intro a hE
      refine WL.nil ?_
      subst hK150
      exact ⟨true, Option.some.inj hq145, hE.pick _ ⟨rfl, rfl, rfl, rfl, rfl, rfl, rfl, rfl, rfl, rfl, trivial⟩, hS⟩
     ·replace hq145 := iteF hg164 hq145
      refine WL.vS hS hE (runs_if hE rfl rfl rfl hg164) (Gives.p hE rfl) rfl ?_; clear hE a; intro a hE
      refine WL.vS hS hE (runs_if hE rfl rfl rfl hg164) (Gives.p hE rfl) rfl ?_; clear hE a; intro a hE
      refine WL.vS hS hE (runs_if hE rfl rfl rfl hg164) (Gives.p hE rfl) rfl ?_; clear hE a; intro a hE
      obtain ⟨x165, hx166, hq145⟩ := bindS hq145
      obtain ⟨hi167, hlt168, hy169⟩ := gx_some hx166
      obtain ⟨vs170, hl171, hR172, hd173, hget174⟩ := h91.at hy169
      subst hR172
      refine WL.vS hS hE (runs_if hE rfl rfl rfl hg164) (Gives.idx hE ((x134.Station).toNat) rfl rfl sl45 hi167 (by have := hn93; omega) (hS.vecAok 3 rfl (by have := hn93; omega : (x134.Station).toNat < q58.length))) rfl ?_; clear hE a; intro a hE
      refine WL.vS hS hE (runs_if hE rfl rfl rfl hg164) (Gives.load1 hE rfl (fun w h => St.vecSees h 3 rfl ((x134.Station).toNat * 1) _ hget174) ty3) rfl ?_; clear hE a; intro a hE
      refine WL.vS hS hE (runs_if hE rfl rfl rfl hg164) (Gives.p hE rfl) rfl ?_; clear hE a; intro a hE
      refine WL.vS hS hE (runs_if hE rfl rfl rfl hg153) (Gives.pickF hE rfl hg164 rfl) rfl ?_; clear hE a; intro a hE
      refine vP hS hE (Gives.pickT hE rfl hg153 rfl) rfl ?_; clear hE a; intro a hE
      refine WL.nil ?_
      subst hK150
      exact ⟨decide (q143 < x165), Option.some.inj hq145, hE.pick _ ⟨rfl, rfl, rfl, rfl, rfl, rfl, rfl, rfl, rfl, rfl, trivial⟩, hS⟩
    ·replace hq145 := iteF hg153 hq145
     refine WL.no hE (runs_not hE rfl rfl rfl (by rw [hg153]; decide)) rfl ?_; clear hE a; intro a hE
     refine WL.no hE (runs_not hE rfl rfl rfl (by rw [hg153]; decide)) rfl ?_; clear hE a; intro a hE
     refine WL.no hE (runs_not hE rfl rfl rfl (by rw [hg153]; decide)) rfl ?_; clear hE a; intro a hE
     refine WL.no hE (runs_not hE rfl rfl rfl (by rw [hg153]; decide)) rfl ?_; clear hE a; intro a hE
     refine WL.no hE (runs_not hE rfl rfl rfl (by rw [hg153]; decide)) rfl ?_; clear hE a; intro a hE
     refine WL.no hE (runs_not hE rfl rfl rfl (by rw [hg153]; decide)) rfl ?_; clear hE a; intro a hE
     refine WL.no hE (runs_undef hE rfl rfl rfl) rfl ?_; clear hE a; intro a hE
     refine WL.no hE (runs_undef hE rfl rfl rfl) rfl ?_; clear hE a; intro a hE
     refine WL.no hE (runs_undef hE rfl rfl rfl) rfl ?_; clear hE a; intro a hE
     refine WL.no hE (runs_undef hE rfl rfl rfl) rfl ?_; clear hE a; intro a hE
     refine WL.no hE (runs_undef hE rfl rfl rfl) rfl ?_; clear hE a; intro a hE
     refine WL.no hE (runs_undef hE rfl rfl rfl) rfl ?_; clear hE a; intro a hE
     refine WL.no hE (runs_not hE rfl rfl rfl (by rw [hg153]; decide)) rfl ?_; clear hE a; intro a hE
     refine vP hS hE (Gives.pickF hE rfl hg153 rfl) rfl ?_; clear hE a; intro a hE
     refine WL.nil ?_
     subst hK150
     exact ⟨false, Option.some.inj hq145, hE.pick _ ⟨rfl, rfl, rfl, rfl, rfl, rfl, rfl, rfl, rfl, rfl, trivial⟩, hS⟩
   ·clear hE hS a w; rintro a w ⟨q149, rfl, hE, hS⟩
    obtain ⟨q176, hq175, hq76⟩ := bindS hq76
    refine W.cut (fun a w => ∃ (q179 : List Int), ∃ (cs183 : List Value), q179 = q176 ∧ Ev 1 (RI .i64) s74 cs183 q179 ∧ q179.length = q58.length ∧ Rep a 79 [(1, .int .i64 x1), (2, .int .i64 x2), (4, .pointer (some ⟨b51, 0, none⟩)), (9, .slice a60 q58.length c61), (20, .slice a68 q66.length c69), (21, .int .i64 ((q66.length : Nat) : Int)), (22, .int .i64 ((k78 : Nat) : Int))] ∧ St w s74 (pt b118 (.cells (GuideRide.cells x109).toArray 47 (0, 0)) :: pt b108 (.cells #[.slice a105 x95.Rides.length c106] 28 (0, 0)) :: vecC 28 1 a68 c69 q66.length cs71 :: vecC 3 1 a60 c61 q58.length cs183 :: pt b51 (.cells #[.slice a0_0 x0.Trains.length c0_0, .slice a0_1 x0.Turns.length c0_1] 25 (0, 0)) :: R)) ?_ ?_
    ·refine W.gen fun K185 hK185 => ?_
     refine W.cond hE rfl (fun hc186 => ?_) (fun hc186 => ?_)
     ·replace hq175 := iteT hc186 hq175
      refine W.region ?_
      refine vP hS hE (Gives.p hE rfl) rfl ?_; clear hE a; intro a hE
      refine vP hS hE (Gives.p hE rfl) rfl ?_; clear hE a; intro a hE
      refine vP hS hE (Gives.p hE rfl) rfl ?_; clear hE a; intro a hE
      obtain ⟨_, hx188, hq175⟩ := bindS hq175
      obtain ⟨h189, h190⟩ := ix_some hx188
      refine vP hS hE (Gives.idx hE ((x134.Station).toNat) rfl rfl sl45 h189 (by have := hn93; omega) (hS.vecAok 3 rfl (by have := hn93; omega : (x134.Station).toNat < q58.length))) rfl ?_; clear hE a; intro a hE
      obtain ⟨x192, hx193, hq175⟩ := bindS hq175
      refine WL.setD hE hS 3 rfl (runs_plain rfl) rfl rfl (vs := [.int .i64 q143]) rfl ty3 rfl rfl rfl h91 hn93 (sx_some hx193).1 hx193 rfl rfl ?_; clear hE hS a w; intro cs194 a w h195 hn196 hE hS
      refine WL.nil ?_
      subst hK185
      exact ⟨x192, cs194, Option.some.inj hq175, h195, hn196, hE.pick _ ⟨rfl, rfl, rfl, rfl, rfl, rfl, rfl, trivial⟩, hS⟩
     ·replace hq175 := iteF hc186 hq175
      refine W.skip ?_
      subst hK185
      exact ⟨q88, cs92, Option.some.inj hq175, h91, hn93, hE.pick _ ⟨rfl, rfl, rfl, rfl, rfl, rfl, rfl, trivial⟩, hS⟩
    ·clear hE hS a w; rintro a w ⟨q179, cs183, rfl, h182, hn184, hE, hS⟩
     refine W.region ?_
     refine vP hS hE (Gives.inc hE rfl (by omega)) rfl ?_; clear hE a; intro a hE
     refine vP hS hE (Gives.p hE rfl) rfl ?_; clear hE a; intro a hE
     refine WL.nil ?_
     replace hS := hS.tail
     replace hS := hS.tail
     subst hK94
     exact ⟨rest80, Nat.lt_succ_self _, rest80, k78 + 1, q179, cs183, rfl, (by omega), hq76, h182, hn184, hE.pick _ ⟨rfl, rfl, rfl, rfl, rfl, rfl, rfl, trivial⟩, hS⟩
 ·clear hE hS a w; rintro a w ⟨q88, cs92, rfl, h91, hn93, hE, hS⟩
  refine W.seq (W.region ?_)
  refine vP hS hE (Gives.p hE rfl) rfl ?_; clear hE a; intro a hE
  refine vP hS hE (Gives.p hE rfl) rfl ?_; clear hE a; intro a hE
  refine vP hS hE (Gives.p hE rfl) rfl ?_; clear hE a; intro a hE
  obtain ⟨_, hx198, hr⟩ := bindS hr
  obtain ⟨h199, h200⟩ := ix_some hx198
  refine vP hS hE (Gives.idx hE ((x1).toNat) rfl rfl sl45 h199 (by have := hn93; omega) (hS.vecAok 1 rfl (by have := hn93; omega : (x1).toNat < q58.length))) rfl ?_; clear hE a; intro a hE
  obtain ⟨x202, hx203, hr⟩ := bindS hr
  refine WL.setD hE hS 1 rfl (runs_plain rfl) rfl rfl (vs := [.int .i64 x2]) rfl ty3 rfl rfl rfl h91 hn93 (sx_some hx203).1 hx203 rfl rfl ?_; clear hE hS a w; intro cs204 a w h205 hn206 hE hS
  refine WL.nil ?_
  refine W.seq (W.region ?_)
  refine vP hS hE (Gives.p hE rfl) rfl ?_; clear hE a; intro a hE
  refine vP hS hE (Gives.p hE rfl) rfl ?_; clear hE a; intro a hE
  refine WL.nil ?_
  refine W.ret ?_
  refine finG (fn := Tryd.f24) (rs := [.tmp 8]) (vs := [_]) hE rfl ⟨rfl, trivial⟩ ?_
  obtain rfl := Option.some.inj hr
  replace hS := hS.tail
  replace hS := hS.dropAt 1
  exact ⟨a60, c61, q58.length, cs204, s74, rfl, (Sg.Le.trans hle56 hle75), h205, hn206, hS⟩
set_option maxHeartbeats 8000000 in
theorem SlicesEqualLint_ok  {w : World} {s : Sg} {R : List HP} {x0 : List Int} {a0 : Option Addr} {c0 : Nat} {x1 : List Int} {a1 : Option Addr} {c1 : Nat} (hS : St w s (R)) (h0 : Sl 1 (RI .i64) s a0 c0 x0) (h1 : Sl 1 (RI .i64) s a1 c1 x1) {r : Bool} (hr : SlicesEqualLint x0 x1 = some r) :
  Calls Tryd.prog 23 [.slice a0 x0.length c0, .slice a1 x1.length c1].toArray w (fun e w => e = .returned (.bool r) ∧ St w s (R)) := by
 refine enter Tryd.func23 rfl rfl rfl fun a hE => ?_
 rw [SlicesEqualLint] at hr
 refine W.seq (W.region ?_)
 refine vP hS hE (Gives.p hE rfl) rfl ?_; clear hE a; intro a hE
 refine WL.nil ?_
 refine W.seq ?_
 refine W.seq (W.region ?_)
 refine vP hS hE (Gives.p hE rfl) rfl ?_; clear hE a; intro a hE
 refine vP hS hE (Gives.len hE rfl sl45) rfl ?_; clear hE a; intro a hE
 refine vP hS hE (Gives.p hE rfl) rfl ?_; clear hE a; intro a hE
 refine vP hS hE (Gives.len hE rfl sl45) rfl ?_; clear hE a; intro a hE
 refine vP hS hE (Gives.p hE rfl) rfl ?_; clear hE a; intro a hE
 refine WL.nil ?_
 refine W.cond hE rfl (fun hc51 => ?_) (fun hc51 => ?_)
 ·replace hr := iteT hc51 hr
  refine W.seq (W.region ?_)
  refine vP hS hE (Gives.p hE rfl) rfl ?_; clear hE a; intro a hE
  refine WL.nil ?_
  refine W.ret ?_
  refine finG (fn := Tryd.f23) (rs := [.tmp 4]) (vs := [_]) hE rfl ⟨rfl, trivial⟩ ?_
  obtain rfl := Option.some.inj hr
  exact ⟨rfl, hS⟩
 ·replace hr := iteF hc51 hr
  refine W.skip ?_
  refine W.seq ?_
  refine W.seq (W.region ?_)
  refine vP hS hE (Gives.p hE rfl) rfl ?_; clear hE a; intro a hE
  refine vP hS hE (Gives.len hE rfl sl45) rfl ?_; clear hE a; intro a hE
  refine vP hS hE (Gives.p hE rfl) rfl ?_; clear hE a; intro a hE
  refine WL.nil ?_
  obtain ⟨q53, hq52, hr⟩ := bindS hr
  refine W.cut (fun a w => (.next ()) = q53 ∧ Rep a 26 [] ∧ St w s (R)) ?_ ?_
  ·refine W.block ?_
   refine W.loop (fun m a w => ∃ (rest56 : List Int) (k54 : Nat), rest56.length = m ∧ x0.drop k54 = rest56 ∧ SlicesEqualLint.loop1 x1 rest56 k54 = some q53 ∧ Rep a 26 [(0, .slice a0 x0.length c0), (1, .slice a1 x1.length c1), (12, .int .i64 ((x0).length : Int)), (13, .int .i64 ((k54 : Nat) : Int))] ∧ St w s (R)) (m := x0.length) ⟨x0, 0, rfl, rfl, hq52, hE.pick _ ⟨rfl, rfl, rfl, rfl, trivial⟩, hS⟩ ?_
   clear hE hS a w hq52; rintro m60 a w ⟨rest56, k54, rfl, hd57, hq52, hE, hS⟩
   refine W.gen fun K63 hK63 => ?_
   rcases rest56 with _ | ⟨x55, rest56⟩
   ·have hlt58 := drop_nil hd57
    refine W.seq (W.region ?_)
    refine vP hS hE (Gives.p hE rfl) rfl ?_; clear hE a; intro a hE
    refine WL.nil ?_
    refine W.seq ?_
    refine W.condF hE rfl (decide_eq_false (by omega)) ?_
    subst hK63
    refine W.exit rfl ?_
    exact ⟨Option.some.inj hq52, hE.pick _ trivial, hS⟩
   ·obtain ⟨hlt58, hx59, hd57⟩ := drop_cons hd57
    rw [SlicesEqualLint.loop1] at hq52
    refine W.seq (W.region ?_)
    refine vP hS hE (Gives.p hE rfl) rfl ?_; clear hE a; intro a hE
    refine WL.nil ?_
    refine W.seq ?_
    refine W.condT hE rfl (decide_eq_true (by omega)) ?_
    refine W.skip ?_
    refine W.seq ?_
    refine W.block ?_
    refine W.seq (W.region ?_)
    refine vP hS hE (Gives.p hE rfl) rfl ?_; clear hE a; intro a hE
    refine vP hS hE (Gives.p hE rfl) rfl ?_; clear hE a; intro a hE
    refine WL.nil ?_
    refine W.seq ?_
    refine W.regionQ (C := fun w => St w s (R)) mixed (by kernel_rfl) hS.drew ?_
    refine qP hE (Gives.p hE rfl) rfl ?_; clear hE a; intro a hE
    refine qP hE (Gives.p hE rfl) rfl ?_; clear hE a; intro a hE
    obtain ⟨cs64, hl65, hR66, hat67⟩ := h0.at hx59
    subst hR66
    refine qP hE (Gives.idx hE k54 rfl rfl sl45 rfl hlt58 (h0.aok hlt58)) rfl ?_; clear hE a; intro a hE
    refine qP hE (Gives.load1 hE rfl (fun w h => hat67 w _ h) ty3) rfl ?_; clear hE a; intro a hE
    refine qP hE (Gives.p hE rfl) rfl ?_; clear hE a; intro a hE
    refine qP hE (Gives.p hE rfl) rfl ?_; clear hE a; intro a hE
    obtain ⟨x68, hx69, hq52⟩ := bindS hq52
    obtain ⟨hi70, hlt71, hy72⟩ := gx_some hx69
    obtain ⟨cs73, hl74, hR75, hat76⟩ := h1.at hy72
    subst hR75
    refine qP hE (Gives.idx hE (((k54 : Nat) : Int)).toNat rfl rfl sl45 hi70 hlt71 (h1.aok hlt71)) rfl ?_; clear hE a; intro a hE
    refine qP hE (Gives.load1 hE rfl (fun w h => hat76 w _ h) ty3) rfl ?_; clear hE a; intro a hE
    refine qP hE (Gives.p hE rfl) rfl ?_; clear hE a; intro a hE
    refine QL.nil ?_; clear hS w; intro w hS
    refine W.cond hE rfl (fun hc77 => ?_) (fun hc77 => ?_)
    ·replace hq52 := iteT hc77 hq52
     refine W.seq (W.region ?_)
     refine vP hS hE (Gives.p hE rfl) rfl ?_; clear hE a; intro a hE
     refine WL.nil ?_
     refine W.ret ?_
     subst hK63
     rw [← Option.some.inj hq52] at hr
     dsimp only at hr
     refine finG (fn := Tryd.f23) (rs := [.tmp 4]) (vs := [_]) hE rfl ⟨rfl, trivial⟩ ?_
     obtain rfl := Option.some.inj hr
     exact ⟨rfl, hS⟩
    ·replace hq52 := iteF hc77 hq52
     refine W.skip ?_
     refine W.region ?_
     refine vP hS hE (Gives.inc hE rfl (by have := h0.small; omega)) rfl ?_; clear hE a; intro a hE
     refine vP hS hE (Gives.p hE rfl) rfl ?_; clear hE a; intro a hE
     refine WL.nil ?_
     subst hK63
     exact ⟨rest56.length, Nat.lt_succ_self _, rest56, k54 + 1, rfl, hd57, hq52, hE.pick _ ⟨rfl, rfl, rfl, rfl, trivial⟩, hS⟩
  ·clear hE hS a w; rintro a w ⟨rfl, hE, hS⟩
   dsimp only at hr
   refine W.seq (W.region ?_)
   refine vP hS hE (Gives.p hE rfl) rfl ?_; clear hE a; intro a hE
   refine WL.nil ?_
   refine W.ret ?_
   refine finG (fn := Tryd.f23) (rs := [.tmp 4]) (vs := [_]) hE rfl ⟨rfl, trivial⟩ ?_
   obtain rfl := Option.some.inj hr
   exact ⟨rfl, hS⟩
set_option maxHeartbeats 8000000 in
theorem Fishlaw2GuideReaches_ok {fu : Nat}  {w : World} {s : Sg} {R : List HP} {x0 : ApiDay} {a0_0 : Option Addr} {c0_0 : Nat} {a0_1 : Option Addr} {c0_1 : Nat} {x1 : Int} {x2 : Int} {x3 : Int} (hS : St w s (R)) (hTab : TabS Tryd.prog s) (h0_0 : Sl 4 RApiTrain s a0_0 c0_0 x0.Trains) (h0_1 : Sl 1 (RL 1 (RI .i64)) s a0_1 c0_1 x0.Turns) {r : Bool} (hr : Fishlaw2GuideReaches fu x0 x1 x2 x3 = some r) :
  Calls Tryd.prog 6 [.agg [.slice a0_0 x0.Trains.length c0_0, .slice a0_1 x0.Turns.length c0_1].toArray, .int .i64 x1, .int .i64 x2, .int .i64 x3].toArray w (fun e w => e = .returned (.bool r) ∧ St w s (R)) := by
 refine enter Tryd.func6 rfl rfl rfl fun a hE => ?_
 rw [Fishlaw2GuideReaches] at hr
 refine W.seq (W.region ?_)
 refine WL.box hE hS (runs_plain rfl) rfl rfl rfl ?_; clear hE hS a w; intro b51 a w hE hS
 refine vP hS hE (Gives.p hE rfl) rfl ?_; clear hE a; intro a hE
 refine WL.nil ?_
 refine W.seq (W.region ?_)
 refine vP hS hE (Gives.loadBA hE 0 rfl rfl ty25) rfl ?_; clear hE a; intro a hE
 refine vP hS hE (Gives.p hE rfl) rfl ?_; clear hE a; intro a hE
 refine vP hS hE (Gives.p hE rfl) rfl ?_; clear hE a; intro a hE
 refine vP hS hE (Gives.p hE rfl) rfl ?_; clear hE a; intro a hE
 obtain ⟨q52, hq53, hr⟩ := bindS hr
 have hc_ := GuideReach_ok hS (TabS.mono (Sg.Le.refl _) hTab) h0_0 h0_1 hq53
 refine WL.fnq hE (hc_) (runs_plain rfl) bd21 rfl rfl rfl ?_
 clear hE hS hc_; rintro e w ⟨a54, c55, n56, cs57, s60, rfl, hle61, h58, rfl, hS⟩; refine ⟨_, rfl, ?_⟩; clear a; intro a hE
 replace h0_0 := Sl.mono RApiTrain.mono hle61 h0_0
 replace h0_1 := Sl.mono (RL.mono RI.mono) hle61 h0_1
 refine vP hS hE (Gives.p hE rfl) rfl ?_; clear hE a; intro a hE
 refine vP hS hE (Gives.p hE rfl) rfl ?_; clear hE a; intro a hE
 refine vP hS hE (Gives.p hE rfl) rfl ?_; clear hE a; intro a hE
 refine vP hS hE (Gives.p hE rfl) rfl ?_; clear hE a; intro a hE
 refine vP hS hE (Gives.p hE rfl) rfl ?_; clear hE a; intro a hE
 refine WL.nil ?_
 refine W.seq (W.region ?_)
 refine vP hS hE (Gives.loadBA hE 1 rfl rfl ty25) rfl ?_; clear hE a; intro a hE
 obtain ⟨q62, hq63, hr⟩ := bindS hr
 have hc_ := Fishref2GuideFault_ok hS h0_0 h0_1 hq63
 refine WL.fnq hE (hc_) (runs_plain rfl) bd12 rfl rfl rfl ?_
 clear hE hS hc_; rintro e w ⟨rfl, hS⟩; refine ⟨_, rfl, ?_⟩; clear a; intro a hE
 refine vP hS hE (Gives.p hE rfl) rfl ?_; clear hE a; intro a hE
 refine WL.nil ?_
 refine W.seq ?_
 refine W.seq (W.region ?_)
 refine vP hS hE (Gives.p hE rfl) rfl ?_; clear hE a; intro a hE
 refine vP hS hE (Gives.p hE rfl) rfl ?_; clear hE a; intro a hE
 refine WL.nil ?_
 obtain ⟨q65, hq64, hr⟩ := bndS hr
 refine W.cut (fun a w => ∃ (q68 : Int), q68 = q65 ∧ Rep a 55 [(1, .int .i64 x1), (2, .int .i64 x2), (3, .int .i64 x3), (4, .pointer (some ⟨b51, 0, none⟩)), (9, .slice a54 q52.1.length c55), (10, .int .i64 q52.2), (11, .int .i64 q68)] ∧ St w s60 (vecC 3 1 a54 c55 q52.1.length cs57 :: pt b51 (.cells #[.slice a0_0 x0.Trains.length c0_0, .slice a0_1 x0.Turns.length c0_1] 25 (0, 0)) :: R)) ?_ ?_
 ·refine W.gen fun K69 hK69 => ?_
  refine W.cond hE rfl (fun hc70 => ?_) (fun hc70 => ?_)
  ·replace hq64 := iteT hc70 hq64
   refine W.region ?_
   refine vP hS hE (Gives.p hE rfl) rfl ?_; clear hE a; intro a hE
   refine vP hS hE (Gives.p hE rfl) rfl ?_; clear hE a; intro a hE
   refine vP hS hE (Gives.p hE rfl) rfl ?_; clear hE a; intro a hE
   refine WL.fnq hE (Fishref2SearchFault_ok hS  rfl (r := Fishref2SearchFault x3 x1 0 x2 false true)) (runs_plain rfl) bd22 rfl rfl rfl ?_
   clear hE hS; rintro e w ⟨rfl, hS⟩; refine ⟨_, rfl, ?_⟩; clear a; intro a hE
   refine vP hS hE (Gives.p hE rfl) rfl ?_; clear hE a; intro a hE
   refine WL.nil ?_
   subst hK69
   exact ⟨(Fishref2SearchFault x3 x1 0 x2 false true), hq64, hE.pick _ ⟨rfl, rfl, rfl, rfl, rfl, rfl, rfl, trivial⟩, hS⟩
  ·replace hq64 := iteF hc70 hq64
   refine W.skip ?_
   subst hK69
   exact ⟨q62, hq64, hE.pick _ ⟨rfl, rfl, rfl, rfl, rfl, rfl, rfl, trivial⟩, hS⟩
 ·clear hE hS a w; rintro a w ⟨q68, rfl, hE, hS⟩
  refine W.seq ?_
  refine W.seq (W.region ?_)
  refine vP hS hE (Gives.p hE rfl) rfl ?_; clear hE a; intro a hE
  refine vP hS hE (Gives.p hE rfl) rfl ?_; clear hE a; intro a hE
  refine WL.nil ?_
  refine W.cond hE rfl (fun hc71 => ?_) (fun hc71 => ?_)
  ·replace hr := iteT hc71 hr
   refine W.seq ?_
   obtain ⟨q73, hq72, hr⟩ := bindS hr
   refine W.cut (fun a w => ∃ (q76 : Bool), q76 = q73 ∧ Rep a 55 [(8, .bool q76)] ∧ St w s60 (pt b51 (.cells #[.slice a0_0 x0.Trains.length c0_0, .slice a0_1 x0.Turns.length c0_1] 25 (0, 0)) :: R)) ?_ ?_
   ·refine W.gen fun K77 hK77 => ?_
    refine W.region ?_
    obtain ⟨q78, hq79, hq72⟩ := bindS hq72
    have hc_ := Fishlaw2guides_ok hS (TabS.mono hle61 hTab) hq79
    refine WL.fnq hE (hc_) (runs_plain rfl) bd13 rfl rfl rfl ?_
    clear hE hS hc_; rintro e w ⟨rfl, hS⟩; refine ⟨_, rfl, ?_⟩; clear a; intro a hE
    refine vP hS hE (Gives.p hE rfl) rfl ?_; clear hE a; intro a hE
    rcases Bool.eq_false_or_eq_true q78 with hg80 | hg80
    ·replace hq72 := iteT hg80 hq72
     refine WL.vS hS hE (runs_if hE rfl rfl rfl hg80) (Gives.p hE rfl) rfl ?_; clear hE a; intro a hE
     refine WL.vS hS hE (runs_if hE rfl rfl rfl hg80) (Gives.p hE rfl) rfl ?_; clear hE a; intro a hE
     refine WL.vS hS hE (runs_if hE rfl rfl rfl hg80) (Gives.p hE rfl) rfl ?_; clear hE a; intro a hE
     refine vP hS hE (Gives.pickT hE rfl hg80 rfl) rfl ?_; clear hE a; intro a hE
     refine vP hS hE (Gives.p hE rfl) rfl ?_; clear hE a; intro a hE
     rcases Bool.eq_false_or_eq_true (q52.2 == q68) with hg81 | hg81
     ·replace hq72 := iteT hg81 hq72
      refine WL.vS hS hE (runs_if hE rfl rfl rfl hg81) (Gives.p hE rfl) rfl ?_; clear hE a; intro a hE
      refine WL.vS hS hE (runs_if hE rfl rfl rfl hg81) (Gives.len hE rfl sl45) rfl ?_; clear hE a; intro a hE
      refine WL.vS hS hE (runs_if hE rfl rfl rfl hg81) (Gives.p hE rfl) rfl ?_; clear hE a; intro a hE
      refine vP hS hE (Gives.pickT hE rfl hg81 rfl) rfl ?_; clear hE a; intro a hE
      refine vP hS hE (Gives.p hE rfl) rfl ?_; clear hE a; intro a hE
      refine WL.nil ?_
      replace hS := hS.tail
      subst hK77
      exact ⟨(((q52.1.length : Nat) : Int) == 0), Option.some.inj hq72, hE.pick _ ⟨rfl, trivial⟩, hS⟩
     ·replace hq72 := iteF hg81 hq72
      refine WL.no hE (runs_not hE rfl rfl rfl (by rw [hg81]; decide)) rfl ?_; clear hE a; intro a hE
      refine WL.no hE (runs_not hE rfl rfl rfl (by rw [hg81]; decide)) rfl ?_; clear hE a; intro a hE
      refine WL.no hE (runs_not hE rfl rfl rfl (by rw [hg81]; decide)) rfl ?_; clear hE a; intro a hE
      refine vP hS hE (Gives.pickF hE rfl hg81 rfl) rfl ?_; clear hE a; intro a hE
      refine vP hS hE (Gives.p hE rfl) rfl ?_; clear hE a; intro a hE
      refine WL.nil ?_
      replace hS := hS.tail
      subst hK77
      exact ⟨false, Option.some.inj hq72, hE.pick _ ⟨rfl, trivial⟩, hS⟩
    ·replace hq72 := iteF hg80 hq72
     refine WL.no hE (runs_not hE rfl rfl rfl (by rw [hg80]; decide)) rfl ?_; clear hE a; intro a hE
     refine WL.no hE (runs_not hE rfl rfl rfl (by rw [hg80]; decide)) rfl ?_; clear hE a; intro a hE
     refine WL.no hE (runs_not hE rfl rfl rfl (by rw [hg80]; decide)) rfl ?_; clear hE a; intro a hE
     refine vP hS hE (Gives.pickF hE rfl hg80 rfl) rfl ?_; clear hE a; intro a hE
     refine vP hS hE (Gives.p hE rfl) rfl ?_; clear hE a; intro a hE
     refine WL.no hE (runs_not hE rfl rfl rfl (by decide)) rfl ?_; clear hE a; intro a hE
     refine WL.no hE (runs_not hE rfl rfl rfl (by decide)) rfl ?_; clear hE a; intro a hE
     refine WL.no hE (runs_not hE rfl rfl rfl (by decide)) rfl ?_; clear hE a; intro a hE
     refine vP hS hE (Gives.pickF hE rfl rfl rfl) rfl ?_; clear hE a; intro a hE
     refine vP hS hE (Gives.p hE rfl) rfl ?_; clear hE a; intro a hE
     refine WL.nil ?_
     replace hS := hS.tail
     subst hK77
     exact ⟨false, Option.some.inj hq72, hE.pick _ ⟨rfl, trivial⟩, hS⟩
   ·clear hE hS a w; rintro a w ⟨q76, rfl, hE, hS⟩
    refine W.ret ?_
    refine finG (fn := Tryd.f6) (rs := [.tmp 8]) (vs := [_]) hE rfl ⟨rfl, trivial⟩ ?_
    obtain rfl := Option.some.inj hr
    replace hS := hS.tail
    exact ⟨rfl, (hS.down hle61)⟩
  ·replace hr := iteF hc71 hr
   refine W.skip ?_
   refine W.seq ?_
   obtain ⟨q83, hq82, hr⟩ := bindS hr
   refine W.cut (fun a w => ∃ (q86 : Bool), ∃ (s84 : Sg), s60.Le s84 ∧ q86 = q83 ∧ Rep a 55 [(8, .bool q86)] ∧ St w s84 (pt b51 (.cells #[.slice a0_0 x0.Trains.length c0_0, .slice a0_1 x0.Turns.length c0_1] 25 (0, 0)) :: R)) ?_ ?_
   ·refine W.gen fun K87 hK87 => ?_
    refine W.region ?_
    obtain ⟨q88, hq89, hq82⟩ := bindS hq82
    have hc_ := Fishlaw2guides_ok hS (TabS.mono hle61 hTab) hq89
    refine WL.fnq hE (hc_) (runs_plain rfl) bd13 rfl rfl rfl ?_
    clear hE hS hc_; rintro e w ⟨rfl, hS⟩; refine ⟨_, rfl, ?_⟩; clear a; intro a hE
    refine vP hS hE (Gives.p hE rfl) rfl ?_; clear hE a; intro a hE
    rcases Bool.eq_false_or_eq_true q88 with hg90 | hg90
    ·replace hq82 := iteT hg90 hq82
     refine WL.vS hS hE (runs_if hE rfl rfl rfl hg90) (Gives.p hE rfl) rfl ?_; clear hE a; intro a hE
     refine WL.vS hS hE (runs_if hE rfl rfl rfl hg90) (Gives.p hE rfl) rfl ?_; clear hE a; intro a hE
     refine vP hS hE (Gives.pickT hE rfl hg90 rfl) rfl ?_; clear hE a; intro a hE
     refine vP hS hE (Gives.p hE rfl) rfl ?_; clear hE a; intro a hE
     rcases Bool.eq_false_or_eq_true (q52.2 == 0) with hg91 | hg91
     ·replace hq82 := iteT hg91 hq82
      refine WL.vS hS hE (runs_if hE rfl rfl rfl hg91) (Gives.p hE rfl) rfl ?_; clear hE a; intro a hE
      refine WL.vS hS hE (runs_if hE rfl rfl rfl hg91) (Gives.loadBA hE 1 rfl rfl ty25) rfl ?_; clear hE a; intro a hE
      refine WL.vS hS hE (runs_if hE rfl rfl rfl hg91) (Gives.p hE rfl) rfl ?_; clear hE a; intro a hE
      refine WL.vS hS hE (runs_if hE rfl rfl rfl hg91) (Gives.p hE rfl) rfl ?_; clear hE a; intro a hE
      refine WL.vS hS hE (runs_if hE rfl rfl rfl hg91) (Gives.p hE rfl) rfl ?_; clear hE a; intro a hE
      obtain ⟨q92, hq93, hq82⟩ := bindS hq82
      have hc_ := Fishref2ReachOf_ok hS h0_0 h0_1 hq93
      refine WL.fnq hE (hc_) (runs_if hE rfl rfl rfl hg91) bd24 rfl rfl rfl ?_
      clear hE hS hc_; rintro e w ⟨a94, c95, n96, cs97, s100, rfl, hle101, h98, rfl, hS⟩; refine ⟨_, rfl, ?_⟩; clear a; intro a hE
      replace h0_0 := Sl.mono RApiTrain.mono hle101 h0_0
      replace h0_1 := Sl.mono (RL.mono RI.mono) hle101 h0_1
      replace h58 := Ev.mono RI.mono hle101 h58
      obtain ⟨q102, hq103, hq82⟩ := bindS hq82
      have hF := hS.lendV RI.mono 1 rfl h58 rfl; clear hS; obtain ⟨t104, hle105, hS, hs106, bk107⟩ := hF
      have hF := hS.lendV RI.mono 0 rfl (Ev.mono RI.mono hle105 h98) rfl; clear hS; obtain ⟨t108, hle109, hS, hs110, bk111⟩ := hF
      have hc_ := SlicesEqualLint_ok hS (Sl.mono RI.mono hle109 hs106) hs110 hq103
      refine WL.fnq hE (hc_) (runs_if hE rfl rfl rfl hg91) bd23 rfl rfl rfl ?_
      clear hE hS hc_; rintro e w ⟨rfl, hS⟩; refine ⟨_, rfl, ?_⟩; clear a; intro a hE
      replace hS := bk111 _ _ hS
      replace hS := bk107 _ _ hS
      refine vP hS hE (Gives.pickT hE rfl hg91 rfl) rfl ?_; clear hE a; intro a hE
      refine vP hS hE (Gives.p hE rfl) rfl ?_; clear hE a; intro a hE
      refine WL.nil ?_
      replace hS := hS.tail
      replace hS := hS.tail
      subst hK87
      exact ⟨q102, s100, hle101, Option.some.inj hq82, hE.pick _ ⟨rfl, trivial⟩, hS⟩
     ·replace hq82 := iteF hg91 hq82
      refine WL.no hE (runs_not hE rfl rfl rfl (by rw [hg91]; decide)) rfl ?_; clear hE a; intro a hE
      refine WL.no hE (runs_not hE rfl rfl rfl (by rw [hg91]; decide)) rfl ?_; clear hE a; intro a hE
      refine WL.no hE (runs_not hE rfl rfl rfl (by rw [hg91]; decide)) rfl ?_; clear hE a; intro a hE
      refine WL.no hE (runs_not hE rfl rfl rfl (by rw [hg91]; decide)) rfl ?_; clear hE a; intro a hE
      refine WL.no hE (runs_not hE rfl rfl rfl (by rw [hg91]; decide)) rfl ?_; clear hE a; intro a hE
      refine WL.no hE (runs_not hE rfl rfl rfl (by rw [hg91]; decide)) rfl ?_; clear hE a; intro a hE
      refine WL.no hE (runs_not hE rfl rfl rfl (by rw [hg91]; decide)) rfl ?_; clear hE a; intro a hE
      refine vP hS hE (Gives.pickF hE rfl hg91 rfl) rfl ?_; clear hE a; intro a hE
      refine vP hS hE (Gives.p hE rfl) rfl ?_; clear hE a; intro a hE
      refine WL.nil ?_
      replace hS := hS.tail
      subst hK87
      exact ⟨false, s60, (Sg.Le.refl _), Option.some.inj hq82, hE.pick _ ⟨rfl, trivial⟩, hS⟩
    ·replace hq82 := iteF hg90 hq82
     refine WL.no hE (runs_not hE rfl rfl rfl (by rw [hg90]; decide)) rfl ?_; clear hE a; intro a hE
     refine WL.no hE (runs_not hE rfl rfl rfl (by rw [hg90]; decide)) rfl ?_; clear hE a; intro a hE
     refine vP hS hE (Gives.pickF hE rfl hg90 rfl) rfl ?_; clear hE a; intro a hE
     refine vP hS hE (Gives.p hE rfl) rfl ?_; clear hE a; intro a hE
     refine WL.no hE (runs_not hE rfl rfl rfl (by decide)) rfl ?_; clear hE a; intro a hE
     refine WL.no hE (runs_not hE rfl rfl rfl (by decide)) rfl ?_; clear hE a; intro a hE
     refine WL.no hE (runs_not hE rfl rfl rfl (by decide)) rfl ?_; clear hE a; intro a hE
     refine WL.no hE (runs_not hE rfl rfl rfl (by decide)) rfl ?_; clear hE a; intro a hE
     refine WL.no hE (runs_not hE rfl rfl rfl (by decide)) rfl ?_; clear hE a; intro a hE
     refine WL.no hE (runs_not hE rfl rfl rfl (by decide)) rfl ?_; clear hE a; intro a hE
     refine WL.no hE (runs_not hE rfl rfl rfl (by decide)) rfl ?_; clear hE a; intro a hE
     refine vP hS hE (Gives.pickF hE rfl rfl rfl) rfl ?_; clear hE a; intro a hE
     refine vP hS hE (Gives.p hE rfl) rfl ?_; clear hE a; intro a hE
     refine WL.nil ?_
     replace hS := hS.tail
     subst hK87
     exact ⟨false, s60, (Sg.Le.refl _), Option.some.inj hq82, hE.pick _ ⟨rfl, trivial⟩, hS⟩
   ·clear hE hS a w; rintro a w ⟨q86, s84, hle85, rfl, hE, hS⟩
    replace h0_0 := Sl.mono RApiTrain.mono hle85 h0_0
    replace h0_1 := Sl.mono (RL.mono RI.mono) hle85 h0_1
    refine W.ret ?_
    refine finG (fn := Tryd.f6) (rs := [.tmp 8]) (vs := [_]) hE rfl ⟨rfl, trivial⟩ ?_
    obtain rfl := Option.some.inj hr
    replace hS := hS.tail
    exact ⟨rfl, (hS.down (Sg.Le.trans hle61 hle85))⟩
end Go.Proofs.YtpcebngchmgckaaDoor
