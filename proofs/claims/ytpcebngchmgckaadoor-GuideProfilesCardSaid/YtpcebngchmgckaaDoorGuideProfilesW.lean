/- The walks of the functions that GuideProfiles reaches: each call comes to what its mirror says. The conditions are those of each contract. -/
import Derived.Test.YtpcebngchmgckaaDoorProg
import Derived.Test.YtpcebngchmgckaaDoorFpTight
import Derived.Test.YtpcebngchmgckaaDoorGuideProfilesM
import Derived.Test.YtpcebngchmgckaaDoorFpAllX
import Derived.Test.YtpcebngchmgckaaDoorGuideProfilesS
import Derived.Test.YtpcebngchmgckaaDoorFpMapS
import Derived.Test.YtpcebngchmgckaaDoorFpFld
import Derived.Test.YtpcebngchmgckaaDoorFpMapG
import Derived.Test.YtpcebngchmgckaaDoorFpMapV
import Derived.Test.YtpcebngchmgckaaDoorFpMaps
import Derived.Test.YtpcebngchmgckaaDoorFpOrd
import Derived.Test.YtpcebngchmgckaaDoorFpRf
import Derived.Test.YtpcebngchmgckaaDoorFpRng
import Derived.Test.YtpcebngchmgckaaDoorGuideProfilesW3
set_option maxRecDepth 10000
namespace Go.Proofs.YtpcebngchmgckaaDoor
open Go Go.Fp
set_option maxHeartbeats 8000000 in
theorem Fishref2AllOf_1_v1_ok : ∀ {fu : Nat} {w : World} {s : Sg} {R : List HP} {pb0 : Nat} {pb1 : Nat} {pb2 : Nat} {pb3 : Nat} {pb4 : Nat} {pb5 : Nat} {x0 : List GuideRide} {a0 : Option Addr} {c0 : Nat} {y0 : ApiDay} {a_y0_0 : Option Addr} {c_y0_0 : Nat} {a_y0_1 : Option Addr} {c_y0_1 : Nat} {y1 : Int} {y2 : List GuideJourney} {a_v0 : Option Addr} {c_v0 n_v0 : Nat} {cs_v0 : List Value} {y3 : Int} {y4 : Int} (_hS : St w s (pc pb0 #[.slice a_y0_0 y0.Trains.length c_y0_0, .slice a_y0_1 y0.Turns.length c_y0_1] 25 :: pc pb1 #[vi y1] 3 :: pc pb2 #[.slice a_v0 n_v0 c_v0] 39 :: pc pb3 #[vi y3] 3 :: pc pb4 #[vi y4] 3 :: pc pb5 #[.func (.func 83) #[] #[pp pb0, pp pb1, pp pb2, pp pb3, pp pb4, pp pb5]] 137 :: vecC 28 1 a_v0 c_v0 n_v0 cs_v0 :: R)) (_h0 : Sl 3 RGuideRide s a0 c0 x0) (_h_y0_0 : Sl 4 RApiTrain s a_y0_0 c_y0_0 y0.Trains) (_h_y0_1 : Sl 1 (RL 1 (RI .i64)) s a_y0_1 c_y0_1 y0.Turns) (_h_v0 : Ev 1 RGuideJourney s cs_v0 y2) (_hn_v0 : y2.length = n_v0) {r : (List GuideJourney)} (_hr : Fishref2AllOf_1_v1 fu x0 y0 y1 y2 y3 y4 = some r),
  Calls Tryd.prog 83 [.slice a0 x0.length c0, pp pb0, pp pb1, pp pb2, pp pb3, pp pb4, pp pb5].toArray w (fun e w => ∃ (a59 : Option Addr) (c60 : Nat) (n62 : Nat) (cs63 : List Value) (t : Sg), e = .returned (.tuple #[]) ∧ s.Le t ∧ Ev 1 RGuideJourney t cs63 r ∧ r.length = n62 ∧ St w t (pc pb0 #[.slice a_y0_0 y0.Trains.length c_y0_0, .slice a_y0_1 y0.Turns.length c_y0_1] 25 :: pc pb1 #[vi y1] 3 :: pc pb2 #[.slice a59 n62 c60] 39 :: pc pb3 #[vi y3] 3 :: pc pb4 #[vi y4] 3 :: pc pb5 #[.func (.func 83) #[] #[pp pb0, pp pb1, pp pb2, pp pb3, pp pb4, pp pb5]] 137 :: vecC 28 1 a59 c60 n62 cs63 :: R)) := by
 intro fu
 induction fu with
 | zero => intro w s R pb0 pb1 pb2 pb3 pb4 pb5 x0 a0 c0 y0 a_y0_0 c_y0_0 a_y0_1 c_y0_1 y1 y2 a_v0 c_v0 n_v0 cs_v0 y3 y4 hS h0 h_y0_0 h_y0_1 h_v0 hn_v0 r hr; rw [Fishref2AllOf_1_v1] at hr; exact absurd hr (by simp)
 | succ fu ih_Fishref2AllOf_1_v1 =>
  intro w s R pb0 pb1 pb2 pb3 pb4 pb5 x0 a0 c0 y0 a_y0_0 c_y0_0 a_y0_1 c_y0_1 y1 y2 a_v0 c_v0 n_v0 cs_v0 y3 y4 hS h0 h_y0_0 h_y0_1 h_v0 hn_v0 r hr
  rw [Fishref2AllOf_1_v1] at hr
  generalize Fishref2AllOf_1_v1 fu = self_Fishref2AllOf_1_v1 at hr ih_Fishref2AllOf_1_v1
  refine enter Tryd.func83 rfl rfl rfl fun a hE => ?_
  subst hn_v0
  refine W.seq ?_
  refine W.seq (W.region (vp hS hE rfl rfl fun a hE => ?_))
  refine vP hS hE (Gives.len hE rfl sl26) rfl fun a hE => ?_
  refine vp hS hE rfl rfl fun a hE => WL.nil ?_
  obtain ⟨q66, hq65, hr⟩ := bindS hr
  refine W.cut (fun a w => ∃ (q69 : List GuideJourney), ∃ (a70 : Option Addr), ∃ (c71 : Nat), ∃ (n73 : Nat), ∃ (cs74 : List Value), ∃ (s67 : Sg), s.Le s67 ∧ q69 = q66 ∧ Ev 1 RGuideJourney s67 cs74 q69 ∧ q69.length = n73 ∧ Rep a 116 [(0, .slice a0 x0.length c0), (1, pp pb0), (4, pp pb3), (5, pp pb4), (6, pp pb5)] ∧ St w s67 (pc pb0 #[.slice a_y0_0 y0.Trains.length c_y0_0, .slice a_y0_1 y0.Turns.length c_y0_1] 25 :: pc pb1 #[vi y1] 3 :: pc pb2 #[.slice a70 n73 c71] 39 :: pc pb3 #[vi y3] 3 :: pc pb4 #[vi y4] 3 :: pc pb5 #[.func (.func 83) #[] #[pp pb0, pp pb1, pp pb2, pp pb3, pp pb4, pp pb5]] 137 :: vecC 28 1 a70 c71 n73 cs74 :: R)) ?_ ?_
  ·refine W.gen fun K76 hK76 => ?_
   refine W.cond hE rfl (fun hc77 => ?_) (fun hc77 => ?_)
   ·replace hq65 := iteT hc77 hq65
    refine W.seq (W.region (v2 hS hE rfl rfl rfl rfl fun a hE => ?_))
    refine vP hS hE (Gives.len hE rfl sl26) rfl fun a hE => ?_
    refine vp hS hE rfl rfl fun a hE => ?_
    obtain ⟨x78, hx79, hq65⟩ := bindS hq65
    obtain ⟨hi80, hlt81, hy82⟩ := gx_some hx79
    obtain ⟨cs83, hl84, hR85, hat86⟩ := h0.at hy82
    subst hR85
    refine vP hS hE (Gives.idx hE (w64 (((x0).length : Int) - 1)).toNat rfl rfl sl26 hi80 hlt81 (h0.aok hlt81)) rfl fun a hE => ?_
    refine vP hS hE (Gives.loadA hE rfl (fun w h => hat86 w _ h) ty47) rfl fun a hE => ?_
    refine WL.alloc hE hS (runs_plain rfl) zr47 rfl ?_; clear hE hS a w; intro b87 a w hE hS
    refine WL.storeI hE hS 0 rfl (GuideRide.cells x78) (runs_plain rfl) rfl rfl rfl ty47 rfl rfl rfl rfl ?_; clear hE hS a w; intro a w hE hS
    refine WL.nil ?_
    refine W.seq ?_
    refine W.regionQ (C := fun w => St w s (pc b87 (GuideRide.cells x78).toArray 47 :: pc pb0 #[.slice a_y0_0 y0.Trains.length c_y0_0, .slice a_y0_1 y0.Turns.length c_y0_1] 25 :: pc pb1 #[vi y1] 3 :: pc pb2 #[.slice a_v0 y2.length c_v0] 39 :: pc pb3 #[vi y3] 3 :: pc pb4 #[vi y4] 3 :: pc pb5 #[.func (.func 83) #[] #[pp pb0, pp pb1, pp pb2, pp pb3, pp pb4, pp pb5]] 137 :: vecC 28 1 a_v0 c_v0 y2.length cs_v0 :: R)) mixed (by kernel_rfl) hS.drew ?_
    refine qP hE (Gives.fld hE rfl fl25_0) rfl fun a hE => ?_
    refine qP hE (Gives.loadB hE 1 rfl rfl rfl ty22) rfl fun a hE => ?_
    refine qP hE (Gives.fld hE rfl fl47_0) rfl fun a hE => ?_
    refine qP hE (Gives.loadB hE 0 rfl rfl rfl ty3) rfl fun a hE => ?_
    obtain ⟨x88, hx89, hq65⟩ := bindS hq65
    obtain ⟨hi90, hlt91, hy92⟩ := gx_some hx89
    obtain ⟨cs93, hl94, hR95, hat96⟩ := h_y0_0.at hy92
    obtain ⟨a97, c98, a100, c101, rfl, h99, h102⟩ := hR95
    refine qP hE (Gives.idx hE (x78.Train).toNat rfl rfl sl22 hi90 hlt91 (h_y0_0.aok hlt91)) rfl fun a hE => ?_
    refine qP hE (Gives.fld hE rfl fl44_2) rfl fun a hE => ?_
    refine qP hE (Gives.load1 hE rfl (fun w h => (hat96 w _ h).one rfl) ty42) rfl fun a hE => ?_
    refine qP hE (Gives.fld hE rfl fl47_2) rfl fun a hE => ?_
    refine qP hE (Gives.loadB hE 0 rfl rfl rfl ty3) rfl fun a hE => ?_
    obtain ⟨x103, hx104, hq65⟩ := bindS hq65
    obtain ⟨hi105, hlt106, hy107⟩ := gx_some hx104
    obtain ⟨cs108, hl109, hR110, hat111⟩ := h99.at hy107
    subst hR110
    refine qP hE (Gives.idx hE (x78.Off).toNat rfl rfl sl42 hi105 hlt106 (h99.aok hlt106)) rfl fun a hE => ?_
    refine qP hE (Gives.fld hE rfl fl106_0) rfl fun a hE => ?_
    refine qP hE (Gives.load1 hE rfl (fun w h => (hat111 w _ h).one rfl) ty3) rfl fun a hE => ?_
    refine qP hE (Gives.p hE rfl) rfl fun a hE => ?_
    refine QL.nil ?_; clear hS w; intro w hS
    refine W.seq ?_
    obtain ⟨q113, hq112, hq65⟩ := bndS hq65
    refine W.cut (fun a w => ∃ (q116 : Bool), q116 = q113 ∧ Rep a 116 [(0, .slice a0 x0.length c0), (1, pp pb0), (3, pp pb2), (4, pp pb3), (5, pp pb4), (6, pp pb5), (42, .bool q116)] ∧ St w s (pc b87 (GuideRide.cells x78).toArray 47 :: pc pb0 #[.slice a_y0_0 y0.Trains.length c_y0_0, .slice a_y0_1 y0.Turns.length c_y0_1] 25 :: pc pb1 #[vi y1] 3 :: pc pb2 #[.slice a_v0 y2.length c_v0] 39 :: pc pb3 #[vi y3] 3 :: pc pb4 #[vi y4] 3 :: pc pb5 #[.func (.func 83) #[] #[pp pb0, pp pb1, pp pb2, pp pb3, pp pb4, pp pb5]] 137 :: vecC 28 1 a_v0 c_v0 y2.length cs_v0 :: R)) ?_ ?_
    ·refine W.gen fun K117 hK117 => ?_
     refine W.region ?_
     refine vP hS hE (Gives.loadB hE 2 rfl rfl rfl ty3) rfl fun a hE => ?_
     refine v2 hS hE rfl rfl rfl rfl fun a hE => ?_
     rcases Bool.eq_false_or_eq_true (decide (y1 < 0)) with hg118 | hg118
     ·replace hq112 := iteT hg118 hq112
      refine nO hE rfl rfl rfl (by rw [hg118]; decide) rfl fun a hE => ?_
      refine nO hE rfl rfl rfl (by rw [hg118]; decide) rfl fun a hE => ?_
      refine nO hE rfl rfl rfl (by rw [hg118]; decide) rfl fun a hE => ?_
      refine vP hS hE (Gives.pickT hE rfl hg118 rfl) rfl fun a hE => WL.nil ?_
      subst hK117
      exact ⟨true, hq112, hE.pick _ ⟨rfl, rfl, rfl, rfl, rfl, rfl, rfl, trivial⟩, hS⟩
     replace hq112 := iteF hg118 hq112
     refine WL.vS hS hE (runs_if hE rfl rfl rfl hg118) (Gives.p hE rfl) rfl fun a hE => ?_
     refine WL.vS hS hE (runs_if hE rfl rfl rfl hg118) (Gives.loadB hE 2 rfl rfl rfl ty3) rfl fun a hE => ?_
     refine WL.vS hS hE (runs_if hE rfl rfl rfl hg118) (Gives.p hE rfl) rfl fun a hE => ?_
     refine vP hS hE (Gives.pickF hE rfl hg118 rfl) rfl fun a hE => WL.nil ?_
     subst hK117
     exact ⟨(x103.Station == y1), hq112, hE.pick _ ⟨rfl, rfl, rfl, rfl, rfl, rfl, rfl, trivial⟩, hS⟩
    clear hE hS a w; rintro a w ⟨q116, rfl, hE, hS⟩
    obtain ⟨q120, hq119, hq65⟩ := bindS hq65
    refine W.cut (fun a w => ∃ (q123 : List GuideJourney), ∃ (a124 : Option Addr), ∃ (c125 : Nat), ∃ (n127 : Nat), ∃ (cs128 : List Value), ∃ (s121 : Sg), s.Le s121 ∧ q123 = q120 ∧ Ev 1 RGuideJourney s121 cs128 q123 ∧ q123.length = n127 ∧ Rep a 116 [(0, .slice a0 x0.length c0), (1, pp pb0), (4, pp pb3), (5, pp pb4), (6, pp pb5)] ∧ St w s121 (pc b87 (GuideRide.cells x78).toArray 47 :: pc pb0 #[.slice a_y0_0 y0.Trains.length c_y0_0, .slice a_y0_1 y0.Turns.length c_y0_1] 25 :: pc pb1 #[vi y1] 3 :: pc pb2 #[.slice a124 n127 c125] 39 :: pc pb3 #[vi y3] 3 :: pc pb4 #[vi y4] 3 :: pc pb5 #[.func (.func 83) #[] #[pp pb0, pp pb1, pp pb2, pp pb3, pp pb4, pp pb5]] 137 :: vecC 28 1 a124 c125 n127 cs128 :: R)) ?_ ?_
    ·refine W.gen fun K130 hK130 => ?_
     refine W.cond hE rfl (fun hc131 => ?_) (fun hc131 => ?_)
     ·replace hq119 := iteT hc131 hq119
      refine W.gen fun K132 hK132 => ?_
      refine W.regionE (sel (fun w => St w s (pc b87 (GuideRide.cells x78).toArray 47 :: pc pb0 #[.slice a_y0_0 y0.Trains.length c_y0_0, .slice a_y0_1 y0.Turns.length c_y0_1] 25 :: pc pb1 #[vi y1] 3 :: pc pb2 #[.slice a_v0 y2.length c_v0] 39 :: pc pb3 #[vi y3] 3 :: pc pb4 #[vi y4] 3 :: pc pb5 #[.func (.func 83) #[] #[pp pb0, pp pb1, pp pb2, pp pb3, pp pb4, pp pb5]] 137 :: vecC 28 1 a_v0 c_v0 y2.length cs_v0 :: R)) (fun w => St w s (pc b87 (GuideRide.cells x78).toArray 47 :: pc pb0 #[.slice a_y0_0 y0.Trains.length c_y0_0, .slice a_y0_1 y0.Turns.length c_y0_1] 25 :: pc pb1 #[vi y1] 3 :: pc pb2 #[.slice a_v0 y2.length c_v0] 39 :: pc pb3 #[vi y3] 3 :: pc pb4 #[vi y4] 3 :: pc pb5 #[.func (.func 83) #[] #[pp pb0, pp pb1, pp pb2, pp pb3, pp pb4, pp pb5]] 137 :: R))) (fun b i => cond b ([0, 1, 2, 3, 4].contains i) ([0, 1, 2, 3, 4, 5].contains i)) mixed ?_
      replace hS := hS.drew
      refine tT (i := 0) true rfl hE rfl (by kernel_rfl) (Gives.loadB hE 3 rfl rfl rfl ty39) rfl hS (hS.dropAt 7) fun a hE => ?_
      refine tP (i := 1) hE rfl (by kernel_rfl) (Gives.p hE rfl) rfl hS (hS.dropAt 7) fun a hE => ?_
      refine Rg.one (i := 2) true true rfl (by kernel_rfl) (by kernel_rfl) (by kernel_rfl) ?_
      obtain ⟨q133, hq134, hq119⟩ := bindS hq119
      have hc_ := SlicesCloneLguideRide_ok hS h0 hq134
      refine WL.fnq hE (hc_) (runs_plain rfl) bd76 rfl rfl rfl ?_
      clear hE hS hc_; rintro e w ⟨a135, c136, n137, cs138, rfl, h139, rfl, hS⟩; refine ⟨_, rfl, ?_⟩; clear a; intro a hE
      refine WL.nil ?_
      refine ⟨⟨fun _ => (hS.tail), fun _ => ((hS.tail).dropAt 7)⟩, ?_⟩
      refine tP (i := 3) hE rfl (by kernel_rfl) (Gives.build hE (vs := [(0, .slice a135 q133.length c136)]) [.slice a135 q133.length c136] rfl (by kernel_rfl)) rfl (hS.tail) ((hS.tail).dropAt 7) fun a hE => ?_
      refine Rg.one (i := 4) true true rfl (by kernel_rfl) (by kernel_rfl) (by kernel_rfl) ?_
      have hF := hS.fixD RGuideRide.mono 0 rfl h139 rfl; clear hS; obtain ⟨s141, hle142, hS, h143⟩ := hF
      replace h0 := Sl.mono RGuideRide.mono hle142 h0
      replace h_y0_0 := Sl.mono RApiTrain.mono hle142 h_y0_0
      replace h_y0_1 := Sl.mono (RL.mono RI.mono) hle142 h_y0_1
      replace h_v0 := Ev.mono RGuideJourney.mono hle142 h_v0
      refine WL.lit hE hS (e := 28) (es := 1) (vs := [(0, .agg [.slice a135 q133.length c136].toArray)]) (cs := [.slice a135 q133.length c136]) (runs_plain rfl) rfl (by kernel_rfl) rfl ?_; clear hE hS a w; intro b144 a w hE hS
      refine WL.nil ?_
      refine ⟨⟨fun _ => (St.down hle142 (hS.tail)), fun _ => (St.down hle142 ((hS.tail).dropAt 7))⟩, ?_⟩
      refine Rg.one (i := 5) false true rfl (by kernel_rfl) (by kernel_rfl) (by kernel_rfl) ?_
      obtain ⟨x145, hx146, hq119⟩ := bindS hq119
      refine WL.appD hE hS 7 (m := 1) (runs_plain rfl) rfl rfl rfl ap39 rfl h_v0 (rfl) (xs := [(GuideJourney.mk q133)]) (Ev.cons (c1 := [.slice a135 q133.length c136]) ⟨_, _, rfl, h143⟩ rfl (Ev.nil)) rfl rfl hx146 rfl ?_; clear hE hS a w; intro a147 c148 cs149 a w h150 hE hS
      refine WL.nil ?_
      refine ⟨⟨fun h => absurd h (by decide), fun _ => (St.down hle142 (hS.dropAt 7))⟩, ?_⟩
      refine Rg.one (i := 6) false false rfl (by kernel_rfl) (by kernel_rfl) (by kernel_rfl) ?_
      refine WL.storeI hE hS 3 rfl [.slice a147 x145.length c148] (runs_plain rfl) rfl rfl rfl ty39 rfl rfl rfl rfl ?_; clear hE hS a w; intro a w hE hS
      refine WL.nil ?_
      refine ⟨⟨fun h => absurd h (by decide), fun h => absurd h (by decide)⟩, ?_⟩
      refine Rg.done (by kernel_rfl) ?_
      subst hK132
      subst hK130
      exact ⟨x145, a147, c148, x145.length, cs149, s141, hle142, Option.some.inj hq119, h150, (rfl), hE.pick _ ⟨rfl, rfl, rfl, rfl, rfl, trivial⟩, hS⟩
     replace hq119 := iteF hc131 hq119
     refine W.skip ?_
     subst hK130
     exact ⟨y2, a_v0, c_v0, y2.length, cs_v0, s, (Sg.Le.refl _), Option.some.inj hq119, h_v0, (rfl), hE.pick _ ⟨rfl, rfl, rfl, rfl, rfl, trivial⟩, hS⟩
    clear hE hS a w; rintro a w ⟨q123, a124, c125, n127, cs128, s121, hle122, rfl, h126, rfl, hE, hS⟩
    replace h0 := Sl.mono RGuideRide.mono hle122 h0
    replace h_y0_0 := Sl.mono RApiTrain.mono hle122 h_y0_0
    replace h_y0_1 := Sl.mono (RL.mono RI.mono) hle122 h_y0_1
    replace h_v0 := Ev.mono RGuideJourney.mono hle122 h_v0
    replace hS := hS.tail
    subst hK76
    exact ⟨q123, a124, c125, q123.length, cs128, s121, hle122, Option.some.inj hq65, h126, rfl, hE.pick _ ⟨rfl, rfl, rfl, rfl, rfl, trivial⟩, hS⟩
   replace hq65 := iteF hc77 hq65
   refine W.skip ?_
   subst hK76
   exact ⟨y2, a_v0, c_v0, y2.length, cs_v0, s, (Sg.Le.refl _), Option.some.inj hq65, h_v0, (rfl), hE.pick _ ⟨rfl, rfl, rfl, rfl, rfl, trivial⟩, hS⟩
  clear hE hS a w; rintro a w ⟨q69, a70, c71, n73, cs74, s67, hle68, rfl, h72, rfl, hE, hS⟩
  replace h0 := Sl.mono RGuideRide.mono hle68 h0
  replace h_y0_0 := Sl.mono RApiTrain.mono hle68 h_y0_0
  replace h_y0_1 := Sl.mono (RL.mono RI.mono) hle68 h_y0_1
  replace h_v0 := Ev.mono RGuideJourney.mono hle68 h_v0
  refine W.seq ?_
  refine W.seq (W.region (vp hS hE rfl rfl fun a hE => ?_))
  refine vP hS hE (Gives.len hE rfl sl26) rfl fun a hE => ?_
  refine vp hS hE rfl rfl fun a hE => WL.nil ?_
  refine W.cond hE rfl (fun hc151 => ?_) (fun hc151 => ?_)
  ·replace hr := iteT hc151 hr
   refine W.ret ?_
   refine finG (fn := Tryd.f83) (rs := []) (vs := []) hE rfl trivial ?_
   obtain rfl := Option.some.inj hr
   exact ⟨a70, c71, q69.length, cs74, s67, rfl, hle68, h72, rfl, hS⟩
  replace hr := iteF hc151 hr
  refine W.skip ?_
  refine W.seq (W.region (vP hS hE (Gives.fld hE rfl fl25_0) rfl fun a hE => ?_))
  refine vP hS hE (Gives.loadB hE 0 rfl rfl rfl ty22) rfl fun a hE => ?_
  refine vP hS hE (Gives.len hE rfl sl22) rfl fun a hE => ?_
  refine vp hS hE rfl rfl fun a hE => WL.nil ?_
  obtain ⟨q153, hq152, hr⟩ := bindS hr
  refine W.cut (fun a w => ∃ (q163 : List GuideJourney), ∃ (a164 : Option Addr), ∃ (c165 : Nat), ∃ (n167 : Nat), ∃ (cs168 : List Value), ∃ (s161 : Sg), s67.Le s161 ∧ q163 = q153 ∧ Ev 1 RGuideJourney s161 cs168 q163 ∧ q163.length = n167 ∧ Rep a 116 [] ∧ St w s161 (pc pb0 #[.slice a_y0_0 y0.Trains.length c_y0_0, .slice a_y0_1 y0.Turns.length c_y0_1] 25 :: pc pb1 #[vi y1] 3 :: pc pb2 #[.slice a164 n167 c165] 39 :: pc pb3 #[vi y3] 3 :: pc pb4 #[vi y4] 3 :: pc pb5 #[.func (.func 83) #[] #[pp pb0, pp pb1, pp pb2, pp pb3, pp pb4, pp pb5]] 137 :: vecC 28 1 a164 c165 n167 cs168 :: R)) ?_ ?_
  ·refine W.block ?_
   refine W.loop (fun m a w => ∃ (rest156 : List ApiTrain) (k154 : Nat), ∃ (q163 : List GuideJourney), ∃ (a164 : Option Addr), ∃ (c165 : Nat), ∃ (n167 : Nat), ∃ (cs168 : List Value), ∃ (s161 : Sg), rest156.length = m ∧ y0.Trains.drop k154 = rest156 ∧ s67.Le s161 ∧ Fishref2AllOf_1_v1.loop1 x0 y0 y1 y3 y4 fu self_Fishref2AllOf_1_v1 rest156 k154 q163 = some q153 ∧ Ev 1 RGuideJourney s161 cs168 q163 ∧ q163.length = n167 ∧ Rep a 116 [(0, .slice a0 x0.length c0), (1, pp pb0), (4, pp pb3), (5, pp pb4), (6, pp pb5), (53, .slice a_y0_0 y0.Trains.length c_y0_0), (54, vi ((y0.Trains).length : Int)), (55, vi ((k154 : Nat) : Int))] ∧ St w s161 (pc pb0 #[.slice a_y0_0 y0.Trains.length c_y0_0, .slice a_y0_1 y0.Turns.length c_y0_1] 25 :: pc pb1 #[vi y1] 3 :: pc pb2 #[.slice a164 n167 c165] 39 :: pc pb3 #[vi y3] 3 :: pc pb4 #[vi y4] 3 :: pc pb5 #[.func (.func 83) #[] #[pp pb0, pp pb1, pp pb2, pp pb3, pp pb4, pp pb5]] 137 :: vecC 28 1 a164 c165 n167 cs168 :: R)) (m := y0.Trains.length) ⟨y0.Trains, 0, q69, a70, c71, q69.length, cs74, s67, rfl, rfl, (Sg.Le.refl _), hq152, h72, rfl, hE.pick _ ⟨rfl, rfl, rfl, rfl, rfl, rfl, rfl, rfl, trivial⟩, hS⟩ ?_
   clear hE hS a w hq152; rintro m160 a w ⟨rest156, k154, q163, a164, c165, n167, cs168, s161, rfl, hd157, hle162, hq152, h166, rfl, hE, hS⟩
   refine W.gen fun K170 hK170 => ?_
   replace h0 := Sl.mono RGuideRide.mono hle162 h0
   replace h_y0_0 := Sl.mono RApiTrain.mono hle162 h_y0_0
   replace h_y0_1 := Sl.mono (RL.mono RI.mono) hle162 h_y0_1
   replace h72 := Ev.mono RGuideJourney.mono hle162 h72
   rcases rest156 with _ | ⟨x155, rest156⟩
   ·have hlt158 := drop_nil hd157
    refine W.seq (W.region (vp hS hE rfl rfl fun a hE => WL.nil ?_))
    refine W.seq ?_
    refine W.condF hE rfl (decide_eq_false (by omega)) ?_
    subst hK170
    refine W.exit rfl ?_
    exact ⟨q163, a164, c165, q163.length, cs168, s161, hle162, Option.some.inj hq152, h166, rfl, hE.pick _ trivial, hS⟩
   obtain ⟨hlt158, hx159, hd157⟩ := drop_cons hd157
   rw [Fishref2AllOf_1_v1.loop1] at hq152
   refine W.seq (W.region (vp hS hE rfl rfl fun a hE => WL.nil ?_))
   refine W.seq ?_
   refine W.condT hE rfl (decide_eq_true (by omega)) ?_
   refine W.skip ?_
   refine W.seq ?_
   refine W.block ?_
   refine W.seq (W.region (vp hS hE rfl rfl fun a hE => ?_))
   obtain ⟨cs171, hl172, hR173, hat174⟩ := h_y0_0.at hx159
   obtain ⟨a175, c176, a178, c179, rfl, h177, h180⟩ := hR173
   refine vP hS hE (Gives.idx hE k154 rfl rfl sl22 rfl hlt158 (h_y0_0.aok hlt158)) rfl fun a hE => ?_
   refine vP hS hE (Gives.loadA hE rfl (fun w h => hat174 w _ h) ty44) rfl fun a hE => ?_
   refine WL.alloc hE hS (runs_plain rfl) zr44 rfl ?_; clear hE hS a w; intro b181 a w hE hS
   refine vp hS hE rfl rfl fun a hE => ?_
   refine WL.storeI hE hS 0 rfl [vi x155.No, vi x155.Stock, .slice a175 x155.Stops.length c176, .slice a178 x155.Legs.length c179] (runs_plain rfl) rfl rfl rfl ty44 rfl rfl rfl rfl ?_; clear hE hS a w; intro a w hE hS
   refine WL.nil ?_
   refine W.seq (W.region (vP hS hE (Gives.fld hE rfl fl44_2) rfl fun a hE => ?_))
   refine vP hS hE (Gives.loadB hE 0 rfl rfl rfl ty42) rfl fun a hE => ?_
   refine vP hS hE (Gives.len hE rfl sl42) rfl fun a hE => ?_
   refine vp hS hE rfl rfl fun a hE => WL.nil ?_
   obtain ⟨q183, hq182, hq152⟩ := bindS hq152
   refine W.cut (fun a w => ∃ (q193 : List GuideJourney), ∃ (a194 : Option Addr), ∃ (c195 : Nat), ∃ (n197 : Nat), ∃ (cs198 : List Value), ∃ (s191 : Sg), s161.Le s191 ∧ q193 = q183 ∧ Ev 1 RGuideJourney s191 cs198 q193 ∧ q193.length = n197 ∧ Rep a 116 [(0, .slice a0 x0.length c0), (1, pp pb0), (4, pp pb3), (5, pp pb4), (6, pp pb5), (53, .slice a_y0_0 y0.Trains.length c_y0_0), (54, vi ((y0.Trains).length : Int)), (55, vi ((k154 : Nat) : Int))] ∧ St w s191 (pc b181 #[vi x155.No, vi x155.Stock, .slice a175 x155.Stops.length c176, .slice a178 x155.Legs.length c179] 44 :: pc pb0 #[.slice a_y0_0 y0.Trains.length c_y0_0, .slice a_y0_1 y0.Turns.length c_y0_1] 25 :: pc pb1 #[vi y1] 3 :: pc pb2 #[.slice a194 n197 c195] 39 :: pc pb3 #[vi y3] 3 :: pc pb4 #[vi y4] 3 :: pc pb5 #[.func (.func 83) #[] #[pp pb0, pp pb1, pp pb2, pp pb3, pp pb4, pp pb5]] 137 :: vecC 28 1 a194 c195 n197 cs198 :: R)) ?_ ?_
   ·refine W.block ?_
    refine W.loop (fun m a w => ∃ (rest186 : List ApiStop) (k184 : Nat), ∃ (q193 : List GuideJourney), ∃ (a194 : Option Addr), ∃ (c195 : Nat), ∃ (n197 : Nat), ∃ (cs198 : List Value), ∃ (s191 : Sg), rest186.length = m ∧ x155.Stops.drop k184 = rest186 ∧ s161.Le s191 ∧ Fishref2AllOf_1_v1.loop2 x0 y0 y1 y3 y4 fu self_Fishref2AllOf_1_v1 x155 k154 rest186 k184 q193 = some q183 ∧ Ev 1 RGuideJourney s191 cs198 q193 ∧ q193.length = n197 ∧ Rep a 116 [(0, .slice a0 x0.length c0), (1, pp pb0), (4, pp pb3), (5, pp pb4), (6, pp pb5), (10, vi ((k154 : Nat) : Int)), (11, pp b181), (53, .slice a_y0_0 y0.Trains.length c_y0_0), (54, vi ((y0.Trains).length : Int)), (55, vi ((k154 : Nat) : Int)), (62, vi ((x155.Stops).length : Int)), (63, vi ((k184 : Nat) : Int))] ∧ St w s191 (pc b181 #[vi x155.No, vi x155.Stock, .slice a175 x155.Stops.length c176, .slice a178 x155.Legs.length c179] 44 :: pc pb0 #[.slice a_y0_0 y0.Trains.length c_y0_0, .slice a_y0_1 y0.Turns.length c_y0_1] 25 :: pc pb1 #[vi y1] 3 :: pc pb2 #[.slice a194 n197 c195] 39 :: pc pb3 #[vi y3] 3 :: pc pb4 #[vi y4] 3 :: pc pb5 #[.func (.func 83) #[] #[pp pb0, pp pb1, pp pb2, pp pb3, pp pb4, pp pb5]] 137 :: vecC 28 1 a194 c195 n197 cs198 :: R)) (m := x155.Stops.length) ⟨x155.Stops, 0, q163, a164, c165, q163.length, cs168, s161, rfl, rfl, (Sg.Le.refl _), hq182, h166, rfl, hE.pick _ ⟨rfl, rfl, rfl, rfl, rfl, rfl, rfl, rfl, rfl, rfl, rfl, rfl, trivial⟩, hS⟩ ?_
    clear hE hS a w hq182; rintro m190 a w ⟨rest186, k184, q193, a194, c195, n197, cs198, s191, rfl, hd187, hle192, hq182, h196, rfl, hE, hS⟩
    refine W.gen fun K200 hK200 => ?_
    replace h0 := Sl.mono RGuideRide.mono hle192 h0
    replace h_y0_0 := Sl.mono RApiTrain.mono hle192 h_y0_0
    replace h177 := Sl.mono RApiStop.mono hle192 h177
    replace h180 := Sl.mono (RL.mono RI.mono) hle192 h180
    replace h_y0_1 := Sl.mono (RL.mono RI.mono) hle192 h_y0_1
    replace h166 := Ev.mono RGuideJourney.mono hle192 h166
    rcases rest186 with _ | ⟨x185, rest186⟩
    ·have hlt188 := drop_nil hd187
     refine W.seq (W.region (vp hS hE rfl rfl fun a hE => WL.nil ?_))
     refine W.seq ?_
     refine W.condF hE rfl (decide_eq_false (by omega)) ?_
     subst hK200
     refine W.exit rfl ?_
     exact ⟨q193, a194, c195, q193.length, cs198, s191, hle192, Option.some.inj hq182, h196, rfl, hE.pick _ ⟨rfl, rfl, rfl, rfl, rfl, rfl, rfl, rfl, trivial⟩, hS⟩
    obtain ⟨hlt188, hx189, hd187⟩ := drop_cons hd187
    rw [Fishref2AllOf_1_v1.loop2] at hq182
    refine W.seq (W.region (vp hS hE rfl rfl fun a hE => WL.nil ?_))
    refine W.seq ?_
    refine W.condT hE rfl (decide_eq_true (by omega)) ?_
    refine W.skip ?_
    refine W.seq ?_
    refine W.block ?_
    refine W.seq (W.region (v2 hS hE rfl rfl rfl rfl fun a hE => WL.nil ?_))
    refine W.seq ?_
    refine W.seq ?_
    obtain ⟨q202, hq201, hq182⟩ := bndS hq182
    refine W.cut (fun a w => ∃ (q205 : Bool), q205 = q202 ∧ Rep a 116 [(0, .slice a0 x0.length c0), (1, pp pb0), (4, pp pb3), (5, pp pb4), (6, pp pb5), (10, vi ((k154 : Nat) : Int)), (11, pp b181), (12, vi ((k184 : Nat) : Int)), (53, .slice a_y0_0 y0.Trains.length c_y0_0), (54, vi ((y0.Trains).length : Int)), (55, vi ((k154 : Nat) : Int)), (62, vi ((x155.Stops).length : Int)), (63, vi ((k184 : Nat) : Int)), (78, .bool q205)] ∧ St w s191 (pc b181 #[vi x155.No, vi x155.Stock, .slice a175 x155.Stops.length c176, .slice a178 x155.Legs.length c179] 44 :: pc pb0 #[.slice a_y0_0 y0.Trains.length c_y0_0, .slice a_y0_1 y0.Turns.length c_y0_1] 25 :: pc pb1 #[vi y1] 3 :: pc pb2 #[.slice a194 q193.length c195] 39 :: pc pb3 #[vi y3] 3 :: pc pb4 #[vi y4] 3 :: pc pb5 #[.func (.func 83) #[] #[pp pb0, pp pb1, pp pb2, pp pb3, pp pb4, pp pb5]] 137 :: vecC 28 1 a194 c195 q193.length cs198 :: R)) ?_ ?_
    ·refine W.gen fun K206 hK206 => ?_
     refine W.regionQ (C := fun w => St w s191 (pc b181 #[vi x155.No, vi x155.Stock, .slice a175 x155.Stops.length c176, .slice a178 x155.Legs.length c179] 44 :: pc pb0 #[.slice a_y0_0 y0.Trains.length c_y0_0, .slice a_y0_1 y0.Turns.length c_y0_1] 25 :: pc pb1 #[vi y1] 3 :: pc pb2 #[.slice a194 q193.length c195] 39 :: pc pb3 #[vi y3] 3 :: pc pb4 #[vi y4] 3 :: pc pb5 #[.func (.func 83) #[] #[pp pb0, pp pb1, pp pb2, pp pb3, pp pb4, pp pb5]] 137 :: vecC 28 1 a194 c195 q193.length cs198 :: R)) mixed (by kernel_rfl) hS.drew ?_
     refine qP hE (Gives.p hE rfl) rfl fun a hE => ?_
     refine qP hE (Gives.len hE rfl sl26) rfl fun a hE => ?_
     refine qP hE (Gives.p hE rfl) rfl fun a hE => ?_
     refine qP hE (Gives.p hE rfl) rfl fun a hE => ?_
     rcases Bool.eq_false_or_eq_true (((x0).length : Int) == 0) with hg207 | hg207
     ·replace hq201 := iteT hg207 hq201
      refine QL.v hE (runs_if hE rfl rfl rfl hg207) (Gives.fld hE rfl fl44_2) rfl fun a hE => ?_
      refine QL.v hE (runs_if hE rfl rfl rfl hg207) (Gives.loadB hE 0 rfl rfl rfl ty42) rfl fun a hE => ?_
      refine QL.v hE (runs_if hE rfl rfl rfl hg207) (Gives.p hE rfl) rfl fun a hE => ?_
      obtain ⟨cs208, hl209, hR210, hat211⟩ := h177.at hx189
      subst hR210
      refine QL.v hE (runs_if hE rfl rfl rfl hg207) (Gives.idx hE k184 rfl rfl sl42 rfl hlt188 (h177.aok hlt188)) rfl fun a hE => ?_
      refine QL.v hE (runs_if hE rfl rfl rfl hg207) (Gives.fld hE rfl fl106_0) rfl fun a hE => ?_
      refine QL.v hE (runs_if hE rfl rfl rfl hg207) (Gives.load1 hE rfl (fun w h => (hat211 w _ h).one rfl) ty3) rfl fun a hE => ?_
      refine QL.v hE (runs_if hE rfl rfl rfl hg207) (Gives.loadB hE 4 rfl rfl rfl ty3) rfl fun a hE => ?_
      refine QL.v hE (runs_if hE rfl rfl rfl hg207) (Gives.p hE rfl) rfl fun a hE => ?_
      refine qP hE (Gives.pickT hE rfl hg207 rfl) rfl fun a hE => ?_
      refine QL.nil ?_; clear hS w; intro w hS
      subst hK206
      exact ⟨(x185.Station != y3), hq201, hE.pick _ ⟨rfl, rfl, rfl, rfl, rfl, rfl, rfl, rfl, rfl, rfl, rfl, rfl, rfl, rfl, trivial⟩, hS⟩
     replace hq201 := iteF hg207 hq201
     refine QL.no hE (runs_not hE rfl rfl rfl (by rw [hg207]; decide)) rfl fun a hE => ?_
     refine QL.no hE (runs_not hE rfl rfl rfl (by rw [hg207]; decide)) rfl fun a hE => ?_
     refine QL.no hE (runs_not hE rfl rfl rfl (by rw [hg207]; decide)) rfl fun a hE => ?_
     refine QL.no hE (runs_not hE rfl rfl rfl (by rw [hg207]; decide)) rfl fun a hE => ?_
     refine QL.no hE (runs_not hE rfl rfl rfl (by rw [hg207]; decide)) rfl fun a hE => ?_
     refine QL.no hE (runs_not hE rfl rfl rfl (by rw [hg207]; decide)) rfl fun a hE => ?_
     refine QL.no hE (runs_not hE rfl rfl rfl (by rw [hg207]; decide)) rfl fun a hE => ?_
     refine QL.no hE (runs_not hE rfl rfl rfl (by rw [hg207]; decide)) rfl fun a hE => ?_
     refine qP hE (Gives.pickF hE rfl hg207 rfl) rfl fun a hE => ?_
     refine QL.nil ?_; clear hS w; intro w hS
     subst hK206
     exact ⟨false, hq201, hE.pick _ ⟨rfl, rfl, rfl, rfl, rfl, rfl, rfl, rfl, rfl, rfl, rfl, rfl, rfl, rfl, trivial⟩, hS⟩
    clear hE hS a w; rintro a w ⟨q205, rfl, hE, hS⟩
    refine W.cond hE rfl (fun hc212 => ?_) (fun hc212 => ?_)
    ·replace hq182 := iteT hc212 hq182
     refine W.exit rfl ?_
     refine W.region ?_
     refine vP hS hE (Gives.inc hE rfl (by have := h177.small; omega)) rfl fun a hE => ?_
     refine vp hS hE rfl rfl fun a hE => WL.nil ?_
     subst hK200
     exact ⟨rest186.length, Nat.lt_succ_self _, rest186, k184 + 1, q193, a194, c195, q193.length, cs198, s191, rfl, hd187, hle192, hq182, h196, rfl, hE.pick _ ⟨rfl, rfl, rfl, rfl, rfl, rfl, rfl, rfl, rfl, rfl, rfl, rfl, trivial⟩, hS⟩
    replace hq182 := iteF hc212 hq182
    refine W.skip ?_
    refine W.seq (W.region (vp hS hE rfl rfl fun a hE => ?_))
    refine vP hS hE (Gives.inc hE rfl (by have := h177.small; omega)) rfl fun a hE => ?_
    refine vp hS hE rfl rfl fun a hE => WL.nil ?_
    obtain ⟨q214, hq213, hq182⟩ := bindS hq182
    refine W.cut (fun a w => ∃ (q219 : Int), ∃ (q220 : List GuideJourney), ∃ (a221 : Option Addr), ∃ (c222 : Nat), ∃ (n224 : Nat), ∃ (cs225 : List Value), ∃ (s217 : Sg), s191.Le s217 ∧ (q219, q220) = q214 ∧ Ev 1 RGuideJourney s217 cs225 q220 ∧ q220.length = n224 ∧ Rep a 116 [(0, .slice a0 x0.length c0), (1, pp pb0), (4, pp pb3), (5, pp pb4), (6, pp pb5), (10, vi ((k154 : Nat) : Int)), (11, pp b181), (53, .slice a_y0_0 y0.Trains.length c_y0_0), (54, vi ((y0.Trains).length : Int)), (55, vi ((k154 : Nat) : Int)), (62, vi ((x155.Stops).length : Int)), (63, vi ((k184 : Nat) : Int))] ∧ St w s217 (pc b181 #[vi x155.No, vi x155.Stock, .slice a175 x155.Stops.length c176, .slice a178 x155.Legs.length c179] 44 :: pc pb0 #[.slice a_y0_0 y0.Trains.length c_y0_0, .slice a_y0_1 y0.Turns.length c_y0_1] 25 :: pc pb1 #[vi y1] 3 :: pc pb2 #[.slice a221 n224 c222] 39 :: pc pb3 #[vi y3] 3 :: pc pb4 #[vi y4] 3 :: pc pb5 #[.func (.func 83) #[] #[pp pb0, pp pb1, pp pb2, pp pb3, pp pb4, pp pb5]] 137 :: vecC 28 1 a221 c222 n224 cs225 :: R)) ?_ ?_
    ·refine W.block ?_
     refine W.loop (fun m a w => ∃ (n215 : Nat), ∃ (q219 : Int), ∃ (q220 : List GuideJourney), ∃ (a221 : Option Addr), ∃ (c222 : Nat), ∃ (n224 : Nat), ∃ (cs225 : List Value), ∃ (s217 : Sg), n215 = m ∧ s191.Le s217 ∧ Fishref2AllOf_1_v1.loop3 x0 y0 y1 y3 y4 self_Fishref2AllOf_1_v1 x155 k154 k184 n215 q219 q220 = some q214 ∧ Ev 1 RGuideJourney s217 cs225 q220 ∧ q220.length = n224 ∧ Rep a 116 [(0, .slice a0 x0.length c0), (1, pp pb0), (4, pp pb3), (5, pp pb4), (6, pp pb5), (10, vi ((k154 : Nat) : Int)), (11, pp b181), (12, vi ((k184 : Nat) : Int)), (13, vi q219), (53, .slice a_y0_0 y0.Trains.length c_y0_0), (54, vi ((y0.Trains).length : Int)), (55, vi ((k154 : Nat) : Int)), (62, vi ((x155.Stops).length : Int)), (63, vi ((k184 : Nat) : Int))] ∧ St w s217 (pc b181 #[vi x155.No, vi x155.Stock, .slice a175 x155.Stops.length c176, .slice a178 x155.Legs.length c179] 44 :: pc pb0 #[.slice a_y0_0 y0.Trains.length c_y0_0, .slice a_y0_1 y0.Turns.length c_y0_1] 25 :: pc pb1 #[vi y1] 3 :: pc pb2 #[.slice a221 n224 c222] 39 :: pc pb3 #[vi y3] 3 :: pc pb4 #[vi y4] 3 :: pc pb5 #[.func (.func 83) #[] #[pp pb0, pp pb1, pp pb2, pp pb3, pp pb4, pp pb5]] 137 :: vecC 28 1 a221 c222 n224 cs225 :: R)) (m := fu) ⟨fu, ((k184 + 1 : Nat) : Int), q193, a194, c195, q193.length, cs198, s191, rfl, (Sg.Le.refl _), hq213, h196, rfl, hE.pick _ ⟨rfl, rfl, rfl, rfl, rfl, rfl, rfl, rfl, rfl, rfl, rfl, rfl, rfl, rfl, trivial⟩, hS⟩ ?_
     clear hE hS a w hq213; rintro m216 a w ⟨n215, q219, q220, a221, c222, n224, cs225, s217, rfl, hle218, hq213, h223, rfl, hE, hS⟩
     refine W.gen fun K227 hK227 => ?_
     replace h0 := Sl.mono RGuideRide.mono hle218 h0
     replace h_y0_0 := Sl.mono RApiTrain.mono hle218 h_y0_0
     replace h177 := Sl.mono RApiStop.mono hle218 h177
     replace h180 := Sl.mono (RL.mono RI.mono) hle218 h180
     replace h_y0_1 := Sl.mono (RL.mono RI.mono) hle218 h_y0_1
     replace h196 := Ev.mono RGuideJourney.mono hle218 h196
     rcases n215 with _ | n215
     ·rw [Fishref2AllOf_1_v1.loop3] at hq213; exact absurd hq213 (by simp)
     rw [Fishref2AllOf_1_v1.loop3] at hq213
     refine W.seq ?_
     refine W.seq (W.region (vp hS hE rfl rfl fun a hE => ?_))
     refine vP hS hE (Gives.fld hE rfl fl44_2) rfl fun a hE => ?_
     refine vP hS hE (Gives.loadB hE 0 rfl rfl rfl ty42) rfl fun a hE => ?_
     refine vP hS hE (Gives.len hE rfl sl42) rfl fun a hE => ?_
     refine vp hS hE rfl rfl fun a hE => WL.nil ?_
     refine W.cond hE rfl (fun hc228 => ?_) (fun hc228 => ?_)
     ·replace hq213 := iteT hc228 hq213
      refine W.skip ?_
      refine W.seq ?_
      refine W.block ?_
      refine W.seq (W.region (vp hS hE rfl rfl fun a hE => ?_))
      obtain ⟨q229, hq230, hq213⟩ := bindS hq213
      have hc_ := SlicesCloneLguideRide_ok hS h0 hq230
      refine WL.fnq hE (hc_) (runs_plain rfl) bd76 rfl rfl rfl ?_
      clear hE hS hc_; rintro e w ⟨a231, c232, n233, cs234, rfl, h235, rfl, hS⟩; refine ⟨_, rfl, ?_⟩; clear a; intro a hE
      refine v2 hS hE rfl rfl rfl rfl fun a hE => ?_
      refine vp hS hE rfl rfl fun a hE => ?_
      refine vP hS hE (Gives.build hE (vs := [(0, vi ((k154 : Nat) : Int)), (1, vi ((k184 : Nat) : Int)), (2, vi q219)]) [vi ((k154 : Nat) : Int), vi ((k184 : Nat) : Int), vi q219] rfl (by kernel_rfl)) rfl fun a hE => ?_
      refine WL.lit hE hS (e := 47) (es := 3) (vs := [(0, .agg [vi ((k154 : Nat) : Int), vi ((k184 : Nat) : Int), vi q219].toArray)]) (cs := [vi ((k154 : Nat) : Int), vi ((k184 : Nat) : Int), vi q219]) (runs_plain rfl) rfl (by kernel_rfl) rfl ?_; clear hE hS a w; intro b237 a w hE hS
      obtain ⟨x238, hx239, hq213⟩ := bindS hq213
      refine WL.appD hE hS 0 (m := 1) (runs_plain rfl) rfl rfl rfl ap26 rfl h235 rfl (xs := [(GuideRide.mk ((k154 : Nat) : Int) ((k184 : Nat) : Int) q219)]) (Ev.cons (c1 := [vi ((k154 : Nat) : Int), vi ((k184 : Nat) : Int), vi q219]) rfl rfl (Ev.nil)) rfl rfl hx239 rfl ?_; clear hE hS a w; intro a240 c241 cs242 a w h243 hE hS
      refine vp hS hE rfl rfl fun a hE => WL.nil ?_
      refine W.seq ?_
      have hF := hS.fixD RGuideRide.mono 0 rfl h243 (rfl); clear hS; obtain ⟨s244, hle245, hS, h246⟩ := hF
      replace h0 := Sl.mono RGuideRide.mono hle245 h0
      replace h_y0_0 := Sl.mono RApiTrain.mono hle245 h_y0_0
      replace h177 := Sl.mono RApiStop.mono hle245 h177
      replace h180 := Sl.mono (RL.mono RI.mono) hle245 h180
      replace h_y0_1 := Sl.mono (RL.mono RI.mono) hle245 h_y0_1
      replace h223 := Ev.mono RGuideJourney.mono hle245 h223
      obtain ⟨q248, hq247, hq213⟩ := bindS hq213
      refine W.cut (fun a w => ∃ (q251 : Bool), q251 = q248 ∧ Rep a 116 [(0, .slice a0 x0.length c0), (1, pp pb0), (4, pp pb3), (5, pp pb4), (6, pp pb5), (10, vi ((k154 : Nat) : Int)), (11, pp b181), (12, vi ((k184 : Nat) : Int)), (13, vi q219), (14, .slice a240 x238.length c241), (53, .slice a_y0_0 y0.Trains.length c_y0_0), (54, vi ((y0.Trains).length : Int)), (55, vi ((k154 : Nat) : Int)), (62, vi ((x155.Stops).length : Int)), (63, vi ((k184 : Nat) : Int)), (110, .bool q251)] ∧ St w s244 (pc b181 #[vi x155.No, vi x155.Stock, .slice a175 x155.Stops.length c176, .slice a178 x155.Legs.length c179] 44 :: pc pb0 #[.slice a_y0_0 y0.Trains.length c_y0_0, .slice a_y0_1 y0.Turns.length c_y0_1] 25 :: pc pb1 #[vi y1] 3 :: pc pb2 #[.slice a221 q220.length c222] 39 :: pc pb3 #[vi y3] 3 :: pc pb4 #[vi y4] 3 :: pc pb5 #[.func (.func 83) #[] #[pp pb0, pp pb1, pp pb2, pp pb3, pp pb4, pp pb5]] 137 :: vecC 28 1 a221 c222 q220.length cs225 :: R)) ?_ ?_
      ·refine W.gen fun K252 hK252 => ?_
       refine W.regionQ (C := fun w => St w s244 (pc b181 #[vi x155.No, vi x155.Stock, .slice a175 x155.Stops.length c176, .slice a178 x155.Legs.length c179] 44 :: pc pb0 #[.slice a_y0_0 y0.Trains.length c_y0_0, .slice a_y0_1 y0.Turns.length c_y0_1] 25 :: pc pb1 #[vi y1] 3 :: pc pb2 #[.slice a221 q220.length c222] 39 :: pc pb3 #[vi y3] 3 :: pc pb4 #[vi y4] 3 :: pc pb5 #[.func (.func 83) #[] #[pp pb0, pp pb1, pp pb2, pp pb3, pp pb4, pp pb5]] 137 :: vecC 28 1 a221 c222 q220.length cs225 :: R)) mixed (by kernel_rfl) hS.drew ?_
       refine qP hE (Gives.p hE rfl) rfl fun a hE => ?_
       refine qP hE (Gives.len hE rfl sl26) rfl fun a hE => ?_
       refine qP hE (Gives.p hE rfl) rfl fun a hE => ?_
       refine qP hE (Gives.p hE rfl) rfl fun a hE => ?_
       rcases Bool.eq_false_or_eq_true (((x238).length : Int) == 1) with hg253 | hg253
       ·replace hq247 := iteT hg253 hq247
        refine QL.no hE (runs_not hE rfl rfl rfl (by rw [hg253]; decide)) rfl fun a hE => ?_
        refine QL.no hE (runs_not hE rfl rfl rfl (by rw [hg253]; decide)) rfl fun a hE => ?_
        refine QL.no hE (runs_not hE rfl rfl rfl (by rw [hg253]; decide)) rfl fun a hE => ?_
        refine QL.no hE (runs_not hE rfl rfl rfl (by rw [hg253]; decide)) rfl fun a hE => ?_
        refine QL.no hE (runs_not hE rfl rfl rfl (by rw [hg253]; decide)) rfl fun a hE => ?_
        refine QL.no hE (runs_not hE rfl rfl rfl (by rw [hg253]; decide)) rfl fun a hE => ?_
        refine QL.no hE (runs_not hE rfl rfl rfl (by rw [hg253]; decide)) rfl fun a hE => ?_
        refine QL.no hE (runs_not hE rfl rfl rfl (by rw [hg253]; decide)) rfl fun a hE => ?_
        refine QL.no hE (runs_not hE rfl rfl rfl (by rw [hg253]; decide)) rfl fun a hE => ?_
        refine QL.no hE (runs_not hE rfl rfl rfl (by rw [hg253]; decide)) rfl fun a hE => ?_
        refine qP hE (Gives.pickT hE rfl hg253 rfl) rfl fun a hE => ?_
        refine QL.nil ?_; clear hS w; intro w hS
        subst hK252
        exact ⟨true, Option.some.inj hq247, hE.pick _ ⟨rfl, rfl, rfl, rfl, rfl, rfl, rfl, rfl, rfl, rfl, rfl, rfl, rfl, rfl, rfl, rfl, trivial⟩, hS⟩
       replace hq247 := iteF hg253 hq247
       refine QL.v hE (runs_if hE rfl rfl rfl hg253) (Gives.loadBA hE 1 rfl rfl ty25) rfl fun a hE => ?_
       refine QL.v hE (runs_if hE rfl rfl rfl hg253) (Gives.p hE rfl) rfl fun a hE => ?_
       refine QL.v hE (runs_if hE rfl rfl rfl hg253) (Gives.p hE rfl) rfl fun a hE => ?_
       refine QL.v hE (runs_if hE rfl rfl rfl hg253) (Gives.len hE rfl sl26) rfl fun a hE => ?_
       refine QL.v hE (runs_if hE rfl rfl rfl hg253) (Gives.p hE rfl) rfl fun a hE => ?_
       obtain ⟨x254, hx255, hq247⟩ := bindS hq247
       obtain ⟨a256, c257, heq258, h259⟩ := h246.cut hx255
       obtain ⟨h260, h261, h262, _⟩ := cutl_some hx255
       refine QL.v hE (runs_if hE rfl rfl rfl hg253) (Gives.slL hE sl26 rfl rfl h260 (by omega) (by simpa using heq258)) rfl fun a hE => ?_
       refine QL.v hE (runs_if hE rfl rfl rfl hg253) (Gives.build hE (vs := [(0, .slice a256 x254.length c257)]) [.slice a256 x254.length c257] rfl (by kernel_rfl)) rfl fun a hE => ?_
       refine QL.v hE (runs_if hE rfl rfl rfl hg253) (Gives.loadB hE 5 rfl rfl rfl ty3) rfl fun a hE => ?_
       obtain ⟨q263, hq264, hq247⟩ := bindS hq247
       refine QL.fnq hE (fun w hS => Fishref2JourneyFault_ok hS h_y0_0 h_y0_1 h259 hq264) (runs_if hE rfl rfl rfl hg253) bd18 rfl rfl rfl fun a hE => ?_
       refine QL.v hE (runs_if hE rfl rfl rfl hg253) (Gives.p hE rfl) rfl fun a hE => ?_
       refine qP hE (Gives.pickF hE rfl hg253 rfl) rfl fun a hE => ?_
       refine QL.nil ?_; clear hS w; intro w hS
       subst hK252
       exact ⟨(q263 == 0), Option.some.inj hq247, hE.pick _ ⟨rfl, rfl, rfl, rfl, rfl, rfl, rfl, rfl, rfl, rfl, rfl, rfl, rfl, rfl, rfl, rfl, trivial⟩, hS⟩
      clear hE hS a w; rintro a w ⟨q251, rfl, hE, hS⟩
      refine W.cond hE rfl (fun hc265 => ?_) (fun hc265 => ?_)
      ·replace hq213 := iteT hc265 hq213
       refine W.region ?_
       refine vP hS hE (Gives.loadB hE 6 rfl rfl rfl ty137) rfl fun a hE => ?_
       refine vp hS hE rfl rfl fun a hE => ?_
       obtain ⟨q266, hq267, hq213⟩ := bindS hq213
       replace hS := hS.front 7 rfl
       replace hS := hS.front 7 rfl
       replace hS := hS.front 7 rfl
       replace hS := hS.front 7 rfl
       replace hS := hS.front 7 rfl
       replace hS := hS.front 7 rfl
       replace hS := hS.front 7 rfl
       have hc_ := ih_Fishref2AllOf_1_v1 (y0 := y0) hS h246 h_y0_0 h_y0_1 h223 rfl hq267
       refine WL.fnw hE (hc_) rfl (runs_plain rfl) bd83 rfl rfl rfl ?_
       clear hE hS hc_; rintro e w ⟨a268, c269, n270, cs271, s273, rfl, hle274, h272, rfl, hS⟩; refine ⟨_, rfl, ?_⟩; clear a; intro a hE
       replace h0 := Sl.mono RGuideRide.mono hle274 h0
       replace h246 := Sl.mono RGuideRide.mono hle274 h246
       replace h_y0_0 := Sl.mono RApiTrain.mono hle274 h_y0_0
       replace h_y0_1 := Sl.mono (RL.mono RI.mono) hle274 h_y0_1
       replace h223 := Ev.mono RGuideJourney.mono hle274 h223
       replace h177 := Sl.mono RApiStop.mono hle274 h177
       replace h180 := Sl.mono (RL.mono RI.mono) hle274 h180
       refine WL.nil ?_
       refine W.region ?_
       refine v2 hS hE rfl rfl rfl rfl fun a hE => ?_
       refine vp hS hE rfl rfl fun a hE => WL.nil ?_
       replace hS := hS.front 6 rfl
       replace hS := hS.front 6 rfl
       replace hS := hS.front 6 rfl
       replace hS := hS.front 6 rfl
       replace hS := hS.front 6 rfl
       replace hS := hS.front 6 rfl
       replace hS := hS.front 6 rfl
       replace hS := hS.front 7 rfl
       subst hK227
       exact ⟨n215, Nat.lt_succ_self _, n215, (w64 (q219 + 1)), q266, a268, c269, q266.length, cs271, s273, rfl, (Sg.Le.trans (Sg.Le.trans hle218 hle245) hle274), hq213, h272, rfl, hE.pick _ ⟨rfl, rfl, rfl, rfl, rfl, rfl, rfl, rfl, rfl, rfl, rfl, rfl, rfl, rfl, trivial⟩, hS⟩
      replace hq213 := iteF hc265 hq213
      refine W.skip ?_
      refine W.region ?_
      refine v2 hS hE rfl rfl rfl rfl fun a hE => ?_
      refine vp hS hE rfl rfl fun a hE => WL.nil ?_
      subst hK227
      exact ⟨n215, Nat.lt_succ_self _, n215, (w64 (q219 + 1)), q220, a221, c222, q220.length, cs225, s244, rfl, (Sg.Le.trans hle218 hle245), hq213, h223, rfl, hE.pick _ ⟨rfl, rfl, rfl, rfl, rfl, rfl, rfl, rfl, rfl, rfl, rfl, rfl, rfl, rfl, trivial⟩, hS⟩
     replace hq213 := iteF hc228 hq213
     subst hK227
     refine W.exit rfl ?_
     exact ⟨q219, q220, a221, c222, q220.length, cs225, s217, hle218, Option.some.inj hq213, h223, rfl, hE.pick _ ⟨rfl, rfl, rfl, rfl, rfl, rfl, rfl, rfl, rfl, rfl, rfl, rfl, trivial⟩, hS⟩
    clear hE hS a w; rintro a w ⟨q219, q220, a221, c222, n224, cs225, s217, hle218, rfl, h223, rfl, hE, hS⟩
    dsimp only at hq182
    replace h0 := Sl.mono RGuideRide.mono hle218 h0
    replace h_y0_0 := Sl.mono RApiTrain.mono hle218 h_y0_0
    replace h177 := Sl.mono RApiStop.mono hle218 h177
    replace h180 := Sl.mono (RL.mono RI.mono) hle218 h180
    replace h_y0_1 := Sl.mono (RL.mono RI.mono) hle218 h_y0_1
    replace h196 := Ev.mono RGuideJourney.mono hle218 h196
    refine W.region ?_
    refine vP hS hE (Gives.inc hE rfl (by have := h177.small; omega)) rfl fun a hE => ?_
    refine vp hS hE rfl rfl fun a hE => WL.nil ?_
    subst hK200
    exact ⟨rest186.length, Nat.lt_succ_self _, rest186, k184 + 1, q220, a221, c222, q220.length, cs225, s217, rfl, hd187, (Sg.Le.trans hle192 hle218), hq182, h223, rfl, hE.pick _ ⟨rfl, rfl, rfl, rfl, rfl, rfl, rfl, rfl, rfl, rfl, rfl, rfl, trivial⟩, hS⟩
   clear hE hS a w; rintro a w ⟨q193, a194, c195, n197, cs198, s191, hle192, rfl, h196, rfl, hE, hS⟩
   replace h0 := Sl.mono RGuideRide.mono hle192 h0
   replace h_y0_0 := Sl.mono RApiTrain.mono hle192 h_y0_0
   replace h177 := Sl.mono RApiStop.mono hle192 h177
   replace h180 := Sl.mono (RL.mono RI.mono) hle192 h180
   replace h_y0_1 := Sl.mono (RL.mono RI.mono) hle192 h_y0_1
   replace h166 := Ev.mono RGuideJourney.mono hle192 h166
   refine W.region ?_
   refine vP hS hE (Gives.inc hE rfl (by have := h_y0_0.small; omega)) rfl fun a hE => ?_
   refine vp hS hE rfl rfl fun a hE => WL.nil ?_
   replace hS := hS.tail
   subst hK170
   exact ⟨rest156.length, Nat.lt_succ_self _, rest156, k154 + 1, q193, a194, c195, q193.length, cs198, s191, rfl, hd157, (Sg.Le.trans hle162 hle192), hq152, h196, rfl, hE.pick _ ⟨rfl, rfl, rfl, rfl, rfl, rfl, rfl, rfl, trivial⟩, hS⟩
  clear hE hS a w; rintro a w ⟨q163, a164, c165, n167, cs168, s161, hle162, rfl, h166, rfl, hE, hS⟩
  replace h0 := Sl.mono RGuideRide.mono hle162 h0
  replace h_y0_0 := Sl.mono RApiTrain.mono hle162 h_y0_0
  replace h_y0_1 := Sl.mono (RL.mono RI.mono) hle162 h_y0_1
  replace h72 := Ev.mono RGuideJourney.mono hle162 h72
  refine finG (fn := Tryd.f83) (rs := []) (vs := []) hE rfl trivial ?_
  obtain rfl := Option.some.inj hr
  exact ⟨a164, c165, q163.length, cs168, s161, rfl, (Sg.Le.trans hle68 hle162), h166, rfl, hS⟩
set_option maxHeartbeats 8000000 in
theorem Fishref2AllOf_ok {fu : Nat}  {w : World} {s : Sg} {R : List HP} {x0 : ApiDay} {a0_0 : Option Addr} {c0_0 : Nat} {a0_1 : Option Addr} {c0_1 : Nat} {x1 : Int} {x2 : Int} {x3 : Int} (hS : St w s (R)) (h0_0 : Sl 4 RApiTrain s a0_0 c0_0 x0.Trains) (h0_1 : Sl 1 (RL 1 (RI .i64)) s a0_1 c0_1 x0.Turns) {r : (List GuideJourney)} (hr : Fishref2AllOf fu x0 x1 x2 x3 = some r) :
  Calls Tryd.prog 29 [.agg [.slice a0_0 x0.Trains.length c0_0, .slice a0_1 x0.Turns.length c0_1].toArray, vi x1, vi x2, vi x3].toArray w (fun e w => ∃ (a0 : Option Addr) (c0 n0 : Nat) (cs0 : List Value) (t : Sg), e = .returned (.slice a0 n0 c0) ∧ s.Le t ∧ Ev 1 RGuideJourney t cs0 r ∧ r.length = n0 ∧ St w t (vecC 28 1 a0 c0 n0 cs0 :: R)) := by
 refine enter Tryd.func29 rfl rfl rfl fun a hE => ?_
 rw [Fishref2AllOf] at hr
 refine W.seq (W.region ?_)
 refine WL.box hE hS (runs_plain rfl) rfl rfl rfl ?_; clear hE hS a w; intro b51 a w hE hS
 refine WL.box hE hS (runs_plain rfl) rfl rfl rfl ?_; clear hE hS a w; intro b52 a w hE hS
 refine WL.box hE hS (runs_plain rfl) rfl rfl rfl ?_; clear hE hS a w; intro b53 a w hE hS
 refine WL.box hE hS (runs_plain rfl) rfl rfl rfl ?_; clear hE hS a w; intro b54 a w hE hS
 refine vp hS hE rfl rfl fun a hE => WL.nil ?_
 refine W.seq (W.region ?_)
 refine WL.alloc hE hS (runs_plain rfl) zr39 rfl ?_; clear hE hS a w; intro b55 a w hE hS
 refine WL.nil ?_
 refine W.seq (W.region ?_)
 refine WL.alloc hE hS (runs_plain rfl) zr137 rfl ?_; clear hE hS a w; intro b56 a w hE hS
 refine WL.nil ?_
 refine W.seq (W.region ?_)
 replace hS := hS.vecNil 28 1
 refine vP hS hE (Gives.mkfn hE (vs := [pp b51, pp b53, pp b55, pp b52, pp b54, pp b56]) rfl) rfl fun a hE => ?_
 refine WL.storeI hE hS 1 rfl [.func (.func 83) #[] #[pp b51, pp b53, pp b55, pp b52, pp b54, pp b56]] (runs_plain rfl) rfl rfl rfl ty137 rfl rfl rfl rfl ?_; clear hE hS a w; intro a w hE hS
 refine WL.nil ?_
 refine W.seq (W.region (vP hS hE (Gives.loadB hE 1 rfl rfl rfl ty137) rfl fun a hE => ?_))
 obtain ⟨q58, hq59, hr⟩ := bindS hr
 replace hS := hS.front 0 rfl
 replace hS := hS.front 1 rfl
 replace hS := hS.front 3 rfl
 replace hS := hS.front 5 rfl
 replace hS := hS.front 4 rfl
 replace hS := hS.front 5 rfl
 replace hS := hS.front 6 rfl
 have hc_ := Fishref2AllOf_1_v1_ok (y0 := x0) hS Sl.nil h0_0 h0_1 (Ev.nil) (rfl) hq59
 refine WL.fnw hE (hc_) rfl (runs_plain rfl) bd83 rfl rfl rfl ?_
 clear hE hS hc_; rintro e w ⟨a60, c61, n62, cs63, s65, rfl, hle66, h64, rfl, hS⟩; refine ⟨_, rfl, ?_⟩; clear a; intro a hE
 replace h0_0 := Sl.mono RApiTrain.mono hle66 h0_0
 replace h0_1 := Sl.mono (RL.mono RI.mono) hle66 h0_1
 refine WL.nil ?_
 refine W.seq (W.region (vP hS hE (Gives.loadB hE 2 rfl rfl rfl ty39) rfl fun a hE => ?_))
 refine vp hS hE rfl rfl fun a hE => WL.nil ?_
 refine W.ret ?_
 refine finG (fn := Tryd.f29) (rs := [.tmp 8]) (vs := [_]) hE rfl ⟨rfl, trivial⟩ ?_
 obtain rfl := Option.some.inj hr
 replace hS := hS.tail
 replace hS := hS.tail
 replace hS := hS.tail
 replace hS := hS.tail
 replace hS := hS.tail
 replace hS := hS.tail
 exact ⟨a60, c61, q58.length, cs63, s65, rfl, hle66, h64, rfl, hS⟩
set_option maxHeartbeats 8000000 in
theorem Fishref2Leaves_ok  {w : World} {s : Sg} {R : List HP} {x0 : ApiDay} {a0_0 : Option Addr} {c0_0 : Nat} {a0_1 : Option Addr} {c0_1 : Nat} {x1 : GuideJourney} {a1_0 : Option Addr} {c1_0 : Nat} (hS : St w s (R)) (h0_0 : Sl 4 RApiTrain s a0_0 c0_0 x0.Trains) (_h0_1 : Sl 1 (RL 1 (RI .i64)) s a0_1 c0_1 x0.Turns) (h1_0 : Sl 3 RGuideRide s a1_0 c1_0 x1.Rides) {r : Int} (hr : Fishref2Leaves x0 x1 = some r) :
  Calls Tryd.prog 60 [.agg [.slice a0_0 x0.Trains.length c0_0, .slice a0_1 x0.Turns.length c0_1].toArray, .agg [.slice a1_0 x1.Rides.length c1_0].toArray].toArray w (fun e w => e = .returned (vi r) ∧ St w s (R)) := by
 refine enter Tryd.func60 rfl rfl rfl fun a hE => ?_
 rw [Fishref2Leaves] at hr
 refine W.seq (W.region ?_)
 refine WL.box hE hS (runs_plain rfl) rfl rfl rfl ?_; clear hE hS a w; intro b51 a w hE hS
 refine WL.box hE hS (runs_plain rfl) rfl rfl rfl ?_; clear hE hS a w; intro b52 a w hE hS
 refine vp hS hE rfl rfl fun a hE => WL.nil ?_
 refine W.seq (W.region (vP hS hE (Gives.fld hE rfl fl28_0) rfl fun a hE => ?_))
 refine vP hS hE (Gives.loadB hE 0 rfl rfl rfl ty26) rfl fun a hE => ?_
 obtain ⟨x53, hx54, hr⟩ := bindS hr
 obtain ⟨hi55, hlt56, hy57⟩ := gx_some hx54
 obtain ⟨cs58, hl59, hR60, hat61⟩ := h1_0.at hy57
 subst hR60
 refine vP hS hE (Gives.idx hE ((0 : Int)).toNat rfl rfl sl26 hi55 hlt56 (h1_0.aok hlt56)) rfl fun a hE => ?_
 refine vP hS hE (Gives.loadA hE rfl (fun w h => hat61 w _ h) ty47) rfl fun a hE => ?_
 refine WL.alloc hE hS (runs_plain rfl) zr47 rfl ?_; clear hE hS a w; intro b62 a w hE hS
 refine WL.storeI hE hS 0 rfl (GuideRide.cells x53) (runs_plain rfl) rfl rfl rfl ty47 rfl rfl rfl rfl ?_; clear hE hS a w; intro a w hE hS
 refine WL.nil ?_
 refine W.seq ?_
 refine W.regionQ (C := fun w => St w s (pc b62 (GuideRide.cells x53).toArray 47 :: pc b52 #[.slice a1_0 x1.Rides.length c1_0] 28 :: pc b51 #[.slice a0_0 x0.Trains.length c0_0, .slice a0_1 x0.Turns.length c0_1] 25 :: R)) mixed (by kernel_rfl) hS.drew ?_
 refine qP hE (Gives.fld hE rfl fl25_0) rfl fun a hE => ?_
 refine qP hE (Gives.loadB hE 2 rfl rfl rfl ty22) rfl fun a hE => ?_
 refine qP hE (Gives.fld hE rfl fl47_0) rfl fun a hE => ?_
 refine qP hE (Gives.loadB hE 0 rfl rfl rfl ty3) rfl fun a hE => ?_
 obtain ⟨x63, hx64, hr⟩ := bindS hr
 obtain ⟨hi65, hlt66, hy67⟩ := gx_some hx64
 obtain ⟨cs68, hl69, hR70, hat71⟩ := h0_0.at hy67
 obtain ⟨a72, c73, a75, c76, rfl, h74, h77⟩ := hR70
 refine qP hE (Gives.idx hE (x53.Train).toNat rfl rfl sl22 hi65 hlt66 (h0_0.aok hlt66)) rfl fun a hE => ?_
 refine qP hE (Gives.fld hE rfl fl44_2) rfl fun a hE => ?_
 refine qP hE (Gives.load1 hE rfl (fun w h => (hat71 w _ h).one rfl) ty42) rfl fun a hE => ?_
 refine qP hE (Gives.fld hE rfl fl47_1) rfl fun a hE => ?_
 refine qP hE (Gives.loadB hE 0 rfl rfl rfl ty3) rfl fun a hE => ?_
 obtain ⟨x78, hx79, hr⟩ := bindS hr
 obtain ⟨hi80, hlt81, hy82⟩ := gx_some hx79
 obtain ⟨cs83, hl84, hR85, hat86⟩ := h74.at hy82
 subst hR85
 refine qP hE (Gives.idx hE (x53.On).toNat rfl rfl sl42 hi80 hlt81 (h74.aok hlt81)) rfl fun a hE => ?_
 refine qP hE (Gives.fld hE rfl fl106_3) rfl fun a hE => ?_
 refine qP hE (Gives.load1 hE rfl (fun w h => (hat86 w _ h).one rfl) ty3) rfl fun a hE => ?_
 refine qP hE (Gives.p hE rfl) rfl fun a hE => ?_
 refine QL.nil ?_; clear hS w; intro w hS
 refine W.ret ?_
 refine finG (fn := Tryd.f60) (rs := [.tmp 4]) (vs := [_]) hE rfl ⟨rfl, trivial⟩ ?_
 obtain rfl := Option.some.inj hr
 replace hS := hS.tail
 replace hS := hS.tail
 replace hS := hS.tail
 exact ⟨rfl, hS⟩
set_option maxHeartbeats 8000000 in
theorem Fishref2Arrives_ok  {w : World} {s : Sg} {R : List HP} {x0 : ApiDay} {a0_0 : Option Addr} {c0_0 : Nat} {a0_1 : Option Addr} {c0_1 : Nat} {x1 : GuideJourney} {a1_0 : Option Addr} {c1_0 : Nat} (hS : St w s (R)) (h0_0 : Sl 4 RApiTrain s a0_0 c0_0 x0.Trains) (_h0_1 : Sl 1 (RL 1 (RI .i64)) s a0_1 c0_1 x0.Turns) (h1_0 : Sl 3 RGuideRide s a1_0 c1_0 x1.Rides) {r : Int} (hr : Fishref2Arrives x0 x1 = some r) :
  Calls Tryd.prog 63 [.agg [.slice a0_0 x0.Trains.length c0_0, .slice a0_1 x0.Turns.length c0_1].toArray, .agg [.slice a1_0 x1.Rides.length c1_0].toArray].toArray w (fun e w => e = .returned (vi r) ∧ St w s (R)) := by
 refine enter Tryd.func63 rfl rfl rfl fun a hE => ?_
 rw [Fishref2Arrives] at hr
 refine W.seq (W.region ?_)
 refine WL.box hE hS (runs_plain rfl) rfl rfl rfl ?_; clear hE hS a w; intro b51 a w hE hS
 refine WL.box hE hS (runs_plain rfl) rfl rfl rfl ?_; clear hE hS a w; intro b52 a w hE hS
 refine vp hS hE rfl rfl fun a hE => WL.nil ?_
 refine W.seq (W.region (vP hS hE (Gives.fld hE rfl fl28_0) rfl fun a hE => ?_))
 refine vP hS hE (Gives.loadB hE 0 rfl rfl rfl ty26) rfl fun a hE => ?_
 refine vP hS hE (Gives.fld hE rfl fl28_0) rfl fun a hE => ?_
 refine vP hS hE (Gives.loadB hE 0 rfl rfl rfl ty26) rfl fun a hE => ?_
 refine vP hS hE (Gives.len hE rfl sl26) rfl fun a hE => ?_
 refine vp hS hE rfl rfl fun a hE => ?_
 obtain ⟨x53, hx54, hr⟩ := bindS hr
 obtain ⟨hi55, hlt56, hy57⟩ := gx_some hx54
 obtain ⟨cs58, hl59, hR60, hat61⟩ := h1_0.at hy57
 subst hR60
 refine vP hS hE (Gives.idx hE (w64 (((x1.Rides).length : Int) - 1)).toNat rfl rfl sl26 hi55 hlt56 (h1_0.aok hlt56)) rfl fun a hE => ?_
 refine vP hS hE (Gives.loadA hE rfl (fun w h => hat61 w _ h) ty47) rfl fun a hE => ?_
 refine WL.alloc hE hS (runs_plain rfl) zr47 rfl ?_; clear hE hS a w; intro b62 a w hE hS
 refine WL.storeI hE hS 0 rfl (GuideRide.cells x53) (runs_plain rfl) rfl rfl rfl ty47 rfl rfl rfl rfl ?_; clear hE hS a w; intro a w hE hS
 refine WL.nil ?_
 refine W.seq ?_
 refine W.regionQ (C := fun w => St w s (pc b62 (GuideRide.cells x53).toArray 47 :: pc b52 #[.slice a1_0 x1.Rides.length c1_0] 28 :: pc b51 #[.slice a0_0 x0.Trains.length c0_0, .slice a0_1 x0.Turns.length c0_1] 25 :: R)) mixed (by kernel_rfl) hS.drew ?_
 refine qP hE (Gives.fld hE rfl fl25_0) rfl fun a hE => ?_
 refine qP hE (Gives.loadB hE 2 rfl rfl rfl ty22) rfl fun a hE => ?_
 refine qP hE (Gives.fld hE rfl fl47_0) rfl fun a hE => ?_
 refine qP hE (Gives.loadB hE 0 rfl rfl rfl ty3) rfl fun a hE => ?_
 obtain ⟨x63, hx64, hr⟩ := bindS hr
 obtain ⟨hi65, hlt66, hy67⟩ := gx_some hx64
 obtain ⟨cs68, hl69, hR70, hat71⟩ := h0_0.at hy67
 obtain ⟨a72, c73, a75, c76, rfl, h74, h77⟩ := hR70
 refine qP hE (Gives.idx hE (x53.Train).toNat rfl rfl sl22 hi65 hlt66 (h0_0.aok hlt66)) rfl fun a hE => ?_
 refine qP hE (Gives.fld hE rfl fl44_2) rfl fun a hE => ?_
 refine qP hE (Gives.load1 hE rfl (fun w h => (hat71 w _ h).one rfl) ty42) rfl fun a hE => ?_
 refine qP hE (Gives.fld hE rfl fl47_2) rfl fun a hE => ?_
 refine qP hE (Gives.loadB hE 0 rfl rfl rfl ty3) rfl fun a hE => ?_
 obtain ⟨x78, hx79, hr⟩ := bindS hr
 obtain ⟨hi80, hlt81, hy82⟩ := gx_some hx79
 obtain ⟨cs83, hl84, hR85, hat86⟩ := h74.at hy82
 subst hR85
 refine qP hE (Gives.idx hE (x53.Off).toNat rfl rfl sl42 hi80 hlt81 (h74.aok hlt81)) rfl fun a hE => ?_
 refine qP hE (Gives.fld hE rfl fl106_2) rfl fun a hE => ?_
 refine qP hE (Gives.load1 hE rfl (fun w h => (hat86 w _ h).one rfl) ty3) rfl fun a hE => ?_
 refine qP hE (Gives.p hE rfl) rfl fun a hE => ?_
 refine QL.nil ?_; clear hS w; intro w hS
 refine W.ret ?_
 refine finG (fn := Tryd.f63) (rs := [.tmp 4]) (vs := [_]) hE rfl ⟨rfl, trivial⟩ ?_
 obtain rfl := Option.some.inj hr
 replace hS := hS.tail
 replace hS := hS.tail
 replace hS := hS.tail
 exact ⟨rfl, hS⟩
set_option maxHeartbeats 8000000 in
theorem SlicesIndexLguidePoint_ok  {w : World} {s : Sg} {R : List HP} {x0 : List GuidePoint} {a0 : Option Addr} {c0 : Nat} {x1 : GuidePoint} (hS : St w s (R)) (h0 : Sl 3 RGuidePoint s a0 c0 x0) {r : Int} (hr : SlicesIndexLguidePoint x0 x1 = r) :
  Calls Tryd.prog 114 [.slice a0 x0.length c0, .agg (GuidePoint.cells x1).toArray].toArray w (fun e w => e = .returned (vi r) ∧ St w s (R)) := by
 refine enter Tryd.func114 rfl rfl rfl fun a hE => ?_
 rw [SlicesIndexLguidePoint] at hr
 refine W.seq (W.region ?_)
 refine WL.box hE hS (runs_plain rfl) rfl rfl rfl ?_; clear hE hS a w; intro b51 a w hE hS
 refine vp hS hE rfl rfl fun a hE => WL.nil ?_
 refine W.seq ?_
 refine W.seq (W.region (vp hS hE rfl rfl fun a hE => ?_))
 refine vP hS hE (Gives.len hE rfl sl55) rfl fun a hE => ?_
 refine vp hS hE rfl rfl fun a hE => WL.nil ?_
 obtain ⟨q53, hq52, hr⟩ := bndS hr
 refine W.cut (fun a w => (.next ()) = q53 ∧ Rep a 19 [] ∧ St w s (pc b51 (GuidePoint.cells x1).toArray 62 :: R)) ?_ ?_
 ·refine W.block ?_
  refine W.loop (fun m a w => ∃ (rest56 : List GuidePoint) (k54 : Nat), rest56.length = m ∧ x0.drop k54 = rest56 ∧ SlicesIndexLguidePoint.loop1 x1 rest56 k54 = q53 ∧ Rep a 19 [(0, .slice a0 x0.length c0), (3, pp b51), (7, vi ((x0).length : Int)), (8, vi ((k54 : Nat) : Int))] ∧ St w s (pc b51 (GuidePoint.cells x1).toArray 62 :: R)) (m := x0.length) ⟨x0, 0, rfl, rfl, hq52, hE.pick _ ⟨rfl, rfl, rfl, rfl, trivial⟩, hS⟩ ?_
  clear hE hS a w hq52; rintro m60 a w ⟨rest56, k54, rfl, hd57, hq52, hE, hS⟩
  refine W.gen fun K63 hK63 => ?_
  rcases rest56 with _ | ⟨x55, rest56⟩
  ·have hlt58 := drop_nil hd57
   refine W.seq (W.region (vp hS hE rfl rfl fun a hE => WL.nil ?_))
   refine W.seq ?_
   refine W.condF hE rfl (decide_eq_false (by omega)) ?_
   subst hK63
   refine W.exit rfl ?_
   exact ⟨hq52, hE.pick _ trivial, hS⟩
  obtain ⟨hlt58, hx59, hd57⟩ := drop_cons hd57
  rw [SlicesIndexLguidePoint.loop1] at hq52
  refine W.seq (W.region (vp hS hE rfl rfl fun a hE => WL.nil ?_))
  refine W.seq ?_
  refine W.condT hE rfl (decide_eq_true (by omega)) ?_
  refine W.skip ?_
  refine W.seq ?_
  refine W.block ?_
  refine W.seq (W.region (v2 hS hE rfl rfl rfl rfl fun a hE => WL.nil ?_))
  refine W.seq ?_
  refine W.regionQ (C := fun w => St w s (pc b51 (GuidePoint.cells x1).toArray 62 :: R)) mixed (by kernel_rfl) hS.drew ?_
  refine qP hE (Gives.loadBA hE 0 rfl rfl ty62) rfl fun a hE => ?_
  refine qP hE (Gives.p hE rfl) rfl fun a hE => ?_
  refine qP hE (Gives.p hE rfl) rfl fun a hE => ?_
  obtain ⟨cs64, hl65, hR66, hat67⟩ := h0.at hx59
  subst hR66
  refine qP hE (Gives.idx hE k54 rfl rfl sl55 rfl hlt58 (h0.aok hlt58)) rfl fun a hE => ?_
  refine qP hE (Gives.loadA hE rfl (fun w h => hat67 w _ h) ty62) rfl fun a hE => ?_
  refine qP hE (show Gives _ _ _ _ (Value.bool ((x1.Dep == x55.Dep) && ((x1.Arr == x55.Arr) && (x1.Rides == x55.Rides)))) from Gives.eqS hE [.i .i64, .i .i64, .i .i64] [.i .i64 x1.Dep, .i .i64 x1.Arr, .i .i64 x1.Rides] [.i .i64 x55.Dep, .i .i64 x55.Arr, .i .i64 x55.Rides] rfl rfl se62 rfl rfl rfl rfl) rfl fun a hE => ?_
  refine QL.nil ?_; clear hS w; intro w hS
  refine W.cond hE rfl (fun hc68 => ?_) (fun hc68 => ?_)
  ·replace hq52 := iteT hc68 hq52
   refine W.seq (W.region (v2 hS hE rfl rfl rfl rfl fun a hE => WL.nil ?_))
   refine W.ret ?_
   subst hK63
   rw [← hq52] at hr
   dsimp only at hr
   refine finG (fn := Tryd.f114) (rs := [.tmp 4]) (vs := [_]) hE rfl ⟨rfl, trivial⟩ ?_
   subst hr
   replace hS := hS.tail
   exact ⟨rfl, hS⟩
  replace hq52 := iteF hc68 hq52
  refine W.skip ?_
  refine W.region ?_
  refine vP hS hE (Gives.inc hE rfl (by have := h0.small; omega)) rfl fun a hE => ?_
  refine vp hS hE rfl rfl fun a hE => WL.nil ?_
  subst hK63
  exact ⟨rest56.length, Nat.lt_succ_self _, rest56, k54 + 1, rfl, hd57, hq52, hE.pick _ ⟨rfl, rfl, rfl, rfl, trivial⟩, hS⟩
 clear hE hS a w; rintro a w ⟨rfl, hE, hS⟩
 dsimp only at hr
 refine W.seq (W.region (vp hS hE rfl rfl fun a hE => WL.nil ?_))
 refine W.ret ?_
 refine finG (fn := Tryd.f114) (rs := [.tmp 4]) (vs := [_]) hE rfl ⟨rfl, trivial⟩ ?_
 subst hr
 replace hS := hS.tail
 exact ⟨rfl, hS⟩
set_option maxHeartbeats 8000000 in
theorem SlicesContainsLguidePoint_ok  {w : World} {s : Sg} {R : List HP} {x0 : List GuidePoint} {a0 : Option Addr} {c0 : Nat} {x1 : GuidePoint} (hS : St w s (R)) (h0 : Sl 3 RGuidePoint s a0 c0 x0) {r : Bool} (hr : SlicesContainsLguidePoint x0 x1 = r) :
  Calls Tryd.prog 79 [.slice a0 x0.length c0, .agg (GuidePoint.cells x1).toArray].toArray w (fun e w => e = .returned (.bool r) ∧ St w s (R)) := by
 refine enter Tryd.func79 rfl rfl rfl fun a hE => ?_
 rw [SlicesContainsLguidePoint] at hr
 refine W.seq (W.region ?_)
 refine WL.box hE hS (runs_plain rfl) rfl rfl rfl ?_; clear hE hS a w; intro b51 a w hE hS
 refine vp hS hE rfl rfl fun a hE => WL.nil ?_
 refine W.seq (W.region (vp hS hE rfl rfl fun a hE => ?_))
 refine vP hS hE (Gives.loadBA hE 0 rfl rfl ty62) rfl fun a hE => ?_
 refine WL.fnq hE (SlicesIndexLguidePoint_ok hS h0 rfl (r := SlicesIndexLguidePoint x0 x1)) (runs_plain rfl) bd114 rfl rfl rfl ?_
 clear hE hS; rintro e w ⟨rfl, hS⟩; refine ⟨_, rfl, ?_⟩; clear a; intro a hE
 refine v2 hS hE rfl rfl rfl rfl fun a hE => WL.nil ?_
 refine W.ret ?_
 refine finG (fn := Tryd.f79) (rs := [.tmp 4]) (vs := [_]) hE rfl ⟨rfl, trivial⟩ ?_
 subst hr
 replace hS := hS.tail
 exact ⟨rfl, hS⟩
set_option maxHeartbeats 8000000 in
theorem SlicesCompareLint_ok  {w : World} {s : Sg} {R : List HP} {x0 : List Int} {a0 : Option Addr} {c0 : Nat} {x1 : List Int} {a1 : Option Addr} {c1 : Nat} (hS : St w s (R)) (h0 : Sl 1 (RI .i64) s a0 c0 x0) (h1 : Sl 1 (RI .i64) s a1 c1 x1) {r : Int} (hr : SlicesCompareLint x0 x1 = some r) :
  Calls Tryd.prog 82 [.slice a0 x0.length c0, .slice a1 x1.length c1].toArray w (fun e w => e = .returned (vi r) ∧ St w s (R)) := by
 refine enter Tryd.func82 rfl rfl rfl fun a hE => ?_
 rw [SlicesCompareLint] at hr
 refine W.seq (W.region (vp hS hE rfl rfl fun a hE => WL.nil ?_))
 refine W.seq ?_
 refine W.seq (W.region (vp hS hE rfl rfl fun a hE => ?_))
 refine vP hS hE (Gives.len hE rfl sl45) rfl fun a hE => ?_
 refine vp hS hE rfl rfl fun a hE => WL.nil ?_
 obtain ⟨q52, hq51, hr⟩ := bindS hr
 refine W.cut (fun a w => (.next ()) = q52 ∧ Rep a 36 [(0, .slice a0 x0.length c0), (1, .slice a1 x1.length c1)] ∧ St w s (R)) ?_ ?_
 ·refine W.block ?_
  refine W.loop (fun m a w => ∃ (rest55 : List Int) (k53 : Nat), rest55.length = m ∧ x0.drop k53 = rest55 ∧ SlicesCompareLint.loop1 x1 rest55 k53 = some q52 ∧ Rep a 36 [(0, .slice a0 x0.length c0), (1, .slice a1 x1.length c1), (9, .slice a0 x0.length c0), (10, vi ((x0).length : Int)), (11, vi ((k53 : Nat) : Int))] ∧ St w s (R)) (m := x0.length) ⟨x0, 0, rfl, rfl, hq51, hE.pick _ ⟨rfl, rfl, rfl, rfl, rfl, trivial⟩, hS⟩ ?_
  clear hE hS a w hq51; rintro m59 a w ⟨rest55, k53, rfl, hd56, hq51, hE, hS⟩
  refine W.gen fun K62 hK62 => ?_
  rcases rest55 with _ | ⟨x54, rest55⟩
  ·have hlt57 := drop_nil hd56
   refine W.seq (W.region (vp hS hE rfl rfl fun a hE => WL.nil ?_))
   refine W.seq ?_
   refine W.condF hE rfl (decide_eq_false (by omega)) ?_
   subst hK62
   refine W.exit rfl ?_
   exact ⟨Option.some.inj hq51, hE.pick _ ⟨rfl, rfl, trivial⟩, hS⟩
  obtain ⟨hlt57, hx58, hd56⟩ := drop_cons hd56
  rw [SlicesCompareLint.loop1] at hq51
  refine W.seq (W.region (vp hS hE rfl rfl fun a hE => WL.nil ?_))
  refine W.seq ?_
  refine W.condT hE rfl (decide_eq_true (by omega)) ?_
  refine W.skip ?_
  refine W.seq ?_
  refine W.block ?_
  refine W.seq (W.region (vp hS hE rfl rfl fun a hE => ?_))
  obtain ⟨cs63, hl64, hR65, hat66⟩ := h0.at hx58
  subst hR65
  refine vP hS hE (Gives.idx hE k53 rfl rfl sl45 rfl hlt57 (h0.aok hlt57)) rfl fun a hE => ?_
  refine vP hS hE (Gives.load1 hE rfl (fun w h => hat66 w _ h) ty3) rfl fun a hE => ?_
  refine v2 hS hE rfl rfl rfl rfl fun a hE => WL.nil ?_
  refine W.seq ?_
  refine W.seq (W.region (v2 hS hE rfl rfl rfl rfl fun a hE => ?_))
  refine vP hS hE (Gives.len hE rfl sl45) rfl fun a hE => ?_
  refine vp hS hE rfl rfl fun a hE => WL.nil ?_
  refine W.cond hE rfl (fun hc67 => ?_) (fun hc67 => ?_)
  ·replace hq51 := iteT hc67 hq51
   refine W.seq (W.region (vp hS hE rfl rfl fun a hE => WL.nil ?_))
   refine W.ret ?_
   subst hK62
   rw [← Option.some.inj hq51] at hr
   dsimp only at hr
   refine finG (fn := Tryd.f82) (rs := [.tmp 4]) (vs := [_]) hE rfl ⟨rfl, trivial⟩ ?_
   obtain rfl := Option.some.inj hr
   exact ⟨rfl, hS⟩
  replace hq51 := iteF hc67 hq51
  refine W.skip ?_
  refine W.seq (W.region (v2 hS hE rfl rfl rfl rfl fun a hE => ?_))
  obtain ⟨x68, hx69, hq51⟩ := bindS hq51
  obtain ⟨hi70, hlt71, hy72⟩ := gx_some hx69
  obtain ⟨cs73, hl74, hR75, hat76⟩ := h1.at hy72
  subst hR75
  refine vP hS hE (Gives.idx hE (((k53 : Nat) : Int)).toNat rfl rfl sl45 hi70 hlt71 (h1.aok hlt71)) rfl fun a hE => ?_
  refine vP hS hE (Gives.load1 hE rfl (fun w h => hat76 w _ h) ty3) rfl fun a hE => ?_
  refine vp hS hE rfl rfl fun a hE => WL.nil ?_
  refine W.seq (W.region (v2 hS hE rfl rfl rfl rfl fun a hE => ?_))
  refine WL.fnq hE (CmpCompareint_ok hS  rfl (r := CmpCompareint x54 x68)) (runs_plain rfl) bd54 rfl rfl rfl ?_
  clear hE hS; rintro e w ⟨rfl, hS⟩; refine ⟨_, rfl, ?_⟩; clear a; intro a hE
  refine vp hS hE rfl rfl fun a hE => WL.nil ?_
  refine W.seq (W.region (v2 hS hE rfl rfl rfl rfl fun a hE => WL.nil ?_))
  refine W.cond hE rfl (fun hc77 => ?_) (fun hc77 => ?_)
  ·replace hq51 := iteT hc77 hq51
   refine W.seq (W.region (v2 hS hE rfl rfl rfl rfl fun a hE => WL.nil ?_))
   refine W.ret ?_
   subst hK62
   rw [← Option.some.inj hq51] at hr
   dsimp only at hr
   refine finG (fn := Tryd.f82) (rs := [.tmp 4]) (vs := [_]) hE rfl ⟨rfl, trivial⟩ ?_
   obtain rfl := Option.some.inj hr
   exact ⟨rfl, hS⟩
  replace hq51 := iteF hc77 hq51
  refine W.skip ?_
  refine W.region ?_
  refine vP hS hE (Gives.inc hE rfl (by have := h0.small; omega)) rfl fun a hE => ?_
  refine vp hS hE rfl rfl fun a hE => WL.nil ?_
  subst hK62
  exact ⟨rest55.length, Nat.lt_succ_self _, rest55, k53 + 1, rfl, hd56, hq51, hE.pick _ ⟨rfl, rfl, rfl, rfl, rfl, trivial⟩, hS⟩
 clear hE hS a w; rintro a w ⟨rfl, hE, hS⟩
 dsimp only at hr
 refine W.seq ?_
 refine W.seq (W.region (vp hS hE rfl rfl fun a hE => ?_))
 refine vP hS hE (Gives.len hE rfl sl45) rfl fun a hE => ?_
 refine vp hS hE rfl rfl fun a hE => ?_
 refine vP hS hE (Gives.len hE rfl sl45) rfl fun a hE => ?_
 refine vp hS hE rfl rfl fun a hE => WL.nil ?_
 refine W.cond hE rfl (fun hc78 => ?_) (fun hc78 => ?_)
 ·replace hr := iteT hc78 hr
  refine W.seq (W.region (vp hS hE rfl rfl fun a hE => WL.nil ?_))
  refine W.ret ?_
  refine finG (fn := Tryd.f82) (rs := [.tmp 4]) (vs := [_]) hE rfl ⟨rfl, trivial⟩ ?_
  obtain rfl := Option.some.inj hr
  exact ⟨rfl, hS⟩
 replace hr := iteF hc78 hr
 refine W.skip ?_
 refine W.seq (W.region (vp hS hE rfl rfl fun a hE => WL.nil ?_))
 refine W.ret ?_
 refine finG (fn := Tryd.f82) (rs := [.tmp 4]) (vs := [_]) hE rfl ⟨rfl, trivial⟩ ?_
 obtain rfl := Option.some.inj hr
 exact ⟨rfl, hS⟩
set_option maxHeartbeats 8000000 in
theorem Fishref2ProfileOf_1_ok  {w : World} {s : Sg} {R : List HP} {x0 : GuidePoint} {x1 : GuidePoint} (hS : St w s (R))  {r : Int} (hr : Fishref2ProfileOf_1 x0 x1 = some r) :
  Calls Tryd.prog 81 [.agg (GuidePoint.cells x0).toArray, .agg (GuidePoint.cells x1).toArray].toArray w (fun e w => e = .returned (vi r) ∧ St w s (R)) := by
 refine enter Tryd.func81 rfl rfl rfl fun a hE => ?_
 rw [Fishref2ProfileOf_1] at hr
 refine W.seq (W.region ?_)
 refine WL.box hE hS (runs_plain rfl) rfl rfl rfl ?_; clear hE hS a w; intro b51 a w hE hS
 refine WL.box hE hS (runs_plain rfl) rfl rfl rfl ?_; clear hE hS a w; intro b52 a w hE hS
 refine vp hS hE rfl rfl fun a hE => WL.nil ?_
 refine W.seq (W.region (vP hS hE (Gives.fld hE rfl fl62_0) rfl fun a hE => ?_))
 refine vP hS hE (Gives.loadB hE 1 rfl rfl rfl ty3) rfl fun a hE => ?_
 refine vP hS hE (Gives.fld hE rfl fl62_1) rfl fun a hE => ?_
 refine vP hS hE (Gives.loadB hE 1 rfl rfl rfl ty3) rfl fun a hE => ?_
 refine vP hS hE (Gives.fld hE rfl fl62_2) rfl fun a hE => ?_
 refine vP hS hE (Gives.loadB hE 1 rfl rfl rfl ty3) rfl fun a hE => ?_
 refine WL.lit hE hS (e := 3) (es := 1) (vs := [(0, vi x0.Dep), (1, vi x0.Arr), (2, vi x0.Rides)]) (cs := [vi x0.Dep, vi x0.Arr, vi x0.Rides]) (runs_plain rfl) rfl (by kernel_rfl) rfl ?_; clear hE hS a w; intro b53 a w hE hS
 replace hS := hS.ptVec (es := 1) (m := 3) rfl (by decide)
 have h55 : Ev 1 (RI .i64) s [vi x0.Dep, vi x0.Arr, vi x0.Rides] [x0.Dep, x0.Arr, x0.Rides] := (Ev.cons (c1 := [vi x0.Dep]) rfl rfl (Ev.cons (c1 := [vi x0.Arr]) rfl rfl (Ev.cons (c1 := [vi x0.Rides]) rfl rfl (Ev.nil))))
 have hF := hS.fixD RI.mono 0 rfl h55 (rfl); clear hS; obtain ⟨s56, hle57, hS, h58⟩ := hF
 refine vP hS hE (Gives.fld hE rfl fl62_0) rfl fun a hE => ?_
 refine vP hS hE (Gives.loadB hE 0 rfl rfl rfl ty3) rfl fun a hE => ?_
 refine vP hS hE (Gives.fld hE rfl fl62_1) rfl fun a hE => ?_
 refine vP hS hE (Gives.loadB hE 0 rfl rfl rfl ty3) rfl fun a hE => ?_
 refine vP hS hE (Gives.fld hE rfl fl62_2) rfl fun a hE => ?_
 refine vP hS hE (Gives.loadB hE 0 rfl rfl rfl ty3) rfl fun a hE => ?_
 refine WL.lit hE hS (e := 3) (es := 1) (vs := [(0, vi x1.Dep), (1, vi x1.Arr), (2, vi x1.Rides)]) (cs := [vi x1.Dep, vi x1.Arr, vi x1.Rides]) (runs_plain rfl) rfl (by kernel_rfl) rfl ?_; clear hE hS a w; intro b59 a w hE hS
 replace hS := hS.ptVec (es := 1) (m := 3) rfl (by decide)
 have h61 : Ev 1 (RI .i64) s56 [vi x1.Dep, vi x1.Arr, vi x1.Rides] [x1.Dep, x1.Arr, x1.Rides] := (Ev.cons (c1 := [vi x1.Dep]) rfl rfl (Ev.cons (c1 := [vi x1.Arr]) rfl rfl (Ev.cons (c1 := [vi x1.Rides]) rfl rfl (Ev.nil))))
 have hF := hS.fixD RI.mono 0 rfl h61 (rfl); clear hS; obtain ⟨s62, hle63, hS, h64⟩ := hF
 replace h58 := Sl.mono RI.mono hle63 h58
 obtain ⟨q65, hq66, hr⟩ := bindS hr
 have hc_ := SlicesCompareLint_ok hS h58 h64 hq66
 refine WL.fnq hE (hc_) (runs_plain rfl) bd82 rfl rfl rfl ?_
 clear hE hS hc_; rintro e w ⟨rfl, hS⟩; refine ⟨_, rfl, ?_⟩; clear a; intro a hE
 refine vp hS hE rfl rfl fun a hE => WL.nil ?_
 refine W.ret ?_
 refine finG (fn := Tryd.f81) (rs := [.tmp 4]) (vs := [_]) hE rfl ⟨rfl, trivial⟩ ?_
 obtain rfl := Option.some.inj hr
 replace hS := hS.tail
 replace hS := hS.tail
 exact ⟨rfl, (hS.down (Sg.Le.trans hle57 hle63))⟩
set_option maxHeartbeats 8000000 in
theorem Fishref2ProfileOf_ok {fu : Nat}  {w : World} {s : Sg} {R : List HP} {x0 : ApiDay} {a0_0 : Option Addr} {c0_0 : Nat} {a0_1 : Option Addr} {c0_1 : Nat} {x1 : Int} {x2 : Int} {x3 : Int} (hS : St w s (R)) (h0_0 : Sl 4 RApiTrain s a0_0 c0_0 x0.Trains) (h0_1 : Sl 1 (RL 1 (RI .i64)) s a0_1 c0_1 x0.Turns) {r : (List GuidePoint)} (hr : Fishref2ProfileOf fu x0 x1 x2 x3 = some r) :
  Calls Tryd.prog 28 [.agg [.slice a0_0 x0.Trains.length c0_0, .slice a0_1 x0.Turns.length c0_1].toArray, vi x1, vi x2, vi x3].toArray w (fun e w => ∃ (a0 : Option Addr) (c0 n0 : Nat) (cs0 : List Value) (t : Sg), e = .returned (.slice a0 n0 c0) ∧ s.Le t ∧ Ev 3 RGuidePoint t cs0 r ∧ r.length = n0 ∧ St w t (vecC 62 3 a0 c0 n0 cs0 :: R)) := by
 refine enter Tryd.func28 rfl rfl rfl fun a hE => ?_
 rw [Fishref2ProfileOf] at hr
 refine W.seq (W.region ?_)
 refine WL.box hE hS (runs_plain rfl) rfl rfl rfl ?_; clear hE hS a w; intro b51 a w hE hS
 refine vp hS hE rfl rfl fun a hE => WL.nil ?_
 refine W.seq (W.region ?_)
 replace hS := hS.vecNil 62 3
 refine vp hS hE rfl rfl fun a hE => ?_
 replace hS := hS.vecNil 62 3
 refine vp hS hE rfl rfl fun a hE => WL.nil ?_
 refine W.seq ?_
 refine W.seq (W.region (vP hS hE (Gives.loadBA hE 2 rfl rfl ty25) rfl fun a hE => ?_))
 refine v2 hS hE rfl rfl rfl rfl fun a hE => ?_
 refine vp hS hE rfl rfl fun a hE => ?_
 obtain ⟨q54, hq55, hr⟩ := bindS hr
 have hc_ := Fishref2AllOf_ok hS h0_0 h0_1 hq55
 refine WL.fnq hE (hc_) (runs_plain rfl) bd29 rfl rfl rfl ?_
 clear hE hS hc_; rintro e w ⟨a56, c57, n58, cs59, s62, rfl, hle63, h60, rfl, hS⟩; refine ⟨_, rfl, ?_⟩; clear a; intro a hE
 replace h0_0 := Sl.mono RApiTrain.mono hle63 h0_0
 replace h0_1 := Sl.mono (RL.mono RI.mono) hle63 h0_1
 refine vP hS hE (Gives.len hE rfl sl39) rfl fun a hE => ?_
 refine vp hS hE rfl rfl fun a hE => WL.nil ?_
 have hb75 : q54.length ≤ 9223372036854775807 := by have := hS.vecCap 0 rfl; unfold maxLen at this; omega
 obtain ⟨q65, hq64, hr⟩ := bindS hr
 refine W.cut (fun a w => ∃ (q76 : List GuidePoint), ∃ (a77 : Option Addr), ∃ (c78 : Nat), ∃ (n80 : Nat), ∃ (cs81 : List Value), q76 = q65 ∧ Ev 3 RGuidePoint s62 cs81 q76 ∧ q76.length = n80 ∧ Rep a 94 [(9, .slice a77 n80 c78), (10, .slice none 0 0)] ∧ St w s62 (vecC 28 1 a56 c57 q54.length cs59 :: vecC 62 3 none 0 0 [] :: vecC 62 3 a77 c78 n80 cs81 :: pc b51 #[.slice a0_0 x0.Trains.length c0_0, .slice a0_1 x0.Turns.length c0_1] 25 :: R)) ?_ ?_
 ·refine W.block ?_
  refine W.loop (fun m a w => ∃ (rest68 : Nat) (k66 : Nat), ∃ (q76 : List GuidePoint), ∃ (a77 : Option Addr), ∃ (c78 : Nat), ∃ (n80 : Nat), ∃ (cs81 : List Value), rest68 = m ∧ k66 + rest68 = q54.length ∧ Fishref2ProfileOf.loop1 x0 q54 rest68 k66 q76 = some q65 ∧ Ev 3 RGuidePoint s62 cs81 q76 ∧ q76.length = n80 ∧ Rep a 94 [(4, pp b51), (9, .slice a77 n80 c78), (10, .slice none 0 0), (22, .slice a56 q54.length c57), (23, vi ((q54.length : Nat) : Int)), (24, vi ((k66 : Nat) : Int))] ∧ St w s62 (vecC 28 1 a56 c57 q54.length cs59 :: vecC 62 3 none 0 0 [] :: vecC 62 3 a77 c78 n80 cs81 :: pc b51 #[.slice a0_0 x0.Trains.length c0_0, .slice a0_1 x0.Turns.length c0_1] 25 :: R)) (m := q54.length) ⟨q54.length, 0, [], none, 0, 0, [], rfl, by omega, hq64, (Ev.nil), (rfl), hE.pick _ ⟨rfl, rfl, rfl, rfl, rfl, rfl, trivial⟩, hS⟩ ?_
  clear hE hS a w hq64; rintro m72 a w ⟨rest68, k66, q76, a77, c78, n80, cs81, rfl, hd69, hq64, h79, rfl, hE, hS⟩
  refine W.gen fun K83 hK83 => ?_
  rcases rest68 with _ | rest68
  ·skip
   refine W.seq (W.region (vp hS hE rfl rfl fun a hE => WL.nil ?_))
   refine W.seq ?_
   refine W.condF hE rfl (decide_eq_false (by omega)) ?_
   subst hK83
   refine W.exit rfl ?_
   exact ⟨q76, a77, c78, q76.length, cs81, Option.some.inj hq64, h79, rfl, hE.pick _ ⟨rfl, rfl, trivial⟩, hS⟩
  have hlt70 : k66 < q54.length := by omega
  rw [Fishref2ProfileOf.loop1] at hq64
  refine W.seq (W.region (vp hS hE rfl rfl fun a hE => WL.nil ?_))
  refine W.seq ?_
  refine W.condT hE rfl (decide_eq_true (by omega)) ?_
  refine W.skip ?_
  refine W.seq ?_
  refine W.block ?_
  refine W.seq (W.region ?_)
  obtain ⟨x84, hx85, hq64⟩ := bindS hq64
  obtain ⟨hi86, hlt87, hy88⟩ := gx_some hx85
  obtain ⟨vs89, hl90, hR91, hd92, hget93⟩ := h60.at hy88
  obtain ⟨a94, c95, rfl, h96⟩ := hR91
  refine vP hS hE (Gives.idx hE ((((k66 : Nat) : Int)).toNat) rfl rfl sl39 hi86 (by omega) (hS.vecAok 0 rfl (by omega : (((k66 : Nat) : Int)).toNat < q54.length))) rfl fun a hE => ?_
  refine vP hS hE (Gives.loadA hE rfl (fun w h => St.vecSees h 0 rfl ((((k66 : Nat) : Int)).toNat * 1) _ hget93) ty28) rfl fun a hE => ?_
  refine WL.alloc hE hS (runs_plain rfl) zr28 rfl ?_; clear hE hS a w; intro b97 a w hE hS
  refine WL.storeI hE hS 0 rfl [.slice a94 x84.Rides.length c95] (runs_plain rfl) rfl rfl rfl ty28 rfl rfl rfl rfl ?_; clear hE hS a w; intro a w hE hS
  refine WL.nil ?_
  refine W.gen fun K98 hK98 => ?_
  refine W.regionE (sel (fun w => St w s62 (pc b97 #[.slice a94 x84.Rides.length c95] 28 :: vecC 28 1 a56 c57 q54.length cs59 :: vecC 62 3 none 0 0 [] :: vecC 62 3 a77 c78 q76.length cs81 :: pc b51 #[.slice a0_0 x0.Trains.length c0_0, .slice a0_1 x0.Turns.length c0_1] 25 :: R)) (fun w => St w s62 (pc b97 #[.slice a94 x84.Rides.length c95] 28 :: vecC 28 1 a56 c57 q54.length cs59 :: vecC 62 3 none 0 0 [] :: pc b51 #[.slice a0_0 x0.Trains.length c0_0, .slice a0_1 x0.Turns.length c0_1] 25 :: R))) (fun b i => cond b ([0, 1, 2, 3, 4, 5, 6, 7, 8, 9, 10, 11, 13].contains i) ([0, 1, 2, 3, 4, 5, 6, 7, 8, 9, 10, 11, 12, 13].contains i)) mixed ?_
  replace hS := hS.drew
  refine tP (i := 0) hE rfl (by kernel_rfl) (Gives.p hE rfl) rfl hS (hS.dropAt 3) fun a hE => ?_
  have hT := tw_sel (A := fun w => St w s62 _) (B := fun w => St w s62 _) (w := _) (x := true) (y := true) (fun _ => hS) (fun _ => (hS.dropAt 3))
  have hF := hS; replace hS := (hS.dropAt 3)
  refine Rg.take (i := 1) false rfl hE rfl (by kernel_rfl) (runs_plain rfl) (Gives.loadBA hE 3 rfl rfl ty25) rfl hT fun a hE => ?_
  replace hS := hF; clear hF hT
  have hT := tw_sel (A := fun w => St w s62 _) (B := fun w => St w s62 _) (w := _) (x := true) (y := true) (fun _ => hS) (fun _ => (hS.dropAt 3))
  have hF := hS; replace hS := (hS.dropAt 3)
  refine Rg.take (i := 2) false rfl hE rfl (by kernel_rfl) (runs_plain rfl) (Gives.loadBA hE 0 rfl rfl ty28) rfl hT fun a hE => ?_
  replace hS := hF; clear hF hT
  have hT := tw_sel (A := fun w => St w s62 _) (B := fun w => St w s62 _) (w := _) (x := true) (y := true) (fun _ => hS) (fun _ => (hS.dropAt 3))
  have hF := hS; replace hS := (hS.dropAt 3)
  refine Rg.take (i := 4) false rfl hE rfl (by kernel_rfl) (runs_plain rfl) (Gives.loadBA hE 3 rfl rfl ty25) rfl hT fun a hE => ?_
  replace hS := hF; clear hF hT
  have hT := tw_sel (A := fun w => St w s62 _) (B := fun w => St w s62 _) (w := _) (x := true) (y := true) (fun _ => hS) (fun _ => (hS.dropAt 3))
  have hF := hS; replace hS := (hS.dropAt 3)
  refine Rg.take (i := 5) false rfl hE rfl (by kernel_rfl) (runs_plain rfl) (Gives.loadBA hE 0 rfl rfl ty28) rfl hT fun a hE => ?_
  replace hS := hF; clear hF hT
  refine tP (i := 7) hE rfl (by kernel_rfl) (Gives.fld hE rfl fl28_0) rfl hS (hS.dropAt 3) fun a hE => ?_
  have hT := tw_sel (A := fun w => St w s62 _) (B := fun w => St w s62 _) (w := _) (x := true) (y := true) (fun _ => hS) (fun _ => (hS.dropAt 3))
  have hF := hS; replace hS := (hS.dropAt 3)
  refine Rg.take (i := 8) false rfl hE rfl (by kernel_rfl) (runs_plain rfl) (Gives.loadB hE 0 rfl rfl rfl ty26) rfl hT fun a hE => ?_
  replace hS := hF; clear hF hT
  refine tP (i := 9) hE rfl (by kernel_rfl) (Gives.len hE rfl sl26) rfl hS (hS.dropAt 3) fun a hE => ?_
  refine Rg.one (i := 3) true true rfl (by kernel_rfl) (by kernel_rfl) (by kernel_rfl) ?_
  obtain ⟨q99, hq100, hq64⟩ := bindS hq64
  have hc_ := Fishref2Leaves_ok hS h0_0 h0_1 h96 hq100
  refine WL.fnq hE (hc_) (runs_plain rfl) bd60 rfl rfl rfl ?_
  clear hE hS hc_; rintro e w ⟨rfl, hS⟩; refine ⟨_, rfl, ?_⟩; clear a; intro a hE
  refine WL.nil ?_
  refine ⟨⟨fun _ => hS, fun _ => (hS.dropAt 3)⟩, ?_⟩
  refine Rg.one (i := 6) true true rfl (by kernel_rfl) (by kernel_rfl) (by kernel_rfl) ?_
  obtain ⟨q101, hq102, hq64⟩ := bindS hq64
  have hc_ := Fishref2Arrives_ok hS h0_0 h0_1 h96 hq102
  refine WL.fnq hE (hc_) (runs_plain rfl) bd63 rfl rfl rfl ?_
  clear hE hS hc_; rintro e w ⟨rfl, hS⟩; refine ⟨_, rfl, ?_⟩; clear a; intro a hE
  refine WL.nil ?_
  refine ⟨⟨fun _ => hS, fun _ => (hS.dropAt 3)⟩, ?_⟩
  refine tP (i := 10) hE rfl (by kernel_rfl) (Gives.build hE (vs := [(0, vi q99), (1, vi q101), (2, vi ((x84.Rides).length : Int))]) [vi q99, vi q101, vi ((x84.Rides).length : Int)] rfl (by kernel_rfl)) rfl hS (hS.dropAt 3) fun a hE => ?_
  refine Rg.one (i := 11) true true rfl (by kernel_rfl) (by kernel_rfl) (by kernel_rfl) ?_
  refine WL.lit hE hS (e := 62) (es := 3) (vs := [(0, .agg [vi q99, vi q101, vi ((x84.Rides).length : Int)].toArray)]) (cs := [vi q99, vi q101, vi ((x84.Rides).length : Int)]) (runs_plain rfl) rfl (by kernel_rfl) rfl ?_; clear hE hS a w; intro b103 a w hE hS
  refine WL.nil ?_
  refine ⟨⟨fun _ => (hS.tail), fun _ => ((hS.tail).dropAt 3)⟩, ?_⟩
  refine Rg.one (i := 12) false true rfl (by kernel_rfl) (by kernel_rfl) (by kernel_rfl) ?_
  obtain ⟨x104, hx105, hq64⟩ := bindS hq64
  refine WL.appD hE hS 3 (m := 1) (runs_plain rfl) rfl rfl rfl ap55 rfl h79 rfl (xs := [(GuidePoint.mk q99 q101 ((x84.Rides).length : Int))]) (Ev.cons (c1 := [vi q99, vi q101, vi ((x84.Rides).length : Int)]) rfl rfl (Ev.nil)) rfl rfl hx105 rfl ?_; clear hE hS a w; intro a106 c107 cs108 a w h109 hE hS
  refine WL.nil ?_
  refine ⟨⟨fun h => absurd h (by decide), fun _ => (hS.dropAt 3)⟩, ?_⟩
  refine Rg.takeP (i := 13) hE rfl (by kernel_rfl) (runs_plain rfl) (Gives.p hE rfl) rfl (tw_sel (fun h => absurd h (by decide)) (fun _ => (hS.dropAt 3))) fun a hE => ?_
  refine Rg.done (by kernel_rfl) ?_
  subst hK98
  refine W.region ?_
  refine vP hS hE (Gives.inc hE rfl (by omega)) rfl fun a hE => ?_
  refine vp hS hE rfl rfl fun a hE => WL.nil ?_
  replace hS := hS.tail
  subst hK83
  exact ⟨rest68, Nat.lt_succ_self _, rest68, k66 + 1, x104, a106, c107, x104.length, cs108, rfl, (by omega), hq64, h109, (rfl), hE.pick _ ⟨rfl, rfl, rfl, rfl, rfl, rfl, trivial⟩, hS⟩
 clear hE hS a w; rintro a w ⟨q76, a77, c78, n80, cs81, rfl, h79, rfl, hE, hS⟩
 refine W.seq ?_
 refine W.seq (W.region (vp hS hE rfl rfl fun a hE => ?_))
 refine vP hS hE (Gives.len hE rfl sl55) rfl fun a hE => ?_
 refine vp hS hE rfl rfl fun a hE => WL.nil ?_
 replace hS := hS.tail
 have hb121 : q76.length ≤ 9223372036854775807 := by have := hS.vecCap 1 rfl; unfold maxLen at this; omega
 obtain ⟨q111, hq110, hr⟩ := bindS hr
 refine W.cut (fun a w => ∃ (q122 : List GuidePoint), ∃ (a123 : Option Addr), ∃ (c124 : Nat), ∃ (n126 : Nat), ∃ (cs127 : List Value), q122 = q111 ∧ Ev 3 RGuidePoint s62 cs127 q122 ∧ q122.length = n126 ∧ Rep a 94 [(10, .slice a123 n126 c124)] ∧ St w s62 (vecC 62 3 a123 c124 n126 cs127 :: vecC 62 3 a77 c78 q76.length cs81 :: pc b51 #[.slice a0_0 x0.Trains.length c0_0, .slice a0_1 x0.Turns.length c0_1] 25 :: R)) ?_ ?_
 ·refine W.block ?_
  refine W.loop (fun m a w => ∃ (rest114 : Nat) (k112 : Nat), ∃ (q122 : List GuidePoint), ∃ (a123 : Option Addr), ∃ (c124 : Nat), ∃ (n126 : Nat), ∃ (cs127 : List Value), rest114 = m ∧ k112 + rest114 = q76.length ∧ Fishref2ProfileOf.loop2 q76 rest114 k112 q122 = some q111 ∧ Ev 3 RGuidePoint s62 cs127 q122 ∧ q122.length = n126 ∧ Rep a 94 [(9, .slice a77 q76.length c78), (10, .slice a123 n126 c124), (42, .slice a77 q76.length c78), (43, vi ((q76.length : Nat) : Int)), (44, vi ((k112 : Nat) : Int))] ∧ St w s62 (vecC 62 3 a123 c124 n126 cs127 :: vecC 62 3 a77 c78 q76.length cs81 :: pc b51 #[.slice a0_0 x0.Trains.length c0_0, .slice a0_1 x0.Turns.length c0_1] 25 :: R)) (m := q76.length) ⟨q76.length, 0, [], none, 0, 0, [], rfl, by omega, hq110, (Ev.nil), (rfl), hE.pick _ ⟨rfl, rfl, rfl, rfl, rfl, trivial⟩, hS⟩ ?_
  clear hE hS a w hq110; rintro m118 a w ⟨rest114, k112, q122, a123, c124, n126, cs127, rfl, hd115, hq110, h125, rfl, hE, hS⟩
  refine W.gen fun K129 hK129 => ?_
  rcases rest114 with _ | rest114
  ·skip
   refine W.seq (W.region (vp hS hE rfl rfl fun a hE => WL.nil ?_))
   refine W.seq ?_
   refine W.condF hE rfl (decide_eq_false (by omega)) ?_
   subst hK129
   refine W.exit rfl ?_
   exact ⟨q122, a123, c124, q122.length, cs127, Option.some.inj hq110, h125, rfl, hE.pick _ ⟨rfl, trivial⟩, hS⟩
  have hlt116 : k112 < q76.length := by omega
  rw [Fishref2ProfileOf.loop2] at hq110
  refine W.seq (W.region (vp hS hE rfl rfl fun a hE => WL.nil ?_))
  refine W.seq ?_
  refine W.condT hE rfl (decide_eq_true (by omega)) ?_
  refine W.skip ?_
  refine W.seq ?_
  refine W.block ?_
  refine W.seq (W.region ?_)
  obtain ⟨x130, hx131, hq110⟩ := bindS hq110
  obtain ⟨hi132, hlt133, hy134⟩ := gx_some hx131
  obtain ⟨vs135, hl136, hR137, hd138, hget139⟩ := h79.at hy134
  subst hR137
  refine vP hS hE (Gives.idx hE ((((k112 : Nat) : Int)).toNat) rfl rfl sl55 hi132 (by omega) (hS.vecAok 1 rfl (by omega : (((k112 : Nat) : Int)).toNat < q76.length))) rfl fun a hE => ?_
  refine vP hS hE (Gives.loadA hE rfl (fun w h => St.vecSees h 1 rfl ((((k112 : Nat) : Int)).toNat * 3) _ hget139) ty62) rfl fun a hE => ?_
  refine WL.alloc hE hS (runs_plain rfl) zr62 rfl ?_; clear hE hS a w; intro b140 a w hE hS
  refine WL.storeI hE hS 0 rfl (GuidePoint.cells x130) (runs_plain rfl) rfl rfl rfl ty62 rfl rfl rfl rfl ?_; clear hE hS a w; intro a w hE hS
  refine WL.nil ?_
  refine W.seq (W.region (vp hS hE rfl rfl fun a hE => WL.nil ?_))
  refine W.seq ?_
  refine W.seq (W.region (vp hS hE rfl rfl fun a hE => ?_))
  refine vP hS hE (Gives.len hE rfl sl55) rfl fun a hE => ?_
  refine vp hS hE rfl rfl fun a hE => WL.nil ?_
  have hb152 : q76.length ≤ 9223372036854775807 := by have := hS.vecCap 2 rfl; unfold maxLen at this; omega
  obtain ⟨q142, hq141, hq110⟩ := bindS hq110
  refine W.cut (fun a w => ∃ (q153 : Bool), q153 = q142 ∧ Rep a 94 [(9, .slice a77 q76.length c78), (10, .slice a123 q122.length c124), (14, pp b140), (15, .bool q153), (42, .slice a77 q76.length c78), (43, vi ((q76.length : Nat) : Int)), (44, vi ((k112 : Nat) : Int))] ∧ St w s62 (pc b140 (GuidePoint.cells x130).toArray 62 :: vecC 62 3 a123 c124 q122.length cs127 :: vecC 62 3 a77 c78 q76.length cs81 :: pc b51 #[.slice a0_0 x0.Trains.length c0_0, .slice a0_1 x0.Turns.length c0_1] 25 :: R)) ?_ ?_
  ·refine W.block ?_
   refine W.loop (fun m a w => ∃ (rest145 : Nat) (k143 : Nat), ∃ (q153 : Bool), rest145 = m ∧ k143 + rest145 = q76.length ∧ Fishref2ProfileOf.loop3 q76 x130 rest145 k143 q153 = some q142 ∧ Rep a 94 [(9, .slice a77 q76.length c78), (10, .slice a123 q122.length c124), (14, pp b140), (15, .bool q153), (42, .slice a77 q76.length c78), (43, vi ((q76.length : Nat) : Int)), (44, vi ((k112 : Nat) : Int)), (48, .slice a77 q76.length c78), (49, vi ((q76.length : Nat) : Int)), (50, vi ((k143 : Nat) : Int))] ∧ St w s62 (pc b140 (GuidePoint.cells x130).toArray 62 :: vecC 62 3 a123 c124 q122.length cs127 :: vecC 62 3 a77 c78 q76.length cs81 :: pc b51 #[.slice a0_0 x0.Trains.length c0_0, .slice a0_1 x0.Turns.length c0_1] 25 :: R)) (m := q76.length) ⟨q76.length, 0, true, rfl, by omega, hq141, hE.pick _ ⟨rfl, rfl, rfl, rfl, rfl, rfl, rfl, rfl, rfl, rfl, trivial⟩, hS⟩ ?_
   clear hE hS a w hq141; rintro m149 a w ⟨rest145, k143, q153, rfl, hd146, hq141, hE, hS⟩
   refine W.gen fun K154 hK154 => ?_
   rcases rest145 with _ | rest145
   ·skip
    refine W.seq (W.region (vp hS hE rfl rfl fun a hE => WL.nil ?_))
    refine W.seq ?_
    refine W.condF hE rfl (decide_eq_false (by omega)) ?_
    subst hK154
    refine W.exit rfl ?_
    exact ⟨q153, Option.some.inj hq141, hE.pick _ ⟨rfl, rfl, rfl, rfl, rfl, rfl, rfl, trivial⟩, hS⟩
   have hlt147 : k143 < q76.length := by omega
   rw [Fishref2ProfileOf.loop3] at hq141
   refine W.seq (W.region (vp hS hE rfl rfl fun a hE => WL.nil ?_))
   refine W.seq ?_
   refine W.condT hE rfl (decide_eq_true (by omega)) ?_
   refine W.skip ?_
   refine W.seq ?_
   refine W.block ?_
   refine W.seq (W.region ?_)
   obtain ⟨x155, hx156, hq141⟩ := bindS hq141
   obtain ⟨hi157, hlt158, hy159⟩ := gx_some hx156
   obtain ⟨vs160, hl161, hR162, hd163, hget164⟩ := h79.at hy159
   subst hR162
   refine vP hS hE (Gives.idx hE ((((k143 : Nat) : Int)).toNat) rfl rfl sl55 hi157 (by omega) (hS.vecAok 2 rfl (by omega : (((k143 : Nat) : Int)).toNat < q76.length))) rfl fun a hE => ?_
   refine vP hS hE (Gives.loadA hE rfl (fun w h => St.vecSees h 2 rfl ((((k143 : Nat) : Int)).toNat * 3) _ hget164) ty62) rfl fun a hE => ?_
   refine WL.alloc hE hS (runs_plain rfl) zr62 rfl ?_; clear hE hS a w; intro b165 a w hE hS
   refine WL.storeI hE hS 0 rfl (GuidePoint.cells x155) (runs_plain rfl) rfl rfl rfl ty62 rfl rfl rfl rfl ?_; clear hE hS a w; intro a w hE hS
   refine WL.nil ?_
   refine W.seq ?_
   obtain ⟨q167, hq166, hq141⟩ := bndS hq141
   refine W.cut (fun a w => ∃ (q170 : Bool), q170 = q167 ∧ Rep a 94 [(9, .slice a77 q76.length c78), (10, .slice a123 q122.length c124), (14, pp b140), (15, .bool q153), (42, .slice a77 q76.length c78), (43, vi ((q76.length : Nat) : Int)), (44, vi ((k112 : Nat) : Int)), (48, .slice a77 q76.length c78), (49, vi ((q76.length : Nat) : Int)), (50, vi ((k143 : Nat) : Int)), (77, .bool q170)] ∧ St w s62 (pc b165 (GuidePoint.cells x155).toArray 62 :: pc b140 (GuidePoint.cells x130).toArray 62 :: vecC 62 3 a123 c124 q122.length cs127 :: vecC 62 3 a77 c78 q76.length cs81 :: pc b51 #[.slice a0_0 x0.Trains.length c0_0, .slice a0_1 x0.Turns.length c0_1] 25 :: R)) ?_ ?_
   ·refine W.gen fun K171 hK171 => ?_
    refine W.region ?_
    refine vP hS hE (Gives.loadBA hE 0 rfl rfl ty62) rfl fun a hE => ?_
    refine vP hS hE (Gives.loadBA hE 1 rfl rfl ty62) rfl fun a hE => ?_
    refine vP hS hE (show Gives _ _ _ _ (Value.bool (!((x155.Dep == x130.Dep) && ((x155.Arr == x130.Arr) && (x155.Rides == x130.Rides))))) from Gives.neS hE [.i .i64, .i .i64, .i .i64] [.i .i64 x155.Dep, .i .i64 x155.Arr, .i .i64 x155.Rides] [.i .i64 x130.Dep, .i .i64 x130.Arr, .i .i64 x130.Rides] rfl rfl se62 rfl rfl rfl rfl) rfl fun a hE => ?_
    refine vp hS hE rfl rfl fun a hE => ?_
    rcases Bool.eq_false_or_eq_true (!((x155.Dep == x130.Dep) && ((x155.Arr == x130.Arr) && (x155.Rides == x130.Rides)))) with hg172 | hg172
    ·replace hq166 := iteT hg172 hq166
     refine WL.vS hS hE (runs_if hE rfl rfl rfl hg172) (Gives.fld hE rfl fl62_0) rfl fun a hE => ?_
     refine WL.vS hS hE (runs_if hE rfl rfl rfl hg172) (Gives.loadB hE 0 rfl rfl rfl ty3) rfl fun a hE => ?_
     refine WL.vS hS hE (runs_if hE rfl rfl rfl hg172) (Gives.fld hE rfl fl62_0) rfl fun a hE => ?_
     refine WL.vS hS hE (runs_if hE rfl rfl rfl hg172) (Gives.loadB hE 1 rfl rfl rfl ty3) rfl fun a hE => ?_
     refine WL.vS hS hE (runs_if hE rfl rfl rfl hg172) (Gives.p hE rfl) rfl fun a hE => ?_
     refine vP hS hE (Gives.pickT hE rfl hg172 rfl) rfl fun a hE => ?_
     refine vp hS hE rfl rfl fun a hE => ?_
     rcases Bool.eq_false_or_eq_true (decide (x155.Dep ≥ x130.Dep)) with hg173 | hg173
     ·replace hq166 := iteT hg173 hq166
      refine WL.vS hS hE (runs_if hE rfl rfl rfl hg173) (Gives.fld hE rfl fl62_1) rfl fun a hE => ?_
      refine WL.vS hS hE (runs_if hE rfl rfl rfl hg173) (Gives.loadB hE 0 rfl rfl rfl ty3) rfl fun a hE => ?_
      refine WL.vS hS hE (runs_if hE rfl rfl rfl hg173) (Gives.fld hE rfl fl62_1) rfl fun a hE => ?_
      refine WL.vS hS hE (runs_if hE rfl rfl rfl hg173) (Gives.loadB hE 1 rfl rfl rfl ty3) rfl fun a hE => ?_
      refine WL.vS hS hE (runs_if hE rfl rfl rfl hg173) (Gives.p hE rfl) rfl fun a hE => ?_
      refine vP hS hE (Gives.pickT hE rfl hg173 rfl) rfl fun a hE => ?_
      refine vp hS hE rfl rfl fun a hE => ?_
      rcases Bool.eq_false_or_eq_true (decide (x155.Arr ≤ x130.Arr)) with hg174 | hg174
      ·replace hq166 := iteT hg174 hq166
       refine WL.vS hS hE (runs_if hE rfl rfl rfl hg174) (Gives.fld hE rfl fl62_2) rfl fun a hE => ?_
       refine WL.vS hS hE (runs_if hE rfl rfl rfl hg174) (Gives.loadB hE 0 rfl rfl rfl ty3) rfl fun a hE => ?_
       refine WL.vS hS hE (runs_if hE rfl rfl rfl hg174) (Gives.fld hE rfl fl62_2) rfl fun a hE => ?_
       refine WL.vS hS hE (runs_if hE rfl rfl rfl hg174) (Gives.loadB hE 1 rfl rfl rfl ty3) rfl fun a hE => ?_
       refine WL.vS hS hE (runs_if hE rfl rfl rfl hg174) (Gives.p hE rfl) rfl fun a hE => ?_
       refine vP hS hE (Gives.pickT hE rfl hg174 rfl) rfl fun a hE => WL.nil ?_
       subst hK171
       exact ⟨decide (x155.Rides ≤ x130.Rides), hq166, hE.pick _ ⟨rfl, rfl, rfl, rfl, rfl, rfl, rfl, rfl, rfl, rfl, rfl, trivial⟩, hS⟩
      replace hq166 := iteF hg174 hq166
      refine nO hE rfl rfl rfl (by rw [hg174]; decide) rfl fun a hE => ?_
      refine nO hE rfl rfl rfl (by rw [hg174]; decide) rfl fun a hE => ?_
      refine nO hE rfl rfl rfl (by rw [hg174]; decide) rfl fun a hE => ?_
      refine nO hE rfl rfl rfl (by rw [hg174]; decide) rfl fun a hE => ?_
      refine nO hE rfl rfl rfl (by rw [hg174]; decide) rfl fun a hE => ?_
      refine vP hS hE (Gives.pickF hE rfl hg174 rfl) rfl fun a hE => WL.nil ?_
      subst hK171
      exact ⟨false, hq166, hE.pick _ ⟨rfl, rfl, rfl, rfl, rfl, rfl, rfl, rfl, rfl, rfl, rfl, trivial⟩, hS⟩
     replace hq166 := iteF hg173 hq166
     refine nO hE rfl rfl rfl (by rw [hg173]; decide) rfl fun a hE => ?_
     refine nO hE rfl rfl rfl (by rw [hg173]; decide) rfl fun a hE => ?_
     refine nO hE rfl rfl rfl (by rw [hg173]; decide) rfl fun a hE => ?_
     refine nO hE rfl rfl rfl (by rw [hg173]; decide) rfl fun a hE => ?_
     refine nO hE rfl rfl rfl (by rw [hg173]; decide) rfl fun a hE => ?_
     refine vP hS hE (Gives.pickF hE rfl hg173 rfl) rfl fun a hE => ?_
     refine vp hS hE rfl rfl fun a hE => ?_
     refine nO hE rfl rfl rfl (by decide) rfl fun a hE => ?_
     refine nO hE rfl rfl rfl (by decide) rfl fun a hE => ?_
     refine nO hE rfl rfl rfl (by decide) rfl fun a hE => ?_
     refine nO hE rfl rfl rfl (by decide) rfl fun a hE => ?_
     refine nO hE rfl rfl rfl (by decide) rfl fun a hE => ?_
     refine vP hS hE (Gives.pickF hE rfl rfl rfl) rfl fun a hE => WL.nil ?_
     subst hK171
     exact ⟨false, hq166, hE.pick _ ⟨rfl, rfl, rfl, rfl, rfl, rfl, rfl, rfl, rfl, rfl, rfl, trivial⟩, hS⟩
    replace hq166 := iteF hg172 hq166
    refine nO hE rfl rfl rfl (by rw [hg172]; decide) rfl fun a hE => ?_
    refine nO hE rfl rfl rfl (by rw [hg172]; decide) rfl fun a hE => ?_
    refine nO hE rfl rfl rfl (by rw [hg172]; decide) rfl fun a hE => ?_
    refine nO hE rfl rfl rfl (by rw [hg172]; decide) rfl fun a hE => ?_
    refine nO hE rfl rfl rfl (by rw [hg172]; decide) rfl fun a hE => ?_
    refine vP hS hE (Gives.pickF hE rfl hg172 rfl) rfl fun a hE => ?_
    refine vp hS hE rfl rfl fun a hE => ?_
    refine nO hE rfl rfl rfl (by decide) rfl fun a hE => ?_
    refine nO hE rfl rfl rfl (by decide) rfl fun a hE => ?_
    refine nO hE rfl rfl rfl (by decide) rfl fun a hE => ?_
    refine nO hE rfl rfl rfl (by decide) rfl fun a hE => ?_
    refine nO hE rfl rfl rfl (by decide) rfl fun a hE => ?_
    refine vP hS hE (Gives.pickF hE rfl rfl rfl) rfl fun a hE => ?_
    refine vp hS hE rfl rfl fun a hE => ?_
    refine nO hE rfl rfl rfl (by decide) rfl fun a hE => ?_
    refine nO hE rfl rfl rfl (by decide) rfl fun a hE => ?_
    refine nO hE rfl rfl rfl (by decide) rfl fun a hE => ?_
    refine nO hE rfl rfl rfl (by decide) rfl fun a hE => ?_
    refine nO hE rfl rfl rfl (by decide) rfl fun a hE => ?_
    refine vP hS hE (Gives.pickF hE rfl rfl rfl) rfl fun a hE => WL.nil ?_
    subst hK171
    exact ⟨false, hq166, hE.pick _ ⟨rfl, rfl, rfl, rfl, rfl, rfl, rfl, rfl, rfl, rfl, rfl, trivial⟩, hS⟩
   clear hE hS a w; rintro a w ⟨q170, rfl, hE, hS⟩
   obtain ⟨q176, hq175, hq141⟩ := bndS hq141
   refine W.cut (fun a w => ∃ (q179 : Bool), q179 = q176 ∧ Rep a 94 [(9, .slice a77 q76.length c78), (10, .slice a123 q122.length c124), (14, pp b140), (15, .bool q179), (42, .slice a77 q76.length c78), (43, vi ((q76.length : Nat) : Int)), (44, vi ((k112 : Nat) : Int)), (48, .slice a77 q76.length c78), (49, vi ((q76.length : Nat) : Int)), (50, vi ((k143 : Nat) : Int))] ∧ St w s62 (pc b165 (GuidePoint.cells x155).toArray 62 :: pc b140 (GuidePoint.cells x130).toArray 62 :: vecC 62 3 a123 c124 q122.length cs127 :: vecC 62 3 a77 c78 q76.length cs81 :: pc b51 #[.slice a0_0 x0.Trains.length c0_0, .slice a0_1 x0.Turns.length c0_1] 25 :: R)) ?_ ?_
   ·refine W.gen fun K180 hK180 => ?_
    refine W.cond hE rfl (fun hc181 => ?_) (fun hc181 => ?_)
    ·replace hq175 := iteT hc181 hq175
     refine W.region ?_
     refine vp hS hE rfl rfl fun a hE => WL.nil ?_
     subst hK180
     exact ⟨false, hq175, hE.pick _ ⟨rfl, rfl, rfl, rfl, rfl, rfl, rfl, rfl, rfl, rfl, trivial⟩, hS⟩
    replace hq175 := iteF hc181 hq175
    refine W.skip ?_
    subst hK180
    exact ⟨q153, hq175, hE.pick _ ⟨rfl, rfl, rfl, rfl, rfl, rfl, rfl, rfl, rfl, rfl, trivial⟩, hS⟩
   clear hE hS a w; rintro a w ⟨q179, rfl, hE, hS⟩
   refine W.region ?_
   refine vP hS hE (Gives.inc hE rfl (by omega)) rfl fun a hE => ?_
   refine vp hS hE rfl rfl fun a hE => WL.nil ?_
   replace hS := hS.tail
   subst hK154
   exact ⟨rest145, Nat.lt_succ_self _, rest145, k143 + 1, q179, rfl, (by omega), hq141, hE.pick _ ⟨rfl, rfl, rfl, rfl, rfl, rfl, rfl, rfl, rfl, rfl, trivial⟩, hS⟩
  clear hE hS a w; rintro a w ⟨q153, rfl, hE, hS⟩
  refine W.seq ?_
  obtain ⟨q183, hq182, hq110⟩ := bndS hq110
  refine W.cut (fun a w => ∃ (q186 : Bool), q186 = q183 ∧ Rep a 94 [(9, .slice a77 q76.length c78), (10, .slice a123 q122.length c124), (14, pp b140), (42, .slice a77 q76.length c78), (43, vi ((q76.length : Nat) : Int)), (44, vi ((k112 : Nat) : Int)), (85, .bool q186)] ∧ St w s62 (pc b140 (GuidePoint.cells x130).toArray 62 :: vecC 62 3 a123 c124 q122.length cs127 :: vecC 62 3 a77 c78 q76.length cs81 :: pc b51 #[.slice a0_0 x0.Trains.length c0_0, .slice a0_1 x0.Turns.length c0_1] 25 :: R)) ?_ ?_
  ·refine W.gen fun K187 hK187 => ?_
   refine W.region ?_
   refine v2 hS hE rfl rfl rfl rfl fun a hE => ?_
   rcases Bool.eq_false_or_eq_true q153 with hg188 | hg188
   ·replace hq182 := iteT hg188 hq182
    refine WL.vS hS hE (runs_if hE rfl rfl rfl hg188) (Gives.p hE rfl) rfl fun a hE => ?_
    refine WL.vS hS hE (runs_if hE rfl rfl rfl hg188) (Gives.loadBA hE 0 rfl rfl ty62) rfl fun a hE => ?_
    have hF := hS.lendV RGuidePoint.mono 1 rfl h125 rfl; clear hS; obtain ⟨t189, hle190, hS, hs191, bk192⟩ := hF
    refine WL.fnq hE (SlicesContainsLguidePoint_ok hS hs191 rfl (r := SlicesContainsLguidePoint q122 x130)) (runs_if hE rfl rfl rfl hg188) bd79 rfl rfl rfl ?_
    clear hE hS; rintro e w ⟨rfl, hS⟩; refine ⟨_, rfl, ?_⟩; clear a; intro a hE
    replace hS := bk192 _ _ hS
    refine WL.vS hS hE (runs_if hE rfl rfl rfl hg188) (Gives.p hE rfl) rfl fun a hE => ?_
    refine vP hS hE (Gives.pickT hE rfl hg188 rfl) rfl fun a hE => WL.nil ?_
    replace hS := hS.front 3 rfl
    replace hS := hS.front 3 rfl
    replace hS := hS.front 2 rfl
    replace hS := hS.front 3 rfl
    subst hK187
    exact ⟨!(SlicesContainsLguidePoint q122 x130), hq182, hE.pick _ ⟨rfl, rfl, rfl, rfl, rfl, rfl, rfl, trivial⟩, hS⟩
   replace hq182 := iteF hg188 hq182
   refine nO hE rfl rfl rfl (by rw [hg188]; decide) rfl fun a hE => ?_
   refine nO hE rfl rfl rfl (by rw [hg188]; decide) rfl fun a hE => ?_
   refine nO hE rfl rfl rfl (by rw [hg188]; decide) rfl fun a hE => ?_
   refine nO hE rfl rfl rfl (by rw [hg188]; decide) rfl fun a hE => ?_
   refine vP hS hE (Gives.pickF hE rfl hg188 rfl) rfl fun a hE => WL.nil ?_
   subst hK187
   exact ⟨false, hq182, hE.pick _ ⟨rfl, rfl, rfl, rfl, rfl, rfl, rfl, trivial⟩, hS⟩
  clear hE hS a w; rintro a w ⟨q186, rfl, hE, hS⟩
  obtain ⟨q194, hq193, hq110⟩ := bindS hq110
  refine W.cut (fun a w => ∃ (q197 : List GuidePoint), ∃ (a198 : Option Addr), ∃ (c199 : Nat), ∃ (n201 : Nat), ∃ (cs202 : List Value), q197 = q194 ∧ Ev 3 RGuidePoint s62 cs202 q197 ∧ q197.length = n201 ∧ Rep a 94 [(9, .slice a77 q76.length c78), (10, .slice a198 n201 c199), (42, .slice a77 q76.length c78), (43, vi ((q76.length : Nat) : Int)), (44, vi ((k112 : Nat) : Int))] ∧ St w s62 (pc b140 (GuidePoint.cells x130).toArray 62 :: vecC 62 3 a198 c199 n201 cs202 :: vecC 62 3 a77 c78 q76.length cs81 :: pc b51 #[.slice a0_0 x0.Trains.length c0_0, .slice a0_1 x0.Turns.length c0_1] 25 :: R)) ?_ ?_
  ·refine W.gen fun K204 hK204 => ?_
   refine W.cond hE rfl (fun hc205 => ?_) (fun hc205 => ?_)
   ·replace hq193 := iteT hc205 hq193
    refine W.region ?_
    refine vp hS hE rfl rfl fun a hE => ?_
    refine vP hS hE (Gives.loadBA hE 0 rfl rfl ty62) rfl fun a hE => ?_
    refine WL.lit hE hS (e := 62) (es := 3) (vs := [(0, .agg (GuidePoint.cells x130).toArray)]) (cs := [vi x130.Dep, vi x130.Arr, vi x130.Rides]) (runs_plain rfl) rfl (by kernel_rfl) rfl ?_; clear hE hS a w; intro b206 a w hE hS
    obtain ⟨x207, hx208, hq193⟩ := bindS hq193
    refine WL.appD hE hS 1 (m := 1) (runs_plain rfl) rfl rfl rfl ap55 rfl h125 rfl (xs := [x130]) (Ev.cons (c1 := [vi x130.Dep, vi x130.Arr, vi x130.Rides]) rfl rfl (Ev.nil)) rfl rfl hx208 rfl ?_; clear hE hS a w; intro a209 c210 cs211 a w h212 hE hS
    refine vp hS hE rfl rfl fun a hE => WL.nil ?_
    subst hK204
    exact ⟨x207, a209, c210, x207.length, cs211, Option.some.inj hq193, h212, (rfl), hE.pick _ ⟨rfl, rfl, rfl, rfl, rfl, trivial⟩, hS⟩
   replace hq193 := iteF hc205 hq193
   refine W.skip ?_
   subst hK204
   exact ⟨q122, a123, c124, q122.length, cs127, Option.some.inj hq193, h125, rfl, hE.pick _ ⟨rfl, rfl, rfl, rfl, rfl, trivial⟩, hS⟩
  clear hE hS a w; rintro a w ⟨q197, a198, c199, n201, cs202, rfl, h200, rfl, hE, hS⟩
  refine W.region ?_
  refine vP hS hE (Gives.inc hE rfl (by omega)) rfl fun a hE => ?_
  refine vp hS hE rfl rfl fun a hE => WL.nil ?_
  replace hS := hS.tail
  subst hK129
  exact ⟨rest114, Nat.lt_succ_self _, rest114, k112 + 1, q197, a198, c199, q197.length, cs202, rfl, (by omega), hq110, h200, rfl, hE.pick _ ⟨rfl, rfl, rfl, rfl, rfl, trivial⟩, hS⟩
 clear hE hS a w; rintro a w ⟨q122, a123, c124, n126, cs127, rfl, h125, rfl, hE, hS⟩
 refine W.seq (W.region (vp hS hE rfl rfl fun a hE => ?_))
 obtain ⟨q216, hq217, hr⟩ := bindS hr
 refine WL.fnq hE (itSortF80_81_ok hS h125 rfl hq217) (runs_plain rfl) bd80 rfl rfl rfl ?_
 clear hE hS; rintro e w ⟨cs214, rfl, h215, hn218, hS⟩; refine ⟨_, rfl, ?_⟩; clear a; intro a hE
 refine WL.nil ?_
 refine W.seq (W.region (v2 hS hE rfl rfl rfl rfl fun a hE => WL.nil ?_))
 refine W.ret ?_
 refine finG (fn := Tryd.f28) (rs := [.tmp 8]) (vs := [_]) hE rfl ⟨rfl, trivial⟩ ?_
 obtain rfl := Option.some.inj hr
 replace hS := hS.dropAt 1
 replace hS := hS.dropAt 1
 exact ⟨a123, c124, q122.length, cs214, s62, rfl, hle63, h215, hn218, hS⟩
set_option maxHeartbeats 8000000 in
theorem SlicesEqualLguidePoint_ok  {w : World} {s : Sg} {R : List HP} {x0 : List GuidePoint} {a0 : Option Addr} {c0 : Nat} {x1 : List GuidePoint} {a1 : Option Addr} {c1 : Nat} (hS : St w s (R)) (h0 : Sl 3 RGuidePoint s a0 c0 x0) (h1 : Sl 3 RGuidePoint s a1 c1 x1) {r : Bool} (hr : SlicesEqualLguidePoint x0 x1 = some r) :
  Calls Tryd.prog 27 [.slice a0 x0.length c0, .slice a1 x1.length c1].toArray w (fun e w => e = .returned (.bool r) ∧ St w s (R)) := by
 refine enter Tryd.func27 rfl rfl rfl fun a hE => ?_
 rw [SlicesEqualLguidePoint] at hr
 refine W.seq (W.region (vp hS hE rfl rfl fun a hE => WL.nil ?_))
 refine W.seq ?_
 refine W.seq (W.region (vp hS hE rfl rfl fun a hE => ?_))
 refine vP hS hE (Gives.len hE rfl sl55) rfl fun a hE => ?_
 refine vp hS hE rfl rfl fun a hE => ?_
 refine vP hS hE (Gives.len hE rfl sl55) rfl fun a hE => ?_
 refine vp hS hE rfl rfl fun a hE => WL.nil ?_
 refine W.cond hE rfl (fun hc51 => ?_) (fun hc51 => ?_)
 ·replace hr := iteT hc51 hr
  refine W.seq (W.region (vp hS hE rfl rfl fun a hE => WL.nil ?_))
  refine W.ret ?_
  refine finG (fn := Tryd.f27) (rs := [.tmp 4]) (vs := [_]) hE rfl ⟨rfl, trivial⟩ ?_
  obtain rfl := Option.some.inj hr
  exact ⟨rfl, hS⟩
 replace hr := iteF hc51 hr
 refine W.skip ?_
 refine W.seq ?_
 refine W.seq (W.region (vp hS hE rfl rfl fun a hE => ?_))
 refine vP hS hE (Gives.len hE rfl sl55) rfl fun a hE => ?_
 refine vp hS hE rfl rfl fun a hE => WL.nil ?_
 obtain ⟨q53, hq52, hr⟩ := bindS hr
 refine W.cut (fun a w => (.next ()) = q53 ∧ Rep a 26 [] ∧ St w s (R)) ?_ ?_
 ·refine W.block ?_
  refine W.loop (fun m a w => ∃ (rest56 : List GuidePoint) (k54 : Nat), rest56.length = m ∧ x0.drop k54 = rest56 ∧ SlicesEqualLguidePoint.loop1 x1 rest56 k54 = some q53 ∧ Rep a 26 [(0, .slice a0 x0.length c0), (1, .slice a1 x1.length c1), (12, vi ((x0).length : Int)), (13, vi ((k54 : Nat) : Int))] ∧ St w s (R)) (m := x0.length) ⟨x0, 0, rfl, rfl, hq52, hE.pick _ ⟨rfl, rfl, rfl, rfl, trivial⟩, hS⟩ ?_
  clear hE hS a w hq52; rintro m60 a w ⟨rest56, k54, rfl, hd57, hq52, hE, hS⟩
  refine W.gen fun K63 hK63 => ?_
  rcases rest56 with _ | ⟨x55, rest56⟩
  ·have hlt58 := drop_nil hd57
   refine W.seq (W.region (vp hS hE rfl rfl fun a hE => WL.nil ?_))
   refine W.seq ?_
   refine W.condF hE rfl (decide_eq_false (by omega)) ?_
   subst hK63
   refine W.exit rfl ?_
   exact ⟨Option.some.inj hq52, hE.pick _ trivial, hS⟩
  obtain ⟨hlt58, hx59, hd57⟩ := drop_cons hd57
  rw [SlicesEqualLguidePoint.loop1] at hq52
  refine W.seq (W.region (vp hS hE rfl rfl fun a hE => WL.nil ?_))
  refine W.seq ?_
  refine W.condT hE rfl (decide_eq_true (by omega)) ?_
  refine W.skip ?_
  refine W.seq ?_
  refine W.block ?_
  refine W.seq (W.region (v2 hS hE rfl rfl rfl rfl fun a hE => WL.nil ?_))
  refine W.seq ?_
  refine W.regionQ (C := fun w => St w s (R)) mixed (by kernel_rfl) hS.drew ?_
  refine qP hE (Gives.p hE rfl) rfl fun a hE => ?_
  refine qP hE (Gives.p hE rfl) rfl fun a hE => ?_
  obtain ⟨cs64, hl65, hR66, hat67⟩ := h0.at hx59
  subst hR66
  refine qP hE (Gives.idx hE k54 rfl rfl sl55 rfl hlt58 (h0.aok hlt58)) rfl fun a hE => ?_
  refine qP hE (Gives.loadA hE rfl (fun w h => hat67 w _ h) ty62) rfl fun a hE => ?_
  refine qP hE (Gives.p hE rfl) rfl fun a hE => ?_
  refine qP hE (Gives.p hE rfl) rfl fun a hE => ?_
  obtain ⟨x68, hx69, hq52⟩ := bindS hq52
  obtain ⟨hi70, hlt71, hy72⟩ := gx_some hx69
  obtain ⟨cs73, hl74, hR75, hat76⟩ := h1.at hy72
  subst hR75
  refine qP hE (Gives.idx hE (((k54 : Nat) : Int)).toNat rfl rfl sl55 hi70 hlt71 (h1.aok hlt71)) rfl fun a hE => ?_
  refine qP hE (Gives.loadA hE rfl (fun w h => hat76 w _ h) ty62) rfl fun a hE => ?_
  refine qP hE (show Gives _ _ _ _ (Value.bool (!((x55.Dep == x68.Dep) && ((x55.Arr == x68.Arr) && (x55.Rides == x68.Rides))))) from Gives.neS hE [.i .i64, .i .i64, .i .i64] [.i .i64 x55.Dep, .i .i64 x55.Arr, .i .i64 x55.Rides] [.i .i64 x68.Dep, .i .i64 x68.Arr, .i .i64 x68.Rides] rfl rfl se62 rfl rfl rfl rfl) rfl fun a hE => ?_
  refine QL.nil ?_; clear hS w; intro w hS
  refine W.cond hE rfl (fun hc77 => ?_) (fun hc77 => ?_)
  ·replace hq52 := iteT hc77 hq52
   refine W.seq (W.region (vp hS hE rfl rfl fun a hE => WL.nil ?_))
   refine W.ret ?_
   subst hK63
   rw [← Option.some.inj hq52] at hr
   dsimp only at hr
   refine finG (fn := Tryd.f27) (rs := [.tmp 4]) (vs := [_]) hE rfl ⟨rfl, trivial⟩ ?_
   obtain rfl := Option.some.inj hr
   exact ⟨rfl, hS⟩
  replace hq52 := iteF hc77 hq52
  refine W.skip ?_
  refine W.region ?_
  refine vP hS hE (Gives.inc hE rfl (by have := h0.small; omega)) rfl fun a hE => ?_
  refine vp hS hE rfl rfl fun a hE => WL.nil ?_
  subst hK63
  exact ⟨rest56.length, Nat.lt_succ_self _, rest56, k54 + 1, rfl, hd57, hq52, hE.pick _ ⟨rfl, rfl, rfl, rfl, trivial⟩, hS⟩
 clear hE hS a w; rintro a w ⟨rfl, hE, hS⟩
 dsimp only at hr
 refine W.seq (W.region (vp hS hE rfl rfl fun a hE => WL.nil ?_))
 refine W.ret ?_
 refine finG (fn := Tryd.f27) (rs := [.tmp 4]) (vs := [_]) hE rfl ⟨rfl, trivial⟩ ?_
 obtain rfl := Option.some.inj hr
 exact ⟨rfl, hS⟩
set_option maxHeartbeats 8000000 in
theorem Fishlaw2sameJourney_ok  {w : World} {s : Sg} {R : List HP} {x0 : GuideJourney} {a0_0 : Option Addr} {c0_0 : Nat} {x1 : GuideJourney} {a1_0 : Option Addr} {c1_0 : Nat} (hS : St w s (R)) (h0_0 : Sl 3 RGuideRide s a0_0 c0_0 x0.Rides) (h1_0 : Sl 3 RGuideRide s a1_0 c1_0 x1.Rides) {r : Bool} (hr : Fishlaw2sameJourney x0 x1 = some r) :
  Calls Tryd.prog 16 [.agg [.slice a0_0 x0.Rides.length c0_0].toArray, .agg [.slice a1_0 x1.Rides.length c1_0].toArray].toArray w (fun e w => e = .returned (.bool r) ∧ St w s (R)) := by
 refine enter Tryd.func16 rfl rfl rfl fun a hE => ?_
 rw [Fishlaw2sameJourney] at hr
 refine W.seq (W.region ?_)
 refine WL.box hE hS (runs_plain rfl) rfl rfl rfl ?_; clear hE hS a w; intro b51 a w hE hS
 refine WL.box hE hS (runs_plain rfl) rfl rfl rfl ?_; clear hE hS a w; intro b52 a w hE hS
 refine vp hS hE rfl rfl fun a hE => WL.nil ?_
 refine W.seq (W.region (vP hS hE (Gives.fld hE rfl fl28_0) rfl fun a hE => ?_))
 refine vP hS hE (Gives.loadB hE 1 rfl rfl rfl ty26) rfl fun a hE => ?_
 refine vP hS hE (Gives.fld hE rfl fl28_0) rfl fun a hE => ?_
 refine vP hS hE (Gives.loadB hE 0 rfl rfl rfl ty26) rfl fun a hE => ?_
 obtain ⟨q53, hq54, hr⟩ := bindS hr
 have hc_ := SlicesEqualLguideRide_ok hS h0_0 h1_0 hq54
 refine WL.fnq hE (hc_) (runs_plain rfl) bd59 rfl rfl rfl ?_
 clear hE hS hc_; rintro e w ⟨rfl, hS⟩; refine ⟨_, rfl, ?_⟩; clear a; intro a hE
 refine vp hS hE rfl rfl fun a hE => WL.nil ?_
 refine W.ret ?_
 refine finG (fn := Tryd.f16) (rs := [.tmp 4]) (vs := [_]) hE rfl ⟨rfl, trivial⟩ ?_
 obtain rfl := Option.some.inj hr
 replace hS := hS.tail
 replace hS := hS.tail
 exact ⟨rfl, hS⟩
set_option maxHeartbeats 8000000 in
theorem SlicesEqualFuncLguideJourney_v1_ok  {w : World} {s : Sg} {R : List HP} {x0 : List GuideJourney} {a0 : Option Addr} {c0 : Nat} {x1 : List GuideJourney} {a1 : Option Addr} {c1 : Nat} (hS : St w s (R)) (h0 : Sl 1 RGuideJourney s a0 c0 x0) (h1 : Sl 1 RGuideJourney s a1 c1 x1) {r : Bool} (hr : SlicesEqualFuncLguideJourney_v1 x0 x1 = some r) :
  Calls Tryd.prog 30 [.slice a0 x0.length c0, .slice a1 x1.length c1, .func (.func 16) #[] #[]].toArray w (fun e w => e = .returned (.bool r) ∧ St w s (R)) := by
 refine enter Tryd.func30 rfl rfl rfl fun a hE => ?_
 rw [SlicesEqualFuncLguideJourney_v1] at hr
 refine W.seq (W.region (vp hS hE rfl rfl fun a hE => WL.nil ?_))
 refine W.seq ?_
 refine W.seq (W.region (vp hS hE rfl rfl fun a hE => ?_))
 refine vP hS hE (Gives.len hE rfl sl39) rfl fun a hE => ?_
 refine vp hS hE rfl rfl fun a hE => ?_
 refine vP hS hE (Gives.len hE rfl sl39) rfl fun a hE => ?_
 refine vp hS hE rfl rfl fun a hE => WL.nil ?_
 refine W.cond hE rfl (fun hc51 => ?_) (fun hc51 => ?_)
 ·replace hr := iteT hc51 hr
  refine W.seq (W.region (vp hS hE rfl rfl fun a hE => WL.nil ?_))
  refine W.ret ?_
  refine finG (fn := Tryd.f30) (rs := [.tmp 6]) (vs := [_]) hE rfl ⟨rfl, trivial⟩ ?_
  obtain rfl := Option.some.inj hr
  exact ⟨rfl, hS⟩
 replace hr := iteF hc51 hr
 refine W.skip ?_
 refine W.seq ?_
 refine W.seq (W.region (vp hS hE rfl rfl fun a hE => ?_))
 refine vP hS hE (Gives.len hE rfl sl39) rfl fun a hE => ?_
 refine vp hS hE rfl rfl fun a hE => WL.nil ?_
 obtain ⟨q53, hq52, hr⟩ := bindS hr
 refine W.cut (fun a w => (.next ()) = q53 ∧ Rep a 32 [] ∧ St w s (R)) ?_ ?_
 ·refine W.block ?_
  refine W.loop (fun m a w => ∃ (rest56 : List GuideJourney) (k54 : Nat), rest56.length = m ∧ x0.drop k54 = rest56 ∧ SlicesEqualFuncLguideJourney_v1.loop1 x1 rest56 k54 = some q53 ∧ Rep a 32 [(1, .slice a1 x1.length c1), (2, .func (.func 16) #[] #[]), (15, .slice a0 x0.length c0), (16, vi ((x0).length : Int)), (17, vi ((k54 : Nat) : Int))] ∧ St w s (R)) (m := x0.length) ⟨x0, 0, rfl, rfl, hq52, hE.pick _ ⟨rfl, rfl, rfl, rfl, rfl, trivial⟩, hS⟩ ?_
  clear hE hS a w hq52; rintro m60 a w ⟨rest56, k54, rfl, hd57, hq52, hE, hS⟩
  refine W.gen fun K63 hK63 => ?_
  rcases rest56 with _ | ⟨x55, rest56⟩
  ·have hlt58 := drop_nil hd57
   refine W.seq (W.region (vp hS hE rfl rfl fun a hE => WL.nil ?_))
   refine W.seq ?_
   refine W.condF hE rfl (decide_eq_false (by omega)) ?_
   subst hK63
   refine W.exit rfl ?_
   exact ⟨Option.some.inj hq52, hE.pick _ trivial, hS⟩
  obtain ⟨hlt58, hx59, hd57⟩ := drop_cons hd57
  rw [SlicesEqualFuncLguideJourney_v1.loop1] at hq52
  refine W.seq (W.region (vp hS hE rfl rfl fun a hE => WL.nil ?_))
  refine W.seq ?_
  refine W.condT hE rfl (decide_eq_true (by omega)) ?_
  refine W.skip ?_
  refine W.seq ?_
  refine W.block ?_
  refine W.seq (W.region (vp hS hE rfl rfl fun a hE => ?_))
  obtain ⟨cs64, hl65, hR66, hat67⟩ := h0.at hx59
  obtain ⟨a68, c69, rfl, h70⟩ := hR66
  refine vP hS hE (Gives.idx hE k54 rfl rfl sl39 rfl hlt58 (h0.aok hlt58)) rfl fun a hE => ?_
  refine vP hS hE (Gives.loadA hE rfl (fun w h => hat67 w _ h) ty28) rfl fun a hE => ?_
  refine WL.alloc hE hS (runs_plain rfl) zr28 rfl ?_; clear hE hS a w; intro b71 a w hE hS
  refine vp hS hE rfl rfl fun a hE => ?_
  refine WL.storeI hE hS 0 rfl [.slice a68 x55.Rides.length c69] (runs_plain rfl) rfl rfl rfl ty28 rfl rfl rfl rfl ?_; clear hE hS a w; intro a w hE hS
  refine WL.nil ?_
  refine W.seq (W.region (v2 hS hE rfl rfl rfl rfl fun a hE => ?_))
  obtain ⟨x72, hx73, hq52⟩ := bindS hq52
  obtain ⟨hi74, hlt75, hy76⟩ := gx_some hx73
  obtain ⟨cs77, hl78, hR79, hat80⟩ := h1.at hy76
  obtain ⟨a81, c82, rfl, h83⟩ := hR79
  refine vP hS hE (Gives.idx hE (((k54 : Nat) : Int)).toNat rfl rfl sl39 hi74 hlt75 (h1.aok hlt75)) rfl fun a hE => ?_
  refine vP hS hE (Gives.loadA hE rfl (fun w h => hat80 w _ h) ty28) rfl fun a hE => ?_
  refine WL.alloc hE hS (runs_plain rfl) zr28 rfl ?_; clear hE hS a w; intro b84 a w hE hS
  refine WL.storeI hE hS 0 rfl [.slice a81 x72.Rides.length c82] (runs_plain rfl) rfl rfl rfl ty28 rfl rfl rfl rfl ?_; clear hE hS a w; intro a w hE hS
  refine WL.nil ?_
  refine W.seq (W.region (vp hS hE rfl rfl fun a hE => ?_))
  refine vP hS hE (Gives.loadBA hE 1 rfl rfl ty28) rfl fun a hE => ?_
  refine vP hS hE (Gives.loadBA hE 0 rfl rfl ty28) rfl fun a hE => ?_
  obtain ⟨q85, hq86, hq52⟩ := bindS hq52
  have hc_ := Fishlaw2sameJourney_ok hS h70 h83 hq86
  refine WL.fnw hE (hc_) rfl (runs_plain rfl) bd16 rfl rfl rfl ?_
  clear hE hS hc_; rintro e w ⟨rfl, hS⟩; refine ⟨_, rfl, ?_⟩; clear a; intro a hE
  refine vp hS hE rfl rfl fun a hE => WL.nil ?_
  refine W.cond hE rfl (fun hc87 => ?_) (fun hc87 => ?_)
  ·replace hq52 := iteT hc87 hq52
   refine W.seq (W.region (vp hS hE rfl rfl fun a hE => WL.nil ?_))
   refine W.ret ?_
   subst hK63
   rw [← Option.some.inj hq52] at hr
   dsimp only at hr
   refine finG (fn := Tryd.f30) (rs := [.tmp 6]) (vs := [_]) hE rfl ⟨rfl, trivial⟩ ?_
   obtain rfl := Option.some.inj hr
   replace hS := hS.tail
   replace hS := hS.tail
   exact ⟨rfl, hS⟩
  replace hq52 := iteF hc87 hq52
  refine W.skip ?_
  refine W.region ?_
  refine vP hS hE (Gives.inc hE rfl (by have := h0.small; omega)) rfl fun a hE => ?_
  refine vp hS hE rfl rfl fun a hE => WL.nil ?_
  replace hS := hS.tail
  replace hS := hS.tail
  subst hK63
  exact ⟨rest56.length, Nat.lt_succ_self _, rest56, k54 + 1, rfl, hd57, hq52, hE.pick _ ⟨rfl, rfl, rfl, rfl, rfl, trivial⟩, hS⟩
 clear hE hS a w; rintro a w ⟨rfl, hE, hS⟩
 dsimp only at hr
 refine W.seq (W.region (vp hS hE rfl rfl fun a hE => WL.nil ?_))
 refine W.ret ?_
 refine finG (fn := Tryd.f30) (rs := [.tmp 6]) (vs := [_]) hE rfl ⟨rfl, trivial⟩ ?_
 obtain rfl := Option.some.inj hr
 exact ⟨rfl, hS⟩
set_option maxHeartbeats 8000000 in
theorem Fishlaw2GuideProfiles_ok {fu : Nat}  {w : World} {s : Sg} {R : List HP} {x0 : ApiDay} {a0_0 : Option Addr} {c0_0 : Nat} {a0_1 : Option Addr} {c0_1 : Nat} {x1 : Int} {x2 : Int} {x3 : Int} {x4 : Int} (hS : St w s (R)) (hTab : TabS Tryd.prog s) (h0_0 : Sl 4 RApiTrain s a0_0 c0_0 x0.Trains) (h0_1 : Sl 1 (RL 1 (RI .i64)) s a0_1 c0_1 x0.Turns) {r : Bool} (hr : Fishlaw2GuideProfiles fu x0 x1 x2 x3 x4 = some r) :
  Calls Tryd.prog 7 [.agg [.slice a0_0 x0.Trains.length c0_0, .slice a0_1 x0.Turns.length c0_1].toArray, vi x1, vi x2, vi x3, vi x4].toArray w (fun e w => e = .returned (.bool r) ∧ St w s (R)) := by
 refine enter Tryd.func7 rfl rfl rfl fun a hE => ?_
 rw [Fishlaw2GuideProfiles] at hr
 refine W.seq (W.region ?_)
 refine WL.box hE hS (runs_plain rfl) rfl rfl rfl ?_; clear hE hS a w; intro b51 a w hE hS
 refine vp hS hE rfl rfl fun a hE => WL.nil ?_
 refine W.seq (W.region (vP hS hE (Gives.loadBA hE 0 rfl rfl ty25) rfl fun a hE => ?_))
 refine v2 hS hE rfl rfl rfl rfl fun a hE => ?_
 refine vp hS hE rfl rfl fun a hE => ?_
 obtain ⟨q52, hq53, hr⟩ := bindS hr
 have hc_ := GuideProfile_ok hS (TabS.mono (Sg.Le.refl _) hTab) h0_0 h0_1 hq53
 refine WL.fnq hE (hc_) (runs_plain rfl) bd25 rfl rfl rfl ?_
 clear hE hS hc_; rintro e w ⟨a54, c55, n56, cs57, s60, rfl, hle61, h58, rfl, hS⟩; refine ⟨_, rfl, ?_⟩; clear a; intro a hE
 replace h0_0 := Sl.mono RApiTrain.mono hle61 h0_0
 replace h0_1 := Sl.mono (RL.mono RI.mono) hle61 h0_1
 refine v2 hS hE rfl rfl rfl rfl fun a hE => ?_
 refine v2 hS hE rfl rfl rfl rfl fun a hE => ?_
 refine vp hS hE rfl rfl fun a hE => WL.nil ?_
 refine W.seq (W.region (vP hS hE (Gives.loadBA hE 1 rfl rfl ty25) rfl fun a hE => ?_))
 refine v2 hS hE rfl rfl rfl rfl fun a hE => ?_
 refine v2 hS hE rfl rfl rfl rfl fun a hE => ?_
 obtain ⟨q62, hq63, hr⟩ := bindS hr
 have hc_ := GuideAll_ok hS (TabS.mono hle61 hTab) h0_0 h0_1 hq63
 refine WL.fnq hE (hc_) (runs_plain rfl) bd26 rfl rfl rfl ?_
 clear hE hS hc_; rintro e w ⟨a64, c65, n66, cs67, s70, rfl, hle71, h68, rfl, hS⟩; refine ⟨_, rfl, ?_⟩; clear a; intro a hE
 replace h0_0 := Sl.mono RApiTrain.mono hle71 h0_0
 replace h0_1 := Sl.mono (RL.mono RI.mono) hle71 h0_1
 replace h58 := Ev.mono RGuidePoint.mono hle71 h58
 refine v2 hS hE rfl rfl rfl rfl fun a hE => ?_
 refine v2 hS hE rfl rfl rfl rfl fun a hE => ?_
 refine vp hS hE rfl rfl fun a hE => WL.nil ?_
 refine W.seq (W.region (vP hS hE (Gives.loadBA hE 2 rfl rfl ty25) rfl fun a hE => ?_))
 obtain ⟨q72, hq73, hr⟩ := bindS hr
 have hc_ := Fishref2GuideFault_ok hS h0_0 h0_1 hq73
 refine WL.fnq hE (hc_) (runs_plain rfl) bd12 rfl rfl rfl ?_
 clear hE hS hc_; rintro e w ⟨rfl, hS⟩; refine ⟨_, rfl, ?_⟩; clear a; intro a hE
 refine vp hS hE rfl rfl fun a hE => WL.nil ?_
 refine W.seq ?_
 refine W.seq (W.region (v2 hS hE rfl rfl rfl rfl fun a hE => WL.nil ?_))
 obtain ⟨q75, hq74, hr⟩ := bndS hr
 refine W.cut (fun a w => ∃ (q78 : Int), q78 = q75 ∧ Rep a 109 [(1, vi x1), (2, vi x2), (3, vi x3), (4, vi x4), (5, pp b51), (11, .slice a54 q52.1.length c55), (12, vi q52.2), (13, .slice a64 q62.1.length c65), (14, vi q62.2), (15, vi q78)] ∧ St w s70 (vecC 28 1 a64 c65 q62.1.length cs67 :: vecC 62 3 a54 c55 q52.1.length cs57 :: pc b51 #[.slice a0_0 x0.Trains.length c0_0, .slice a0_1 x0.Turns.length c0_1] 25 :: R)) ?_ ?_
 ·refine W.gen fun K79 hK79 => ?_
  refine W.cond hE rfl (fun hc80 => ?_) (fun hc80 => ?_)
  ·replace hq74 := iteT hc80 hq74
   refine W.region ?_
   refine v2 hS hE rfl rfl rfl rfl fun a hE => ?_
   refine vp hS hE rfl rfl fun a hE => ?_
   refine WL.fnq hE (Fishref2SearchFault_ok hS  rfl (r := Fishref2SearchFault x3 x1 x2 0 true false)) (runs_plain rfl) bd22 rfl rfl rfl ?_
   clear hE hS; rintro e w ⟨rfl, hS⟩; refine ⟨_, rfl, ?_⟩; clear a; intro a hE
   refine vp hS hE rfl rfl fun a hE => WL.nil ?_
   subst hK79
   exact ⟨(Fishref2SearchFault x3 x1 x2 0 true false), hq74, hE.pick _ ⟨rfl, rfl, rfl, rfl, rfl, rfl, rfl, rfl, rfl, rfl, trivial⟩, hS⟩
  replace hq74 := iteF hc80 hq74
  refine W.skip ?_
  subst hK79
  exact ⟨q72, hq74, hE.pick _ ⟨rfl, rfl, rfl, rfl, rfl, rfl, rfl, rfl, rfl, rfl, trivial⟩, hS⟩
 clear hE hS a w; rintro a w ⟨q78, rfl, hE, hS⟩
 refine W.seq ?_
 refine W.seq (W.region (v2 hS hE rfl rfl rfl rfl fun a hE => WL.nil ?_))
 refine W.cond hE rfl (fun hc81 => ?_) (fun hc81 => ?_)
 ·replace hr := iteT hc81 hr
  refine W.seq ?_
  obtain ⟨q83, hq82, hr⟩ := bindS hr
  refine W.cut (fun a w => ∃ (q86 : Bool), q86 = q83 ∧ Rep a 109 [(10, .bool q86)] ∧ St w s70 (pc b51 #[.slice a0_0 x0.Trains.length c0_0, .slice a0_1 x0.Turns.length c0_1] 25 :: R)) ?_ ?_
  ·refine W.gen fun K87 hK87 => ?_
   refine W.region ?_
   obtain ⟨q88, hq89, hq82⟩ := bindS hq82
   have hc_ := Fishlaw2guides_ok hS (TabS.mono (Sg.Le.trans hle61 hle71) hTab) hq89
   refine WL.fnq hE (hc_) (runs_plain rfl) bd13 rfl rfl rfl ?_
   clear hE hS hc_; rintro e w ⟨rfl, hS⟩; refine ⟨_, rfl, ?_⟩; clear a; intro a hE
   refine vp hS hE rfl rfl fun a hE => ?_
   rcases Bool.eq_false_or_eq_true q88 with hg90 | hg90
   ·replace hq82 := iteT hg90 hq82
    refine WL.vS hS hE (runs_if hE rfl rfl rfl hg90) (Gives.p hE rfl) rfl fun a hE => ?_
    refine WL.vS hS hE (runs_if hE rfl rfl rfl hg90) (Gives.p hE rfl) rfl fun a hE => ?_
    refine WL.vS hS hE (runs_if hE rfl rfl rfl hg90) (Gives.p hE rfl) rfl fun a hE => ?_
    refine vP hS hE (Gives.pickT hE rfl hg90 rfl) rfl fun a hE => ?_
    refine vp hS hE rfl rfl fun a hE => ?_
    rcases Bool.eq_false_or_eq_true (q52.2 == q78) with hg91 | hg91
    ·replace hq82 := iteT hg91 hq82
     refine WL.vS hS hE (runs_if hE rfl rfl rfl hg91) (Gives.p hE rfl) rfl fun a hE => ?_
     refine WL.vS hS hE (runs_if hE rfl rfl rfl hg91) (Gives.p hE rfl) rfl fun a hE => ?_
     refine WL.vS hS hE (runs_if hE rfl rfl rfl hg91) (Gives.p hE rfl) rfl fun a hE => ?_
     refine vP hS hE (Gives.pickT hE rfl hg91 rfl) rfl fun a hE => ?_
     refine vp hS hE rfl rfl fun a hE => ?_
     rcases Bool.eq_false_or_eq_true (q62.2 == q78) with hg92 | hg92
     ·replace hq82 := iteT hg92 hq82
      refine WL.vS hS hE (runs_if hE rfl rfl rfl hg92) (Gives.p hE rfl) rfl fun a hE => ?_
      refine WL.vS hS hE (runs_if hE rfl rfl rfl hg92) (Gives.len hE rfl sl55) rfl fun a hE => ?_
      refine WL.vS hS hE (runs_if hE rfl rfl rfl hg92) (Gives.p hE rfl) rfl fun a hE => ?_
      refine WL.vS hS hE (runs_if hE rfl rfl rfl hg92) (Gives.len hE rfl sl39) rfl fun a hE => ?_
      refine WL.vS hS hE (runs_if hE rfl rfl rfl hg92) (Gives.p hE rfl) rfl fun a hE => ?_
      refine WL.vS hS hE (runs_if hE rfl rfl rfl hg92) (Gives.p hE rfl) rfl fun a hE => ?_
      refine vP hS hE (Gives.pickT hE rfl hg92 rfl) rfl fun a hE => ?_
      refine vp hS hE rfl rfl fun a hE => WL.nil ?_
      replace hS := hS.tail
      replace hS := hS.tail
      subst hK87
      exact ⟨((w64 (((q52.1.length : Nat) : Int) + ((q62.1.length : Nat) : Int))) == 0), Option.some.inj hq82, hE.pick _ ⟨rfl, trivial⟩, hS⟩
     replace hq82 := iteF hg92 hq82
     refine nO hE rfl rfl rfl (by rw [hg92]; decide) rfl fun a hE => ?_
     refine nO hE rfl rfl rfl (by rw [hg92]; decide) rfl fun a hE => ?_
     refine nO hE rfl rfl rfl (by rw [hg92]; decide) rfl fun a hE => ?_
     refine nO hE rfl rfl rfl (by rw [hg92]; decide) rfl fun a hE => ?_
     refine nO hE rfl rfl rfl (by rw [hg92]; decide) rfl fun a hE => ?_
     refine nO hE rfl rfl rfl (by rw [hg92]; decide) rfl fun a hE => ?_
     refine vP hS hE (Gives.pickF hE rfl hg92 rfl) rfl fun a hE => ?_
     refine vp hS hE rfl rfl fun a hE => WL.nil ?_
     replace hS := hS.tail
     replace hS := hS.tail
     subst hK87
     exact ⟨false, Option.some.inj hq82, hE.pick _ ⟨rfl, trivial⟩, hS⟩
    replace hq82 := iteF hg91 hq82
    refine nO hE rfl rfl rfl (by rw [hg91]; decide) rfl fun a hE => ?_
    refine nO hE rfl rfl rfl (by rw [hg91]; decide) rfl fun a hE => ?_
    refine nO hE rfl rfl rfl (by rw [hg91]; decide) rfl fun a hE => ?_
    refine vP hS hE (Gives.pickF hE rfl hg91 rfl) rfl fun a hE => ?_
    refine vp hS hE rfl rfl fun a hE => ?_
    refine nO hE rfl rfl rfl (by decide) rfl fun a hE => ?_
    refine nO hE rfl rfl rfl (by decide) rfl fun a hE => ?_
    refine nO hE rfl rfl rfl (by decide) rfl fun a hE => ?_
    refine nO hE rfl rfl rfl (by decide) rfl fun a hE => ?_
    refine nO hE rfl rfl rfl (by decide) rfl fun a hE => ?_
    refine nO hE rfl rfl rfl (by decide) rfl fun a hE => ?_
    refine vP hS hE (Gives.pickF hE rfl rfl rfl) rfl fun a hE => ?_
    refine vp hS hE rfl rfl fun a hE => WL.nil ?_
    replace hS := hS.tail
    replace hS := hS.tail
    subst hK87
    exact ⟨false, Option.some.inj hq82, hE.pick _ ⟨rfl, trivial⟩, hS⟩
   replace hq82 := iteF hg90 hq82
   refine nO hE rfl rfl rfl (by rw [hg90]; decide) rfl fun a hE => ?_
   refine nO hE rfl rfl rfl (by rw [hg90]; decide) rfl fun a hE => ?_
   refine nO hE rfl rfl rfl (by rw [hg90]; decide) rfl fun a hE => ?_
   refine vP hS hE (Gives.pickF hE rfl hg90 rfl) rfl fun a hE => ?_
   refine vp hS hE rfl rfl fun a hE => ?_
   refine nO hE rfl rfl rfl (by decide) rfl fun a hE => ?_
   refine nO hE rfl rfl rfl (by decide) rfl fun a hE => ?_
   refine nO hE rfl rfl rfl (by decide) rfl fun a hE => ?_
   refine vP hS hE (Gives.pickF hE rfl rfl rfl) rfl fun a hE => ?_
   refine vp hS hE rfl rfl fun a hE => ?_
   refine nO hE rfl rfl rfl (by decide) rfl fun a hE => ?_
   refine nO hE rfl rfl rfl (by decide) rfl fun a hE => ?_
   refine nO hE rfl rfl rfl (by decide) rfl fun a hE => ?_
   refine nO hE rfl rfl rfl (by decide) rfl fun a hE => ?_
   refine nO hE rfl rfl rfl (by decide) rfl fun a hE => ?_
   refine nO hE rfl rfl rfl (by decide) rfl fun a hE => ?_
   refine vP hS hE (Gives.pickF hE rfl rfl rfl) rfl fun a hE => ?_
   refine vp hS hE rfl rfl fun a hE => WL.nil ?_
   replace hS := hS.tail
   replace hS := hS.tail
   subst hK87
   exact ⟨false, Option.some.inj hq82, hE.pick _ ⟨rfl, trivial⟩, hS⟩
  clear hE hS a w; rintro a w ⟨q86, rfl, hE, hS⟩
  refine W.ret ?_
  refine finG (fn := Tryd.f7) (rs := [.tmp 10]) (vs := [_]) hE rfl ⟨rfl, trivial⟩ ?_
  obtain rfl := Option.some.inj hr
  replace hS := hS.tail
  exact ⟨rfl, (hS.down (Sg.Le.trans hle61 hle71))⟩
 replace hr := iteF hc81 hr
 refine W.skip ?_
 refine W.seq ?_
 refine W.seq ?_
 obtain ⟨q94, hq93, hr⟩ := bindS hr
 refine W.cut (fun a w => ∃ (q97 : Bool), ∃ (s95 : Sg), s70.Le s95 ∧ q97 = q94 ∧ Rep a 109 [(1, vi x1), (2, vi x2), (3, vi x3), (4, vi x4), (5, pp b51), (13, .slice a64 q62.1.length c65), (14, vi q62.2), (78, .bool q97)] ∧ St w s95 (vecC 28 1 a64 c65 q62.1.length cs67 :: pc b51 #[.slice a0_0 x0.Trains.length c0_0, .slice a0_1 x0.Turns.length c0_1] 25 :: R)) ?_ ?_
 ·refine W.gen fun K98 hK98 => ?_
  refine W.region ?_
  obtain ⟨q99, hq100, hq93⟩ := bindS hq93
  have hc_ := Fishlaw2guides_ok hS (TabS.mono (Sg.Le.trans hle61 hle71) hTab) hq100
  refine WL.fnq hE (hc_) (runs_plain rfl) bd13 rfl rfl rfl ?_
  clear hE hS hc_; rintro e w ⟨rfl, hS⟩; refine ⟨_, rfl, ?_⟩; clear a; intro a hE
  refine v2 hS hE rfl rfl rfl rfl fun a hE => ?_
  rcases Bool.eq_false_or_eq_true !q99 with hg101 | hg101
  ·replace hq93 := iteT hg101 hq93
   refine nO hE rfl rfl rfl (by rw [hg101]; decide) rfl fun a hE => ?_
   refine nO hE rfl rfl rfl (by rw [hg101]; decide) rfl fun a hE => ?_
   refine vP hS hE (Gives.pickT hE rfl hg101 rfl) rfl fun a hE => ?_
   refine vp hS hE rfl rfl fun a hE => ?_
   refine nO hE rfl rfl rfl (by decide) rfl fun a hE => ?_
   refine nO hE rfl rfl rfl (by decide) rfl fun a hE => ?_
   refine nO hE rfl rfl rfl (by decide) rfl fun a hE => ?_
   refine nO hE rfl rfl rfl (by decide) rfl fun a hE => ?_
   refine nO hE rfl rfl rfl (by decide) rfl fun a hE => ?_
   refine nO hE rfl rfl rfl (by decide) rfl fun a hE => ?_
   refine nO hE rfl rfl rfl (by decide) rfl fun a hE => ?_
   refine nO hE rfl rfl rfl (by decide) rfl fun a hE => ?_
   refine vP hS hE (Gives.pickT hE rfl rfl rfl) rfl fun a hE => WL.nil ?_
   replace hS := hS.dropAt 1
   subst hK98
   exact ⟨true, s70, (Sg.Le.refl _), Option.some.inj hq93, hE.pick _ ⟨rfl, rfl, rfl, rfl, rfl, rfl, rfl, rfl, trivial⟩, hS⟩
  replace hq93 := iteF hg101 hq93
  refine WL.vS hS hE (runs_if hE rfl rfl rfl hg101) (Gives.p hE rfl) rfl fun a hE => ?_
  refine WL.vS hS hE (runs_if hE rfl rfl rfl hg101) (Gives.p hE rfl) rfl fun a hE => ?_
  refine vP hS hE (Gives.pickF hE rfl hg101 rfl) rfl fun a hE => ?_
  refine vp hS hE rfl rfl fun a hE => ?_
  rcases Bool.eq_false_or_eq_true (q52.2 != 0) with hg102 | hg102
  ·replace hq93 := iteT hg102 hq93
   refine nO hE rfl rfl rfl (by rw [hg102]; decide) rfl fun a hE => ?_
   refine nO hE rfl rfl rfl (by rw [hg102]; decide) rfl fun a hE => ?_
   refine nO hE rfl rfl rfl (by rw [hg102]; decide) rfl fun a hE => ?_
   refine nO hE rfl rfl rfl (by rw [hg102]; decide) rfl fun a hE => ?_
   refine nO hE rfl rfl rfl (by rw [hg102]; decide) rfl fun a hE => ?_
   refine nO hE rfl rfl rfl (by rw [hg102]; decide) rfl fun a hE => ?_
   refine nO hE rfl rfl rfl (by rw [hg102]; decide) rfl fun a hE => ?_
   refine nO hE rfl rfl rfl (by rw [hg102]; decide) rfl fun a hE => ?_
   refine vP hS hE (Gives.pickT hE rfl hg102 rfl) rfl fun a hE => WL.nil ?_
   replace hS := hS.dropAt 1
   subst hK98
   exact ⟨true, s70, (Sg.Le.refl _), Option.some.inj hq93, hE.pick _ ⟨rfl, rfl, rfl, rfl, rfl, rfl, rfl, rfl, trivial⟩, hS⟩
  replace hq93 := iteF hg102 hq93
  refine WL.vS hS hE (runs_if hE rfl rfl rfl hg102) (Gives.p hE rfl) rfl fun a hE => ?_
  refine WL.vS hS hE (runs_if hE rfl rfl rfl hg102) (Gives.loadBA hE 2 rfl rfl ty25) rfl fun a hE => ?_
  refine WL.vS hS hE (runs_if hE rfl rfl rfl hg102) (Gives.p hE rfl) rfl fun a hE => ?_
  refine WL.vS hS hE (runs_if hE rfl rfl rfl hg102) (Gives.p hE rfl) rfl fun a hE => ?_
  refine WL.vS hS hE (runs_if hE rfl rfl rfl hg102) (Gives.p hE rfl) rfl fun a hE => ?_
  obtain ⟨q103, hq104, hq93⟩ := bindS hq93
  have hc_ := Fishref2ProfileOf_ok hS h0_0 h0_1 hq104
  refine WL.fnq hE (hc_) (runs_if hE rfl rfl rfl hg102) bd28 rfl rfl rfl ?_
  clear hE hS hc_; rintro e w ⟨a105, c106, n107, cs108, s111, rfl, hle112, h109, rfl, hS⟩; refine ⟨_, rfl, ?_⟩; clear a; intro a hE
  replace h0_0 := Sl.mono RApiTrain.mono hle112 h0_0
  replace h0_1 := Sl.mono (RL.mono RI.mono) hle112 h0_1
  replace h68 := Ev.mono RGuideJourney.mono hle112 h68
  replace h58 := Ev.mono RGuidePoint.mono hle112 h58
  obtain ⟨q113, hq114, hq93⟩ := bindS hq93
  have hF := hS.lendV RGuidePoint.mono 2 rfl h58 rfl; clear hS; obtain ⟨t115, hle116, hS, hs117, bk118⟩ := hF
  have hF := hS.lendV RGuidePoint.mono 0 rfl (Ev.mono RGuidePoint.mono hle116 h109) rfl; clear hS; obtain ⟨t119, hle120, hS, hs121, bk122⟩ := hF
  have hc_ := SlicesEqualLguidePoint_ok hS (Sl.mono RGuidePoint.mono hle120 hs117) hs121 hq114
  refine WL.fnq hE (hc_) (runs_if hE rfl rfl rfl hg102) bd27 rfl rfl rfl ?_
  clear hE hS hc_; rintro e w ⟨rfl, hS⟩; refine ⟨_, rfl, ?_⟩; clear a; intro a hE
  replace hS := bk122 _ _ hS
  replace hS := bk118 _ _ hS
  refine WL.vS hS hE (runs_if hE rfl rfl rfl hg102) (Gives.p hE rfl) rfl fun a hE => ?_
  refine vP hS hE (Gives.pickF hE rfl hg102 rfl) rfl fun a hE => WL.nil ?_
  replace hS := hS.tail
  replace hS := hS.tail
  subst hK98
  exact ⟨!q113, s111, hle112, Option.some.inj hq93, hE.pick _ ⟨rfl, rfl, rfl, rfl, rfl, rfl, rfl, rfl, trivial⟩, hS⟩
 clear hE hS a w; rintro a w ⟨q97, s95, hle96, rfl, hE, hS⟩
 replace h68 := Ev.mono RGuideJourney.mono hle96 h68
 replace h0_0 := Sl.mono RApiTrain.mono hle96 h0_0
 replace h0_1 := Sl.mono (RL.mono RI.mono) hle96 h0_1
 refine W.cond hE rfl (fun hc123 => ?_) (fun hc123 => ?_)
 ·replace hr := iteT hc123 hr
  refine W.seq (W.region (vp hS hE rfl rfl fun a hE => WL.nil ?_))
  refine W.ret ?_
  refine finG (fn := Tryd.f7) (rs := [.tmp 10]) (vs := [_]) hE rfl ⟨rfl, trivial⟩ ?_
  obtain rfl := Option.some.inj hr
  replace hS := hS.tail
  replace hS := hS.tail
  exact ⟨rfl, (hS.down (Sg.Le.trans (Sg.Le.trans hle61 hle71) hle96))⟩
 replace hr := iteF hc123 hr
 refine W.skip ?_
 refine W.seq ?_
 refine W.seq ?_
 obtain ⟨q125, hq124, hr⟩ := bndS hr
 refine W.cut (fun a w => ∃ (q128 : Bool), q128 = q125 ∧ Rep a 109 [(1, vi x1), (2, vi x2), (3, vi x3), (4, vi x4), (5, pp b51), (13, .slice a64 q62.1.length c65), (14, vi q62.2), (84, .bool q128)] ∧ St w s95 (vecC 28 1 a64 c65 q62.1.length cs67 :: pc b51 #[.slice a0_0 x0.Trains.length c0_0, .slice a0_1 x0.Turns.length c0_1] 25 :: R)) ?_ ?_
 ·refine W.gen fun K129 hK129 => ?_
  refine W.region ?_
  refine v2 hS hE rfl rfl rfl rfl fun a hE => ?_
  refine vp hS hE rfl rfl fun a hE => ?_
  rcases Bool.eq_false_or_eq_true (decide (x4 < 0)) with hg130 | hg130
  ·replace hq124 := iteT hg130 hq124
   refine nO hE rfl rfl rfl (by rw [hg130]; decide) rfl fun a hE => ?_
   refine nO hE rfl rfl rfl (by rw [hg130]; decide) rfl fun a hE => ?_
   refine vP hS hE (Gives.pickT hE rfl hg130 rfl) rfl fun a hE => WL.nil ?_
   subst hK129
   exact ⟨true, hq124, hE.pick _ ⟨rfl, rfl, rfl, rfl, rfl, rfl, rfl, rfl, trivial⟩, hS⟩
  replace hq124 := iteF hg130 hq124
  refine WL.vS hS hE (runs_if hE rfl rfl rfl hg130) (Gives.p hE rfl) rfl fun a hE => ?_
  refine WL.vS hS hE (runs_if hE rfl rfl rfl hg130) (Gives.p hE rfl) rfl fun a hE => ?_
  refine vP hS hE (Gives.pickF hE rfl hg130 rfl) rfl fun a hE => WL.nil ?_
  subst hK129
  exact ⟨decide (x4 > 200), hq124, hE.pick _ ⟨rfl, rfl, rfl, rfl, rfl, rfl, rfl, rfl, trivial⟩, hS⟩
 clear hE hS a w; rintro a w ⟨q128, rfl, hE, hS⟩
 refine W.cond hE rfl (fun hc131 => ?_) (fun hc131 => ?_)
 ·replace hr := iteT hc131 hr
  refine W.seq ?_
  obtain ⟨q133, hq132, hr⟩ := bndS hr
  refine W.cut (fun a w => ∃ (q136 : Bool), q136 = q133 ∧ Rep a 109 [(10, .bool q136)] ∧ St w s95 (pc b51 #[.slice a0_0 x0.Trains.length c0_0, .slice a0_1 x0.Turns.length c0_1] 25 :: R)) ?_ ?_
  ·refine W.gen fun K137 hK137 => ?_
   refine W.region ?_
   refine v2 hS hE rfl rfl rfl rfl fun a hE => ?_
   refine vp hS hE rfl rfl fun a hE => ?_
   rcases Bool.eq_false_or_eq_true (q62.2 == 2) with hg138 | hg138
   ·replace hq132 := iteT hg138 hq132
    refine WL.vS hS hE (runs_if hE rfl rfl rfl hg138) (Gives.p hE rfl) rfl fun a hE => ?_
    refine WL.vS hS hE (runs_if hE rfl rfl rfl hg138) (Gives.len hE rfl sl39) rfl fun a hE => ?_
    refine WL.vS hS hE (runs_if hE rfl rfl rfl hg138) (Gives.p hE rfl) rfl fun a hE => ?_
    refine vP hS hE (Gives.pickT hE rfl hg138 rfl) rfl fun a hE => ?_
    refine vp hS hE rfl rfl fun a hE => WL.nil ?_
    replace hS := hS.tail
    subst hK137
    exact ⟨(((q62.1.length : Nat) : Int) == 0), hq132, hE.pick _ ⟨rfl, trivial⟩, hS⟩
   replace hq132 := iteF hg138 hq132
   refine nO hE rfl rfl rfl (by rw [hg138]; decide) rfl fun a hE => ?_
   refine nO hE rfl rfl rfl (by rw [hg138]; decide) rfl fun a hE => ?_
   refine nO hE rfl rfl rfl (by rw [hg138]; decide) rfl fun a hE => ?_
   refine vP hS hE (Gives.pickF hE rfl hg138 rfl) rfl fun a hE => ?_
   refine vp hS hE rfl rfl fun a hE => WL.nil ?_
   replace hS := hS.tail
   subst hK137
   exact ⟨false, hq132, hE.pick _ ⟨rfl, trivial⟩, hS⟩
  clear hE hS a w; rintro a w ⟨q136, rfl, hE, hS⟩
  refine W.ret ?_
  refine finG (fn := Tryd.f7) (rs := [.tmp 10]) (vs := [_]) hE rfl ⟨rfl, trivial⟩ ?_
  obtain rfl := Option.some.inj hr
  replace hS := hS.tail
  exact ⟨rfl, (hS.down (Sg.Le.trans (Sg.Le.trans hle61 hle71) hle96))⟩
 replace hr := iteF hc131 hr
 refine W.skip ?_
 refine W.seq (W.region (vP hS hE (Gives.loadBA hE 1 rfl rfl ty25) rfl fun a hE => ?_))
 refine v2 hS hE rfl rfl rfl rfl fun a hE => ?_
 refine vp hS hE rfl rfl fun a hE => ?_
 obtain ⟨q139, hq140, hr⟩ := bindS hr
 have hc_ := Fishref2AllOf_ok hS h0_0 h0_1 hq140
 refine WL.fnq hE (hc_) (runs_plain rfl) bd29 rfl rfl rfl ?_
 clear hE hS hc_; rintro e w ⟨a141, c142, n143, cs144, s147, rfl, hle148, h145, rfl, hS⟩; refine ⟨_, rfl, ?_⟩; clear a; intro a hE
 replace h0_0 := Sl.mono RApiTrain.mono hle148 h0_0
 replace h0_1 := Sl.mono (RL.mono RI.mono) hle148 h0_1
 replace h68 := Ev.mono RGuideJourney.mono hle148 h68
 refine vp hS hE rfl rfl fun a hE => WL.nil ?_
 refine W.seq ?_
 obtain ⟨q150, hq149, hr⟩ := bindS hr
 refine W.cut (fun a w => ∃ (q153 : Bool), ∃ (s151 : Sg), s147.Le s151 ∧ q153 = q150 ∧ Rep a 109 [(10, .bool q153)] ∧ St w s151 (pc b51 #[.slice a0_0 x0.Trains.length c0_0, .slice a0_1 x0.Turns.length c0_1] 25 :: R)) ?_ ?_
 ·refine W.gen fun K154 hK154 => ?_
  refine W.region ?_
  refine v2 hS hE rfl rfl rfl rfl fun a hE => ?_
  refine vp hS hE rfl rfl fun a hE => ?_
  rcases Bool.eq_false_or_eq_true (q62.2 == 0) with hg155 | hg155
  ·replace hq149 := iteT hg155 hq149
   refine WL.vS hS hE (runs_if hE rfl rfl rfl hg155) (Gives.p hE rfl) rfl fun a hE => ?_
   refine WL.vS hS hE (runs_if hE rfl rfl rfl hg155) (Gives.p hE rfl) rfl fun a hE => ?_
   refine WL.vS hS hE (runs_if hE rfl rfl rfl hg155) (Gives.p hE rfl) rfl fun a hE => ?_
   refine WL.vS hS hE (runs_if hE rfl rfl rfl hg155) (Gives.p hE rfl) rfl fun a hE => ?_
   refine WL.vS hS hE (runs_if hE rfl rfl rfl hg155) (Gives.len hE rfl sl39) rfl fun a hE => ?_
   refine WL.vS hS hE (runs_if hE rfl rfl rfl hg155) (Gives.min2 hE rfl rfl) rfl fun a hE => ?_
   have hF := hS.fixD RGuideJourney.mono 0 rfl h145 rfl; clear hS; obtain ⟨s156, hle157, hS, h158⟩ := hF
   replace h0_0 := Sl.mono RApiTrain.mono hle157 h0_0
   replace h0_1 := Sl.mono (RL.mono RI.mono) hle157 h0_1
   replace h68 := Ev.mono RGuideJourney.mono hle157 h68
   obtain ⟨x159, hx160, hq149⟩ := bindS hq149
   obtain ⟨a161, c162, heq163, h164⟩ := h158.cut hx160
   obtain ⟨h165, h166, h167, _⟩ := cutl_some hx160
   refine WL.vS hS hE (runs_if hE rfl rfl rfl hg155) (Gives.slH hE sl39 rfl rfl (by omega) (by have := h158.len; omega) heq163) rfl fun a hE => ?_
   obtain ⟨q168, hq169, hq149⟩ := bindS hq149
   have hF := hS.lendV RGuideJourney.mono 0 rfl h68 rfl; clear hS; obtain ⟨t170, hle171, hS, hs172, bk173⟩ := hF
   have hc_ := SlicesEqualFuncLguideJourney_v1_ok hS hs172 (Sl.mono RGuideJourney.mono hle171 h164) hq169
   refine WL.fnq hE (hc_) (runs_if hE rfl rfl rfl hg155) bd30 rfl rfl rfl ?_
   clear hE hS hc_; rintro e w ⟨rfl, hS⟩; refine ⟨_, rfl, ?_⟩; clear a; intro a hE
   replace hS := bk173 _ _ hS
   refine vP hS hE (Gives.pickT hE rfl hg155 rfl) rfl fun a hE => ?_
   refine vp hS hE rfl rfl fun a hE => WL.nil ?_
   replace hS := hS.tail
   subst hK154
   exact ⟨q168, s156, hle157, Option.some.inj hq149, hE.pick _ ⟨rfl, trivial⟩, hS⟩
  replace hq149 := iteF hg155 hq149
  refine nO hE rfl rfl rfl (by rw [hg155]; decide) rfl fun a hE => ?_
  refine nO hE rfl rfl rfl (by rw [hg155]; decide) rfl fun a hE => ?_
  refine nO hE rfl rfl rfl (by rw [hg155]; decide) rfl fun a hE => ?_
  refine nO hE rfl rfl rfl (by rw [hg155]; decide) rfl fun a hE => ?_
  refine nO hE rfl rfl rfl (by rw [hg155]; decide) rfl fun a hE => ?_
  refine nO hE rfl rfl rfl (by rw [hg155]; decide) rfl fun a hE => ?_
  refine nO hE rfl rfl rfl (by rw [hg155]; decide) rfl fun a hE => ?_
  refine nO hE rfl rfl rfl (by rw [hg155]; decide) rfl fun a hE => ?_
  refine vP hS hE (Gives.pickF hE rfl hg155 rfl) rfl fun a hE => ?_
  refine vp hS hE rfl rfl fun a hE => WL.nil ?_
  replace hS := hS.tail
  replace hS := hS.tail
  subst hK154
  exact ⟨false, s147, (Sg.Le.refl _), Option.some.inj hq149, hE.pick _ ⟨rfl, trivial⟩, hS⟩
 clear hE hS a w; rintro a w ⟨q153, s151, hle152, rfl, hE, hS⟩
 replace h0_0 := Sl.mono RApiTrain.mono hle152 h0_0
 replace h0_1 := Sl.mono (RL.mono RI.mono) hle152 h0_1
 refine W.ret ?_
 refine finG (fn := Tryd.f7) (rs := [.tmp 10]) (vs := [_]) hE rfl ⟨rfl, trivial⟩ ?_
 obtain rfl := Option.some.inj hr
 replace hS := hS.tail
 exact ⟨rfl, (hS.down (Sg.Le.trans (Sg.Le.trans (Sg.Le.trans (Sg.Le.trans hle61 hle71) hle96) hle148) hle152))⟩
end Go.Proofs.YtpcebngchmgckaaDoor
