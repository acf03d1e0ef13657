/- The walks of the functions that PlanTexts reaches: each call comes to what its mirror says. The conditions are those of each contract. -/
import Derived.Test.YtledekclojpbbaaDoorProg
import Derived.Test.YtledekclojpbbaaDoorPlanTextsM
import Derived.Test.YtledekclojpbbaaDoorFpAllT
import Derived.Test.YtledekclojpbbaaDoorPlanTextsS
import Derived.Test.YtledekclojpbbaaDoorFpMapS
import Derived.Test.YtledekclojpbbaaDoorFpErr
import Derived.Test.YtledekclojpbbaaDoorFpHot
import Derived.Test.YtledekclojpbbaaDoorPlanTextsW1
set_option maxRecDepth 10000
namespace Go.Proofs.YtledekclojpbbaaDoor
open Go Go.Fp
set_option maxHeartbeats 8000000 in
theorem Planadd_v1_ok  {w : World} {s : Sg} {R : List HP} {pb0 : Nat} {x1 : ByteArray} {x2 : List Int} {a2 : Option Addr} {c2 : Nat} {x3 : Int} {y0 : ApiDay} {a_v0 : Option Addr} {c_v0 n_v0 : Nat} {cs_v0 : HotD} {a_v1 : Option Addr} {c_v1 n_v1 : Nat} {cs_v1 : List Value} (hS : St w s (pt pb0 (.cells #[.slice a_v0 n_v0 c_v0, .slice a_v1 n_v1 c_v1] 33 (0, 0)) :: hotC 67 4 a_v0 c_v0 n_v0 cs_v0 :: vecC 23 1 a_v1 c_v1 n_v1 cs_v1 :: R)) (h2 : Sl 1 (RI .i64) s a2 c2 x2) (h_v0 : HEv 4 HtApiTrain s cs_v0 y0.Trains) (hn_v0 : y0.Trains.length = n_v0) (h_v1 : Ev 1 (RL 1 (RI .i64)) s cs_v1 y0.Turns) (hn_v1 : y0.Turns.length = n_v1) {r : Int × Bool × (List ApiTrain) × (List (List Int))} (hr : Planadd_v1 x1 x2 x3 y0 = some r) :
    Calls Tryd.prog 41 [.pointer (some ⟨pb0, 0, none⟩), .string x1, .slice a2 x2.length c2, .int .i64 x3].toArray w (fun e w => ∃ (a52 : Option Addr) (c53 : Nat) (n55 : Nat) (cs56 : HotD) (a59 : Option Addr) (c60 : Nat) (n62 : Nat) (cs63 : List Value), e = .returned (.tuple #[.int .i64 r.1, .bool r.2.1]) ∧ HEv 4 HtApiTrain s cs56 r.2.2.1 ∧ r.2.2.1.length = n55 ∧ Ev 1 (RL 1 (RI .i64)) s cs63 r.2.2.2 ∧ r.2.2.2.length = n62 ∧ St w s (pt pb0 (.cells #[.slice a52 n55 c53, .slice a59 n62 c60] 33 (0, 0)) :: hotC 67 4 a52 c53 n55 cs56 :: vecC 23 1 a59 c60 n62 cs63 :: R)) := by
  refine enter Tryd.func41 rfl rfl rfl fun a hE => ?_
  rw [Planadd_v1] at hr
  subst hn_v0
  subst hn_v1
  refine W.seq ?_
  refine W.region ?_
  refine WL.vS hS hE (runs_plain rfl) (Gives.p hE rfl) rfl ?_; clear hE a; intro a hE
  refine WL.vS hS hE (runs_plain rfl) (Gives.p hE rfl) rfl ?_; clear hE a; intro a hE
  refine WL.nil ?_
  refine W.seq ?_
  refine W.region ?_
  refine WL.vS hS hE (runs_plain rfl) (Gives.p hE rfl) rfl ?_; clear hE a; intro a hE
  refine WL.nil ?_
  refine W.seq ?_
  refine W.seq ?_
  refine W.region ?_
  refine WL.vS hS hE (runs_plain rfl) (Gives.p hE rfl) rfl ?_; clear hE a; intro a hE
  refine WL.vS hS hE (runs_plain rfl) (Gives.nilOk hE rfl) rfl ?_; clear hE a; intro a hE
  refine WL.vS hS hE (runs_plain rfl) (Gives.fld hE rfl fl33_0) rfl ?_; clear hE a; intro a hE
  refine WL.vS hS hE (runs_plain rfl) (Gives.loadB hE 0 rfl rfl rfl ty30) rfl ?_; clear hE a; intro a hE
  refine WL.vS hS hE (runs_plain rfl) (Gives.len hE rfl sl30) rfl ?_; clear hE a; intro a hE
  refine WL.vS hS hE (runs_plain rfl) (Gives.p hE rfl) rfl ?_; clear hE a; intro a hE
  refine WL.nil ?_
  refine W.cond hE rfl (fun hc65 => ?_) (fun hc65 => ?_)
  · replace hr := iteT hc65 hr
    refine W.regionQ (C := fun w => St w s (pt pb0 (.cells #[.slice a_v0 y0.Trains.length c_v0, .slice a_v1 y0.Turns.length c_v1] 33 (0, 0)) :: hotC 67 4 a_v0 c_v0 y0.Trains.length cs_v0 :: vecC 23 1 a_v1 c_v1 y0.Turns.length cs_v1 :: R)) mixed (by kernel_rfl) hS.drew ?_
    refine QL.v hE (runs_plain rfl) (Gives.p hE rfl) rfl ?_; clear hE a; intro a hE
    refine QL.v hE (runs_plain rfl) (Gives.nilOk hE rfl) rfl ?_; clear hE a; intro a hE
    refine QL.v hE (runs_plain rfl) (Gives.fld hE rfl fl33_0) rfl ?_; clear hE a; intro a hE
    refine QL.v hE (runs_plain rfl) (Gives.loadB hE 0 rfl rfl rfl ty30) rfl ?_; clear hE a; intro a hE
    refine QL.v hE (runs_plain rfl) (Gives.p hE rfl) rfl ?_; clear hE a; intro a hE
    refine QL.v hE (runs_plain rfl) (Gives.nilOk hE rfl) rfl ?_; clear hE a; intro a hE
    refine QL.v hE (runs_plain rfl) (Gives.fld hE rfl fl33_0) rfl ?_; clear hE a; intro a hE
    refine QL.v hE (runs_plain rfl) (Gives.loadB hE 0 rfl rfl rfl ty30) rfl ?_; clear hE a; intro a hE
    refine QL.v hE (runs_plain rfl) (Gives.len hE rfl sl30) rfl ?_; clear hE a; intro a hE
    refine QL.v hE (runs_plain rfl) (Gives.p hE rfl) rfl ?_; clear hE a; intro a hE
    obtain ⟨x66, hx67, hr⟩ := bindS hr
    obtain ⟨hi68, hlt69, hy70⟩ := gx_some hx67
    have haok_ := (hS.hotOpen 1 rfl).vecAok 0 rfl (by omega : (w64 (((y0.Trains.length : Nat) : Int) - 1)).toNat < y0.Trains.length)
    refine QL.v hE (runs_plain rfl) (Gives.idx hE ((w64 (((y0.Trains.length : Nat) : Int) - 1)).toNat) rfl rfl sl30 hi68 (by omega) haok_) rfl ?_; clear hE a; intro a hE
    refine QL.v hE (runs_plain rfl) (Gives.p hE rfl) rfl ?_; clear hE a; intro a hE
    refine QL.nil ?_; clear hS w; intro w hS
    refine W.seq ?_
    refine W.block ?_
    refine W.seq ?_
    obtain ⟨q72, hq71, hr⟩ := bndS hr
    refine W.cut (fun a w => ∃ (q75 : Bool), q75 = q72 ∧ Rep a 134 [(0, .pointer (some ⟨pb0, 0, none⟩)), (1, .string x1), (2, .slice a2 x2.length c2), (3, .int .i64 x3), (10, .pointer (some ⟨ab a_v0, ao a_v0 + (w64 (((y0.Trains.length : Nat) : Int) - 1)).toNat * 4, none⟩)), (28, .bool q75)] ∧ St w s (pt pb0 (.cells #[.slice a_v0 y0.Trains.length c_v0, .slice a_v1 y0.Turns.length c_v1] 33 (0, 0)) :: hotC 67 4 a_v0 c_v0 y0.Trains.length cs_v0 :: vecC 23 1 a_v1 c_v1 y0.Turns.length cs_v1 :: R)) ?_ ?_
    · refine W.gen fun K76 hK76 => ?_
      refine W.region ?_
      refine WL.vS hS hE (runs_plain rfl) (Gives.p hE rfl) rfl ?_; clear hE a; intro a hE
      refine WL.vS hS hE (runs_plain rfl) (Gives.eqSt hE rfl rfl) rfl ?_; clear hE a; intro a hE
      refine WL.vS hS hE (runs_plain rfl) (Gives.p hE rfl) rfl ?_; clear hE a; intro a hE
      rcases Bool.eq_false_or_eq_true (seq x1 (str [116, 114, 97, 105, 110])) with hg77 | hg77
      · replace hq71 := iteT hg77 hq71
        refine WL.vS hS hE (runs_if hE rfl rfl rfl hg77) (Gives.p hE rfl) rfl ?_; clear hE a; intro a hE
        refine WL.vS hS hE (runs_if hE rfl rfl rfl hg77) (Gives.len hE rfl sl23) rfl ?_; clear hE a; intro a hE
        refine WL.vS hS hE (runs_if hE rfl rfl rfl hg77) (Gives.p hE rfl) rfl ?_; clear hE a; intro a hE
        refine WL.vS hS hE (runs_plain rfl) (Gives.pickT hE rfl hg77 rfl) rfl ?_; clear hE a; intro a hE
        refine WL.vS hS hE (runs_plain rfl) (Gives.p hE rfl) rfl ?_; clear hE a; intro a hE
        rcases Bool.eq_false_or_eq_true (((x2).length : Int) == 2) with hg78 | hg78
        · replace hq71 := iteT hg78 hq71
          refine WL.vS hS hE (runs_if hE rfl rfl rfl hg78) (Gives.p hE rfl) rfl ?_; clear hE a; intro a hE
          refine WL.vS hS hE (runs_if hE rfl rfl rfl hg78) (Gives.p hE rfl) rfl ?_; clear hE a; intro a hE
          refine WL.vS hS hE (runs_plain rfl) (Gives.pickT hE rfl hg78 rfl) rfl ?_; clear hE a; intro a hE
          refine WL.vS hS hE (runs_plain rfl) (Gives.p hE rfl) rfl ?_; clear hE a; intro a hE
          refine WL.nil ?_
          subst hK76
          exact ⟨decide (x3 < 3), hq71, hE.pick _ ⟨rfl, rfl, rfl, rfl, rfl, rfl, trivial⟩, hS⟩
        · replace hq71 := iteF hg78 hq71
          refine WL.no hE (runs_not hE rfl rfl rfl (by rw [hg78]; decide)) rfl ?_; clear hE a; intro a hE
          refine WL.no hE (runs_not hE rfl rfl rfl (by rw [hg78]; decide)) rfl ?_; clear hE a; intro a hE
          refine WL.vS hS hE (runs_plain rfl) (Gives.pickF hE rfl hg78 rfl) rfl ?_; clear hE a; intro a hE
          refine WL.vS hS hE (runs_plain rfl) (Gives.p hE rfl) rfl ?_; clear hE a; intro a hE
          refine WL.nil ?_
          subst hK76
          exact ⟨false, hq71, hE.pick _ ⟨rfl, rfl, rfl, rfl, rfl, rfl, trivial⟩, hS⟩
      · replace hq71 := iteF hg77 hq71
        refine WL.no hE (runs_not hE rfl rfl rfl (by rw [hg77]; decide)) rfl ?_; clear hE a; intro a hE
        refine WL.no hE (runs_not hE rfl rfl rfl (by rw [hg77]; decide)) rfl ?_; clear hE a; intro a hE
        refine WL.no hE (runs_not hE rfl rfl rfl (by rw [hg77]; decide)) rfl ?_; clear hE a; intro a hE
        refine WL.vS hS hE (runs_plain rfl) (Gives.pickF hE rfl hg77 rfl) rfl ?_; clear hE a; intro a hE
        refine WL.vS hS hE (runs_plain rfl) (Gives.p hE rfl) rfl ?_; clear hE a; intro a hE
        refine WL.no hE (runs_not hE rfl rfl rfl (by decide)) rfl ?_; clear hE a; intro a hE
        refine WL.no hE (runs_not hE rfl rfl rfl (by decide)) rfl ?_; clear hE a; intro a hE
        refine WL.vS hS hE (runs_plain rfl) (Gives.pickF hE rfl rfl rfl) rfl ?_; clear hE a; intro a hE
        refine WL.vS hS hE (runs_plain rfl) (Gives.p hE rfl) rfl ?_; clear hE a; intro a hE
        refine WL.nil ?_
        subst hK76
        exact ⟨false, hq71, hE.pick _ ⟨rfl, rfl, rfl, rfl, rfl, rfl, trivial⟩, hS⟩
    · clear hE hS a w; rintro a w ⟨q75, rfl, hE, hS⟩
      refine W.cond hE rfl (fun hc79 => ?_) (fun hc79 => ?_)
      · replace hr := iteT hc79 hr
        refine W.seq ?_
        refine W.gen fun K80 hK80 => ?_
        refine W.regionE (sel (fun w => St w s (pt pb0 (.cells #[.slice a_v0 y0.Trains.length c_v0, .slice a_v1 y0.Turns.length c_v1] 33 (0, 0)) :: hotC 67 4 a_v0 c_v0 y0.Trains.length cs_v0 :: vecC 23 1 a_v1 c_v1 y0.Turns.length cs_v1 :: R)) (fun w => St w s (pt pb0 (.cells #[.slice a_v0 y0.Trains.length c_v0, .slice a_v1 y0.Turns.length c_v1] 33 (0, 0)) :: vecC 23 1 a_v1 c_v1 y0.Turns.length cs_v1 :: R))) (fun b i => cond b ([0, 1, 2, 3, 4, 5, 6, 7, 8, 9, 10, 11, 12, 14, 15].contains i) ([0, 1, 2, 3, 4, 5, 6, 7, 8, 9, 10, 11, 12, 13, 14, 15].contains i)) mixed ?_
        replace hS := hS.drew
        refine Rg.takeP (i := 0) hE rfl (by kernel_rfl) (runs_plain rfl) (Gives.p hE rfl) rfl (tw_sel (fun _ => hS) (fun _ => (hS.dropAt 1))) ?_; clear hE a; intro a hE
        refine Rg.takeP (i := 1) hE rfl (by kernel_rfl) (runs_plain rfl) (Gives.p hE rfl) rfl (tw_sel (fun _ => hS) (fun _ => (hS.dropAt 1))) ?_; clear hE a; intro a hE
        have hT := tw_sel (A := fun w => St w s (pt pb0 (.cells #[.slice a_v0 y0.Trains.length c_v0, .slice a_v1 y0.Turns.length c_v1] 33 (0, 0)) :: hotC 67 4 a_v0 c_v0 y0.Trains.length cs_v0 :: vecC 23 1 a_v1 c_v1 y0.Turns.length cs_v1 :: R)) (B := fun w => St w s (pt pb0 (.cells #[.slice a_v0 y0.Trains.length c_v0, .slice a_v1 y0.Turns.length c_v1] 33 (0, 0)) :: vecC 23 1 a_v1 c_v1 y0.Turns.length cs_v1 :: R)) (w := _) (x := true) (y := true) (fun _ => hS) (fun _ => (hS.dropAt 1))
        have hF := hS; replace hS := (hS.dropAt 1)
        refine Rg.take (i := 2) false rfl hE rfl (by kernel_rfl) (runs_plain rfl) (Gives.nilOk hE rfl) rfl hT ?_; clear hE a; intro a hE
        replace hS := hF; clear hF hT
        refine Rg.takeP (i := 3) hE rfl (by kernel_rfl) (runs_plain rfl) (Gives.fld hE rfl fl33_0) rfl (tw_sel (fun _ => hS) (fun _ => (hS.dropAt 1))) ?_; clear hE a; intro a hE
        have hT := tw_sel (A := fun w => St w s (pt pb0 (.cells #[.slice a_v0 y0.Trains.length c_v0, .slice a_v1 y0.Turns.length c_v1] 33 (0, 0)) :: hotC 67 4 a_v0 c_v0 y0.Trains.length cs_v0 :: vecC 23 1 a_v1 c_v1 y0.Turns.length cs_v1 :: R)) (B := fun w => St w s (pt pb0 (.cells #[.slice a_v0 y0.Trains.length c_v0, .slice a_v1 y0.Turns.length c_v1] 33 (0, 0)) :: vecC 23 1 a_v1 c_v1 y0.Turns.length cs_v1 :: R)) (w := _) (x := true) (y := true) (fun _ => hS) (fun _ => (hS.dropAt 1))
        have hF := hS; replace hS := hS
        refine Rg.take (i := 4) true rfl hE rfl (by kernel_rfl) (runs_plain rfl) (Gives.loadB hE 0 rfl rfl rfl ty30) rfl hT ?_; clear hE a; intro a hE
        replace hS := hF; clear hF hT
        refine Rg.takeP (i := 5) hE rfl (by kernel_rfl) (runs_plain rfl) (Gives.p hE rfl) rfl (tw_sel (fun _ => hS) (fun _ => (hS.dropAt 1))) ?_; clear hE a; intro a hE
        obtain ⟨x81, hx82, hr⟩ := bindS hr
        obtain ⟨hi83, hlt84, hy85⟩ := gx_some hx82
        obtain ⟨cs86, hl87, hR88, hat89⟩ := h2.at hy85
        subst hR88
        refine Rg.takeP (i := 6) hE rfl (by kernel_rfl) (runs_plain rfl) (Gives.idx hE ((0 : Int)).toNat rfl rfl sl23 hi83 hlt84 (h2.aok hlt84)) rfl (tw_sel (fun _ => hS) (fun _ => (hS.dropAt 1))) ?_; clear hE a; intro a hE
        have hT := tw_sel (A := fun w => St w s (pt pb0 (.cells #[.slice a_v0 y0.Trains.length c_v0, .slice a_v1 y0.Turns.length c_v1] 33 (0, 0)) :: hotC 67 4 a_v0 c_v0 y0.Trains.length cs_v0 :: vecC 23 1 a_v1 c_v1 y0.Turns.length cs_v1 :: R)) (B := fun w => St w s (pt pb0 (.cells #[.slice a_v0 y0.Trains.length c_v0, .slice a_v1 y0.Turns.length c_v1] 33 (0, 0)) :: vecC 23 1 a_v1 c_v1 y0.Turns.length cs_v1 :: R)) (w := _) (x := true) (y := true) (fun _ => hS) (fun _ => (hS.dropAt 1))
        have hF := hS; replace hS := (hS.dropAt 1)
        refine Rg.take (i := 7) false rfl hE rfl (by kernel_rfl) (runs_plain rfl) (Gives.load1 hE rfl (fun w h => hat89 w _ h) ty3) rfl hT ?_; clear hE a; intro a hE
        replace hS := hF; clear hF hT
        refine Rg.takeP (i := 8) hE rfl (by kernel_rfl) (runs_plain rfl) (Gives.p hE rfl) rfl (tw_sel (fun _ => hS) (fun _ => (hS.dropAt 1))) ?_; clear hE a; intro a hE
        obtain ⟨x90, hx91, hr⟩ := bindS hr
        obtain ⟨hi92, hlt93, hy94⟩ := gx_some hx91
        obtain ⟨cs95, hl96, hR97, hat98⟩ := h2.at hy94
        subst hR97
        refine Rg.takeP (i := 9) hE rfl (by kernel_rfl) (runs_plain rfl) (Gives.idx hE ((1 : Int)).toNat rfl rfl sl23 hi92 hlt93 (h2.aok hlt93)) rfl (tw_sel (fun _ => hS) (fun _ => (hS.dropAt 1))) ?_; clear hE a; intro a hE
        have hT := tw_sel (A := fun w => St w s (pt pb0 (.cells #[.slice a_v0 y0.Trains.length c_v0, .slice a_v1 y0.Turns.length c_v1] 33 (0, 0)) :: hotC 67 4 a_v0 c_v0 y0.Trains.length cs_v0 :: vecC 23 1 a_v1 c_v1 y0.Turns.length cs_v1 :: R)) (B := fun w => St w s (pt pb0 (.cells #[.slice a_v0 y0.Trains.length c_v0, .slice a_v1 y0.Turns.length c_v1] 33 (0, 0)) :: vecC 23 1 a_v1 c_v1 y0.Turns.length cs_v1 :: R)) (w := _) (x := true) (y := true) (fun _ => hS) (fun _ => (hS.dropAt 1))
        have hF := hS; replace hS := (hS.dropAt 1)
        refine Rg.take (i := 10) false rfl hE rfl (by kernel_rfl) (runs_plain rfl) (Gives.load1 hE rfl (fun w h => hat98 w _ h) ty3) rfl hT ?_; clear hE a; intro a hE
        replace hS := hF; clear hF hT
        refine Rg.takeP (i := 11) hE rfl (by kernel_rfl) (runs_plain rfl) (Gives.build hE (vs := [(0, .int .i64 x81), (1, .int .i64 x90)]) [.int .i64 x81, .int .i64 x90, .slice none 0 0, .slice none 0 0] rfl (by kernel_rfl)) rfl (tw_sel (fun _ => hS) (fun _ => (hS.dropAt 1))) ?_; clear hE a; intro a hE
        refine Rg.one (i := 12) true true rfl (by kernel_rfl) (by kernel_rfl) (by kernel_rfl) ?_
        refine WL.lit hE hS (e := 67) (es := 4) (vs := [(0, .agg (List.toArray [.int .i64 x81, .int .i64 x90, .slice none 0 0, .slice none 0 0]))]) (cs := [.int .i64 x81, .int .i64 x90, .slice none 0 0, .slice none 0 0]) (runs_plain rfl) rfl (by kernel_rfl) rfl ?_; clear hE hS a w; intro b99 a w hE hS
        refine WL.nil ?_
        refine ⟨⟨fun _ => (hS.tail), fun _ => ((hS.tail).dropAt 1)⟩, ?_⟩
        refine Rg.one (i := 13) false true rfl (by kernel_rfl) (by kernel_rfl) (by kernel_rfl) ?_
        replace hS := hS.vecNil 64 4
        replace hS := hS.vecNil 23 1
        replace hS := hS.front 4 rfl
        replace hS := hS.front 3 rfl
        replace hS := (hS.hotOpen 1 rfl)
        replace hS := hS.front 2 rfl
        replace hS : St _ s (pt b99 (.cells #[.int .i64 x81, .int .i64 x90, .slice none 0 0, .slice none 0 0] 67 (0, 0)) :: vecC 67 4 a_v0 c_v0 y0.Trains.length cs_v0.cs :: allC cs_v0.hs :: vecC 23 1 none 0 0 [] :: vecC 64 4 none 0 0 [] :: pt pb0 (.cells #[.slice a_v0 y0.Trains.length c_v0, .slice a_v1 y0.Turns.length c_v1] 33 (0, 0)) :: vecC 23 1 a_v1 c_v1 y0.Turns.length cs_v1 :: R) := hS
        obtain ⟨x102, hx103, hr⟩ := bindS hr
        refine WL.appDx hE hS 0 (m := 1) (runs_plain rfl) rfl rfl rfl ap30 rfl h_v0.ev (rfl) (xs := [(ApiTrain.mk x81 x90 [] [])]) (RX.ev rfl) rfl rfl hx103 rfl ?_; clear hE hS a w; intro a104 c105 a w h106 hE hS
        replace hS : St _ s (vecC 67 4 a104 c105 x102.length (cs_v0.cs ++ [(.int .i64 x81 : Value), (.int .i64 x90 : Value), (.slice none 0 0 : Value), (.slice none 0 0 : Value)]) :: allC cs_v0.hs :: vecC 23 1 none 0 0 [] :: vecC 64 4 none 0 0 [] :: pt pb0 (.cells #[.slice a_v0 y0.Trains.length c_v0, .slice a_v1 y0.Turns.length c_v1] 33 (0, 0)) :: vecC 23 1 a_v1 c_v1 y0.Turns.length cs_v1 :: R) := hS
        replace hS := hS.front 1 rfl
        replace hS := hS.front 2 rfl
        replace hS := hS.front 3 rfl
        replace hS : St _ s (allC (cs_v0.hs ++ [allC [vecC 64 4 none 0 0 [], vecC 23 1 none 0 0 []]]) :: vecC 67 4 a104 c105 x102.length (cs_v0.cs ++ [(.int .i64 x81 : Value), (.int .i64 x90 : Value), (.slice none 0 0 : Value), (.slice none 0 0 : Value)]) :: pt pb0 (.cells #[.slice a_v0 y0.Trains.length c_v0, .slice a_v1 y0.Turns.length c_v1] 33 (0, 0)) :: vecC 23 1 a_v1 c_v1 y0.Turns.length cs_v1 :: R) := St.oPush (ps := [vecC 64 4 none 0 0 [], vecC 23 1 none 0 0 []]) (hs := cs_v0.hs) hS
        have h107 : HEv 4 HtApiTrain s (HotD.mk (cs_v0.cs ++ [(.int .i64 x81 : Value), (.int .i64 x90 : Value), (.slice none 0 0 : Value), (.slice none 0 0 : Value)]) (cs_v0.hs ++ [allC [vecC 64 4 none 0 0 [], vecC 23 1 none 0 0 []]])) x102 := HEv.snoc h_v0 (apd_some hx103).2.symm rfl ⟨_, _, _, _, _, _, _, _, rfl, rfl, (Ev.nil), (rfl), (Ev.nil), (rfl)⟩
        replace hS := hS.front 1 rfl
        replace hS : St _ s (hotC 67 4 a104 c105 x102.length (HotD.mk (cs_v0.cs ++ [(.int .i64 x81 : Value), (.int .i64 x90 : Value), (.slice none 0 0 : Value), (.slice none 0 0 : Value)]) (cs_v0.hs ++ [allC [vecC 64 4 none 0 0 [], vecC 23 1 none 0 0 []]])) :: pt pb0 (.cells #[.slice a_v0 y0.Trains.length c_v0, .slice a_v1 y0.Turns.length c_v1] 33 (0, 0)) :: vecC 23 1 a_v1 c_v1 y0.Turns.length cs_v1 :: R) := St.hotClose hS
        generalize HotD.mk (cs_v0.cs ++ [(.int .i64 x81 : Value), (.int .i64 x90 : Value), (.slice none 0 0 : Value), (.slice none 0 0 : Value)]) (cs_v0.hs ++ [allC [vecC 64 4 none 0 0 [], vecC 23 1 none 0 0 []]]) = cs108 at hS h107
        refine WL.nil ?_
        refine ⟨⟨fun h => absurd h (by decide), fun _ => (hS.tail)⟩, ?_⟩
        refine Rg.one (i := 14) false true rfl (by kernel_rfl) (by kernel_rfl) (by kernel_rfl) ?_
        refine WL.vS hS hE (runs_plain rfl) (Gives.nilOk hE rfl) rfl ?_; clear hE a; intro a hE
        refine WL.nil ?_
        refine ⟨⟨fun h => absurd h (by decide), fun _ => (hS.tail)⟩, ?_⟩
        refine Rg.takeP (i := 15) hE rfl (by kernel_rfl) (runs_plain rfl) (Gives.fld hE rfl fl33_0) rfl (tw_sel (fun h => absurd h (by decide)) (fun _ => (hS.tail))) ?_; clear hE a; intro a hE
        refine Rg.one (i := 16) false false rfl (by kernel_rfl) (by kernel_rfl) (by kernel_rfl) ?_
        refine WL.storeI hE hS 1 rfl [.slice a104 x102.length c105, .slice a_v1 y0.Turns.length c_v1] (runs_plain rfl) rfl rfl rfl ty30 rfl rfl rfl rfl ?_; clear hE hS a w; intro a w hE hS
        refine WL.nil ?_
        refine ⟨⟨fun h => absurd h (by decide), fun h => absurd h (by decide)⟩, ?_⟩
        refine Rg.done (by kernel_rfl) ?_
        subst hK80
        refine W.seq ?_
        refine W.region ?_
        refine WL.vS hS hE (runs_plain rfl) (Gives.p hE rfl) rfl ?_; clear hE a; intro a hE
        refine WL.vS hS hE (runs_plain rfl) (Gives.p hE rfl) rfl ?_; clear hE a; intro a hE
        refine WL.nil ?_
        refine W.ret ?_
        refine finG (fn := Tryd.f41) (rs := [.tmp 8, .tmp 9]) (vs := [_, _]) hE rfl ⟨rfl, rfl, trivial⟩ ?_
        obtain rfl := Option.some.inj hr
        replace hS := hS.front 2 rfl
        replace hS := hS.front 1 rfl
        replace hS := hS.front 2 rfl
        exact ⟨a104, c105, x102.length, cs108, a_v1, c_v1, y0.Turns.length, cs_v1, rfl, h107, (rfl), h_v1, (rfl), hS⟩
      · replace hr := iteF hc79 hr
        refine W.seq ?_
        obtain ⟨q110, hq109, hr⟩ := bndS hr
        refine W.cut (fun a w => ∃ (q113 : Bool), q113 = q110 ∧ Rep a 134 [(0, .pointer (some ⟨pb0, 0, none⟩)), (1, .string x1), (2, .slice a2 x2.length c2), (3, .int .i64 x3), (10, .pointer (some ⟨ab a_v0, ao a_v0 + (w64 (((y0.Trains.length : Nat) : Int) - 1)).toNat * 4, none⟩)), (56, .bool q113)] ∧ St w s (pt pb0 (.cells #[.slice a_v0 y0.Trains.length c_v0, .slice a_v1 y0.Turns.length c_v1] 33 (0, 0)) :: hotC 67 4 a_v0 c_v0 y0.Trains.length cs_v0 :: vecC 23 1 a_v1 c_v1 y0.Turns.length cs_v1 :: R)) ?_ ?_
        · refine W.gen fun K114 hK114 => ?_
          refine W.region ?_
          refine WL.vS hS hE (runs_plain rfl) (Gives.p hE rfl) rfl ?_; clear hE a; intro a hE
          refine WL.vS hS hE (runs_plain rfl) (Gives.eqSt hE rfl rfl) rfl ?_; clear hE a; intro a hE
          refine WL.vS hS hE (runs_plain rfl) (Gives.p hE rfl) rfl ?_; clear hE a; intro a hE
          rcases Bool.eq_false_or_eq_true (seq x1 (str [115, 116, 111, 112])) with hg115 | hg115
          · replace hq109 := iteT hg115 hq109
            refine WL.vS hS hE (runs_if hE rfl rfl rfl hg115) (Gives.p hE rfl) rfl ?_; clear hE a; intro a hE
            refine WL.vS hS hE (runs_if hE rfl rfl rfl hg115) (Gives.len hE rfl sl23) rfl ?_; clear hE a; intro a hE
            refine WL.vS hS hE (runs_if hE rfl rfl rfl hg115) (Gives.p hE rfl) rfl ?_; clear hE a; intro a hE
            refine WL.vS hS hE (runs_plain rfl) (Gives.pickT hE rfl hg115 rfl) rfl ?_; clear hE a; intro a hE
            refine WL.vS hS hE (runs_plain rfl) (Gives.p hE rfl) rfl ?_; clear hE a; intro a hE
            rcases Bool.eq_false_or_eq_true (((x2).length : Int) == 4) with hg116 | hg116
            · replace hq109 := iteT hg116 hq109
              refine WL.vS hS hE (runs_if hE rfl rfl rfl hg116) (Gives.p hE rfl) rfl ?_; clear hE a; intro a hE
              refine WL.vS hS hE (runs_if hE rfl rfl rfl hg116) (Gives.p hE rfl) rfl ?_; clear hE a; intro a hE
              refine WL.vS hS hE (runs_plain rfl) (Gives.pickT hE rfl hg116 rfl) rfl ?_; clear hE a; intro a hE
              refine WL.vS hS hE (runs_plain rfl) (Gives.p hE rfl) rfl ?_; clear hE a; intro a hE
              refine WL.nil ?_
              subst hK114
              exact ⟨(x3 == 1), hq109, hE.pick _ ⟨rfl, rfl, rfl, rfl, rfl, rfl, trivial⟩, hS⟩
            · replace hq109 := iteF hg116 hq109
              refine WL.no hE (runs_not hE rfl rfl rfl (by rw [hg116]; decide)) rfl ?_; clear hE a; intro a hE
              refine WL.no hE (runs_not hE rfl rfl rfl (by rw [hg116]; decide)) rfl ?_; clear hE a; intro a hE
              refine WL.vS hS hE (runs_plain rfl) (Gives.pickF hE rfl hg116 rfl) rfl ?_; clear hE a; intro a hE
              refine WL.vS hS hE (runs_plain rfl) (Gives.p hE rfl) rfl ?_; clear hE a; intro a hE
              refine WL.nil ?_
              subst hK114
              exact ⟨false, hq109, hE.pick _ ⟨rfl, rfl, rfl, rfl, rfl, rfl, trivial⟩, hS⟩
          · replace hq109 := iteF hg115 hq109
            refine WL.no hE (runs_not hE rfl rfl rfl (by rw [hg115]; decide)) rfl ?_; clear hE a; intro a hE
            refine WL.no hE (runs_not hE rfl rfl rfl (by rw [hg115]; decide)) rfl ?_; clear hE a; intro a hE
            refine WL.no hE (runs_not hE rfl rfl rfl (by rw [hg115]; decide)) rfl ?_; clear hE a; intro a hE
            refine WL.vS hS hE (runs_plain rfl) (Gives.pickF hE rfl hg115 rfl) rfl ?_; clear hE a; intro a hE
            refine WL.vS hS hE (runs_plain rfl) (Gives.p hE rfl) rfl ?_; clear hE a; intro a hE
            refine WL.no hE (runs_not hE rfl rfl rfl (by decide)) rfl ?_; clear hE a; intro a hE
            refine WL.no hE (runs_not hE rfl rfl rfl (by decide)) rfl ?_; clear hE a; intro a hE
            refine WL.vS hS hE (runs_plain rfl) (Gives.pickF hE rfl rfl rfl) rfl ?_; clear hE a; intro a hE
            refine WL.vS hS hE (runs_plain rfl) (Gives.p hE rfl) rfl ?_; clear hE a; intro a hE
            refine WL.nil ?_
            subst hK114
            exact ⟨false, hq109, hE.pick _ ⟨rfl, rfl, rfl, rfl, rfl, rfl, trivial⟩, hS⟩
        · clear hE hS a w; rintro a w ⟨q113, rfl, hE, hS⟩
          refine W.cond hE rfl (fun hc117 => ?_) (fun hc117 => ?_)
          · replace hr := iteT hc117 hr
            refine W.seq ?_
            refine W.gen fun K118 hK118 => ?_
            refine W.regionE (sel (fun w => St w s (pt pb0 (.cells #[.slice a_v0 y0.Trains.length c_v0, .slice a_v1 y0.Turns.length c_v1] 33 (0, 0)) :: hotC 67 4 a_v0 c_v0 y0.Trains.length cs_v0 :: vecC 23 1 a_v1 c_v1 y0.Turns.length cs_v1 :: R)) (fun w => St w s (pt pb0 (.cells #[.slice a_v0 y0.Trains.length c_v0, .slice a_v1 y0.Turns.length c_v1] 33 (0, 0)) :: vecC 23 1 a_v1 c_v1 y0.Turns.length cs_v1 :: R))) (fun b i => cond b ([0, 1, 2, 3, 4, 5, 6, 7, 8, 9, 10, 11, 12, 13, 14, 15, 16, 17, 18, 20, 21].contains i) ([0, 1, 2, 3, 4, 5, 6, 7, 8, 9, 10, 11, 12, 13, 14, 15, 16, 17, 18, 19, 20, 21, 22].contains i)) mixed ?_
            replace hS := hS.drew
            refine Rg.takeP (i := 0) hE rfl (by kernel_rfl) (runs_plain rfl) (Gives.p hE rfl) rfl (tw_sel (fun _ => hS) (fun _ => (hS.dropAt 1))) ?_; clear hE a; intro a hE
            refine Rg.takeP (i := 1) hE rfl (by kernel_rfl) (runs_plain rfl) (Gives.p hE rfl) rfl (tw_sel (fun _ => hS) (fun _ => (hS.dropAt 1))) ?_; clear hE a; intro a hE
            have hT := tw_sel (A := fun w => St w s (pt pb0 (.cells #[.slice a_v0 y0.Trains.length c_v0, .slice a_v1 y0.Turns.length c_v1] 33 (0, 0)) :: hotC 67 4 a_v0 c_v0 y0.Trains.length cs_v0 :: vecC 23 1 a_v1 c_v1 y0.Turns.length cs_v1 :: R)) (B := fun w => St w s (pt pb0 (.cells #[.slice a_v0 y0.Trains.length c_v0, .slice a_v1 y0.Turns.length c_v1] 33 (0, 0)) :: vecC 23 1 a_v1 c_v1 y0.Turns.length cs_v1 :: R)) (w := _) (x := true) (y := true) (fun _ => hS) (fun _ => (hS.dropAt 1))
            have hF := hS; replace hS := (hS.dropAt 1)
            refine Rg.take (i := 2) false rfl hE rfl (by kernel_rfl) (runs_plain rfl) (Gives.nilOk hE rfl) rfl hT ?_; clear hE a; intro a hE
            replace hS := hF; clear hF hT
            refine Rg.takeP (i := 3) hE rfl (by kernel_rfl) (runs_plain rfl) (Gives.fld hE rfl fl67_2) rfl (tw_sel (fun _ => hS) (fun _ => (hS.dropAt 1))) ?_; clear hE a; intro a hE
            have hT := tw_sel (A := fun w => St w s (pt pb0 (.cells #[.slice a_v0 y0.Trains.length c_v0, .slice a_v1 y0.Turns.length c_v1] 33 (0, 0)) :: hotC 67 4 a_v0 c_v0 y0.Trains.length cs_v0 :: vecC 23 1 a_v1 c_v1 y0.Turns.length cs_v1 :: R)) (B := fun w => St w s (pt pb0 (.cells #[.slice a_v0 y0.Trains.length c_v0, .slice a_v1 y0.Turns.length c_v1] 33 (0, 0)) :: vecC 23 1 a_v1 c_v1 y0.Turns.length cs_v1 :: R)) (w := _) (x := true) (y := true) (fun _ => hS) (fun _ => (hS.dropAt 1))
            have hF := hS; replace hS := hS
            obtain ⟨H119, hH120, hO121⟩ := HEv.at h_v0 hy70
            obtain ⟨a124, c125, n126, cs127, a131, c132, n133, cs134, e122, e123, h128, hn129, h135, hn136⟩ := hO121
            subst e123
            refine Rg.take (i := 4) true rfl hE rfl (by kernel_rfl) (runs_plain rfl) (Gives.load1 hE rfl (fun w h => (St.hotSees h 1 rfl e122 rfl).one (j := 2) rfl) ty65) rfl hT ?_; clear hE a; intro a hE
            replace hS := hF; clear hF hT
            refine Rg.takeP (i := 5) hE rfl (by kernel_rfl) (runs_plain rfl) (Gives.p hE rfl) rfl (tw_sel (fun _ => hS) (fun _ => (hS.dropAt 1))) ?_; clear hE a; intro a hE
            obtain ⟨x138, hx139, hr⟩ := bindS hr
            obtain ⟨hi140, hlt141, hy142⟩ := gx_some hx139
            obtain ⟨cs143, hl144, hR145, hat146⟩ := h2.at hy142
            subst hR145
            refine Rg.takeP (i := 6) hE rfl (by kernel_rfl) (runs_plain rfl) (Gives.idx hE ((0 : Int)).toNat rfl rfl sl23 hi140 hlt141 (h2.aok hlt141)) rfl (tw_sel (fun _ => hS) (fun _ => (hS.dropAt 1))) ?_; clear hE a; intro a hE
            have hT := tw_sel (A := fun w => St w s (pt pb0 (.cells #[.slice a_v0 y0.Trains.length c_v0, .slice a_v1 y0.Turns.length c_v1] 33 (0, 0)) :: hotC 67 4 a_v0 c_v0 y0.Trains.length cs_v0 :: vecC 23 1 a_v1 c_v1 y0.Turns.length cs_v1 :: R)) (B := fun w => St w s (pt pb0 (.cells #[.slice a_v0 y0.Trains.length c_v0, .slice a_v1 y0.Turns.length c_v1] 33 (0, 0)) :: vecC 23 1 a_v1 c_v1 y0.Turns.length cs_v1 :: R)) (w := _) (x := true) (y := true) (fun _ => hS) (fun _ => (hS.dropAt 1))
            have hF := hS; replace hS := (hS.dropAt 1)
            refine Rg.take (i := 7) false rfl hE rfl (by kernel_rfl) (runs_plain rfl) (Gives.load1 hE rfl (fun w h => hat146 w _ h) ty3) rfl hT ?_; clear hE a; intro a hE
            replace hS := hF; clear hF hT
            refine Rg.takeP (i := 8) hE rfl (by kernel_rfl) (runs_plain rfl) (Gives.p hE rfl) rfl (tw_sel (fun _ => hS) (fun _ => (hS.dropAt 1))) ?_; clear hE a; intro a hE
            obtain ⟨x147, hx148, hr⟩ := bindS hr
            obtain ⟨hi149, hlt150, hy151⟩ := gx_some hx148
            obtain ⟨cs152, hl153, hR154, hat155⟩ := h2.at hy151
            subst hR154
            refine Rg.takeP (i := 9) hE rfl (by kernel_rfl) (runs_plain rfl) (Gives.idx hE ((1 : Int)).toNat rfl rfl sl23 hi149 hlt150 (h2.aok hlt150)) rfl (tw_sel (fun _ => hS) (fun _ => (hS.dropAt 1))) ?_; clear hE a; intro a hE
            have hT := tw_sel (A := fun w => St w s (pt pb0 (.cells #[.slice a_v0 y0.Trains.length c_v0, .slice a_v1 y0.Turns.length c_v1] 33 (0, 0)) :: hotC 67 4 a_v0 c_v0 y0.Trains.length cs_v0 :: vecC 23 1 a_v1 c_v1 y0.Turns.length cs_v1 :: R)) (B := fun w => St w s (pt pb0 (.cells #[.slice a_v0 y0.Trains.length c_v0, .slice a_v1 y0.Turns.length c_v1] 33 (0, 0)) :: vecC 23 1 a_v1 c_v1 y0.Turns.length cs_v1 :: R)) (w := _) (x := true) (y := true) (fun _ => hS) (fun _ => (hS.dropAt 1))
            have hF := hS; replace hS := (hS.dropAt 1)
            refine Rg.take (i := 10) false rfl hE rfl (by kernel_rfl) (runs_plain rfl) (Gives.load1 hE rfl (fun w h => hat155 w _ h) ty3) rfl hT ?_; clear hE a; intro a hE
            replace hS := hF; clear hF hT
            refine Rg.takeP (i := 11) hE rfl (by kernel_rfl) (runs_plain rfl) (Gives.p hE rfl) rfl (tw_sel (fun _ => hS) (fun _ => (hS.dropAt 1))) ?_; clear hE a; intro a hE
            obtain ⟨x156, hx157, hr⟩ := bindS hr
            obtain ⟨hi158, hlt159, hy160⟩ := gx_some hx157
            obtain ⟨cs161, hl162, hR163, hat164⟩ := h2.at hy160
            subst hR163
            refine Rg.takeP (i := 12) hE rfl (by kernel_rfl) (runs_plain rfl) (Gives.idx hE ((2 : Int)).toNat rfl rfl sl23 hi158 hlt159 (h2.aok hlt159)) rfl (tw_sel (fun _ => hS) (fun _ => (hS.dropAt 1))) ?_; clear hE a; intro a hE
            have hT := tw_sel (A := fun w => St w s (pt pb0 (.cells #[.slice a_v0 y0.Trains.length c_v0, .slice a_v1 y0.Turns.length c_v1] 33 (0, 0)) :: hotC 67 4 a_v0 c_v0 y0.Trains.length cs_v0 :: vecC 23 1 a_v1 c_v1 y0.Turns.length cs_v1 :: R)) (B := fun w => St w s (pt pb0 (.cells #[.slice a_v0 y0.Trains.length c_v0, .slice a_v1 y0.Turns.length c_v1] 33 (0, 0)) :: vecC 23 1 a_v1 c_v1 y0.Turns.length cs_v1 :: R)) (w := _) (x := true) (y := true) (fun _ => hS) (fun _ => (hS.dropAt 1))
            have hF := hS; replace hS := (hS.dropAt 1)
            refine Rg.take (i := 13) false rfl hE rfl (by kernel_rfl) (runs_plain rfl) (Gives.load1 hE rfl (fun w h => hat164 w _ h) ty3) rfl hT ?_; clear hE a; intro a hE
            replace hS := hF; clear hF hT
            refine Rg.takeP (i := 14) hE rfl (by kernel_rfl) (runs_plain rfl) (Gives.p hE rfl) rfl (tw_sel (fun _ => hS) (fun _ => (hS.dropAt 1))) ?_; clear hE a; intro a hE
            obtain ⟨x165, hx166, hr⟩ := bindS hr
            obtain ⟨hi167, hlt168, hy169⟩ := gx_some hx166
            obtain ⟨cs170, hl171, hR172, hat173⟩ := h2.at hy169
            subst hR172
            refine Rg.takeP (i := 15) hE rfl (by kernel_rfl) (runs_plain rfl) (Gives.idx hE ((3 : Int)).toNat rfl rfl sl23 hi167 hlt168 (h2.aok hlt168)) rfl (tw_sel (fun _ => hS) (fun _ => (hS.dropAt 1))) ?_; clear hE a; intro a hE
            have hT := tw_sel (A := fun w => St w s (pt pb0 (.cells #[.slice a_v0 y0.Trains.length c_v0, .slice a_v1 y0.Turns.length c_v1] 33 (0, 0)) :: hotC 67 4 a_v0 c_v0 y0.Trains.length cs_v0 :: vecC 23 1 a_v1 c_v1 y0.Turns.length cs_v1 :: R)) (B := fun w => St w s (pt pb0 (.cells #[.slice a_v0 y0.Trains.length c_v0, .slice a_v1 y0.Turns.length c_v1] 33 (0, 0)) :: vecC 23 1 a_v1 c_v1 y0.Turns.length cs_v1 :: R)) (w := _) (x := true) (y := true) (fun _ => hS) (fun _ => (hS.dropAt 1))
            have hF := hS; replace hS := (hS.dropAt 1)
            refine Rg.take (i := 16) false rfl hE rfl (by kernel_rfl) (runs_plain rfl) (Gives.load1 hE rfl (fun w h => hat173 w _ h) ty3) rfl hT ?_; clear hE a; intro a hE
            replace hS := hF; clear hF hT
            refine Rg.takeP (i := 17) hE rfl (by kernel_rfl) (runs_plain rfl) (Gives.build hE (vs := [(0, .int .i64 x138), (1, .int .i64 x147), (2, .int .i64 x156), (3, .int .i64 x165)]) [.int .i64 x138, .int .i64 x147, .int .i64 x156, .int .i64 x165] rfl (by kernel_rfl)) rfl (tw_sel (fun _ => hS) (fun _ => (hS.dropAt 1))) ?_; clear hE a; intro a hE
            refine Rg.one (i := 18) true true rfl (by kernel_rfl) (by kernel_rfl) (by kernel_rfl) ?_
            refine WL.lit hE hS (e := 64) (es := 4) (vs := [(0, .agg (List.toArray [.int .i64 x138, .int .i64 x147, .int .i64 x156, .int .i64 x165]))]) (cs := [.int .i64 x138, .int .i64 x147, .int .i64 x156, .int .i64 x165]) (runs_plain rfl) rfl (by kernel_rfl) rfl ?_; clear hE hS a w; intro b174 a w hE hS
            refine WL.nil ?_
            refine ⟨⟨fun _ => (hS.tail), fun _ => ((hS.tail).dropAt 1)⟩, ?_⟩
            refine Rg.one (i := 19) false true rfl (by kernel_rfl) (by kernel_rfl) (by kernel_rfl) ?_
            replace hS := hS.hotOpen 2 rfl
            have lk175 := OLink.hole h_v0.link (w64 (((y0.Trains.length : Nat) : Int) - 1)).toNat; have hl176 := h_v0.len
            replace hS : St _ s (vecC 64 4 a124 c125 n126 cs127 :: vecC 23 1 a131 c132 n133 cs134 :: vecC 67 4 a_v0 c_v0 y0.Trains.length cs_v0.cs :: allC (List.eraseIdx cs_v0.hs ((w64 (((y0.Trains.length : Nat) : Int) - 1)).toNat)) :: pt b174 (.cells #[.int .i64 x138, .int .i64 x147, .int .i64 x156, .int .i64 x165] 64 (0, 0)) :: pt pb0 (.cells #[.slice a_v0 y0.Trains.length c_v0, .slice a_v1 y0.Turns.length c_v1] 33 (0, 0)) :: vecC 23 1 a_v1 c_v1 y0.Turns.length cs_v1 :: R) := St.oOpen hS 1 rfl hH120
            replace hS := hS.front 4 rfl
            obtain ⟨x178, hx179, hr⟩ := bindS hr
            refine WL.appD hE hS 0 (m := 1) (runs_plain rfl) rfl rfl rfl ap65 rfl h128 hn129 (xs := [(ApiStop.mk x138 x147 x156 x165)]) (Ev.cons (c1 := [.int .i64 x138, .int .i64 x147, .int .i64 x156, .int .i64 x165]) rfl rfl (Ev.nil)) rfl rfl hx179 rfl ?_; clear hE hS a w; intro a180 c181 cs182 a w h183 hE hS
            refine WL.nil ?_
            refine ⟨⟨fun h => absurd h (by decide), fun _ => ((((hS.tail).tail).tail).tail)⟩, ?_⟩
            have hT := tw_sel (A := fun w => St w s (pt pb0 (.cells #[.slice a_v0 y0.Trains.length c_v0, .slice a_v1 y0.Turns.length c_v1] 33 (0, 0)) :: hotC 67 4 a_v0 c_v0 y0.Trains.length cs_v0 :: vecC 23 1 a_v1 c_v1 y0.Turns.length cs_v1 :: R)) (B := fun w => St w s (pt pb0 (.cells #[.slice a_v0 y0.Trains.length c_v0, .slice a_v1 y0.Turns.length c_v1] 33 (0, 0)) :: vecC 23 1 a_v1 c_v1 y0.Turns.length cs_v1 :: R)) (w := _) (x := false) (y := true) (fun h => absurd h (by decide)) (fun _ => ((((hS.tail).tail).tail).tail))
            have hF := hS; replace hS := ((((hS.tail).tail).tail).tail)
            refine Rg.take (i := 20) false rfl hE rfl (by kernel_rfl) (runs_plain rfl) (Gives.nilOk hE rfl) rfl hT ?_; clear hE a; intro a hE
            replace hS := hF; clear hF hT
            refine Rg.takeP (i := 21) hE rfl (by kernel_rfl) (runs_plain rfl) (Gives.fld hE rfl fl67_2) rfl (tw_sel (fun h => absurd h (by decide)) (fun _ => ((((hS.tail).tail).tail).tail))) ?_; clear hE a; intro a hE
            refine Rg.one (i := 22) false true rfl (by kernel_rfl) (by kernel_rfl) (by kernel_rfl) ?_
            have hf184 : (w64 (((y0.Trains.length : Nat) : Int) - 1)).toNat * 4 + 2 < cs_v0.cs.length := by rw [hl176]; have hk_ := (List.getElem?_eq_some_iff.1 hy70).1; omega
            refine WL.storeV (vs := [.slice a180 x178.length c181]) (sa := a_v0) (p := (w64 (((y0.Trains.length : Nat) : Int) - 1)).toNat * 4 + 2) hE hS 2 rfl (runs_plain rfl) rfl rfl rfl ty65 rfl (by have h1_ := (hS.vec 2 rfl).1; simp only [List.length_cons, List.length_nil]; omega) (by have h1_ := (hS.vec 2 rfl).1; omega) rfl ?_; clear hE hS a w; intro a w hE hS
            have lk185 := OLinkH.put (v := .slice a180 x178.length c181) lk175 (by decide : 2 < 4) hf184; have hl186 := (putc_len (v := .slice a180 x178.length c181) hf184).trans hl176
            have hd187 : (List.drop ((w64 (((y0.Trains.length : Nat) : Int) - 1)).toNat * 4) (putc cs_v0.cs ((w64 (((y0.Trains.length : Nat) : Int) - 1)).toNat * 4 + 2) (.slice a180 x178.length c181 : Value))).take 4 = [.int .i64 x66.No, .int .i64 x66.Stock, .slice a180 x178.length c181, .slice a131 n133 c132] := el_put e122 (by decide) hf184
            refine WL.nil ?_
            refine ⟨⟨fun h => absurd h (by decide), fun _ => ((((hS.tail).tail).tail).tail)⟩, ?_⟩
            refine Rg.done (by kernel_rfl) ?_
            subst hK118
            refine W.seq ?_
            refine W.region ?_
            refine WL.vS hS hE (runs_plain rfl) (Gives.p hE rfl) rfl ?_; clear hE a; intro a hE
            refine WL.vS hS hE (runs_plain rfl) (Gives.p hE rfl) rfl ?_; clear hE a; intro a hE
            refine WL.nil ?_
            refine W.ret ?_
            replace hS := hS.front 1 rfl
            replace hS := hS.front 1 rfl
            replace hS : St _ s (vecC 67 4 a_v0 c_v0 y0.Trains.length (putc cs_v0.cs ((w64 (((y0.Trains.length : Nat) : Int) - 1)).toNat * 4 + 2) (.slice a180 x178.length c181 : Value)) :: allC (List.set cs_v0.hs ((w64 (((y0.Trains.length : Nat) : Int) - 1)).toNat) (allC [vecC 64 4 a180 c181 x178.length cs182, vecC 23 1 a131 c132 n133 cs134])) :: pt pb0 (.cells #[.slice a_v0 y0.Trains.length c_v0, .slice a_v1 y0.Turns.length c_v1] 33 (0, 0)) :: vecC 23 1 a_v1 c_v1 y0.Turns.length cs_v1 :: R) := St.oClose (ps := [vecC 64 4 a180 c181 x178.length cs182, vecC 23 1 a131 c132 n133 cs134]) (hs := cs_v0.hs) (k := (w64 (((y0.Trains.length : Nat) : Int) - 1)).toNat) hS 1 rfl (List.getElem?_eq_some_iff.1 hH120).1
            replace hS := hS.front 1 rfl
            replace hS := hS.front 1 rfl
            have h189 : HEv 4 HtApiTrain s (HotD.mk (putc cs_v0.cs ((w64 (((y0.Trains.length : Nat) : Int) - 1)).toNat * 4 + 2) (.slice a180 x178.length c181 : Value)) (List.set cs_v0.hs ((w64 (((y0.Trains.length : Nat) : Int) - 1)).toNat) (allC [vecC 64 4 a180 c181 x178.length cs182, vecC 23 1 a131 c132 n133 cs134]))) (List.set y0.Trains ((w64 (((y0.Trains.length : Nat) : Int) - 1)).toNat) (ApiTrain.mk x66.No x66.Stock x178 x66.Legs)) := HEv.close lk185 hl186 hd187 ⟨_, _, _, _, _, _, _, _, rfl, rfl, h183, (rfl), h135, hn136⟩
            have hn190 : (List.set y0.Trains ((w64 (((y0.Trains.length : Nat) : Int) - 1)).toNat) (ApiTrain.mk x66.No x66.Stock x178 x66.Legs)).length = y0.Trains.length := List.length_set.trans (rfl)
            replace hS : St _ s (hotC 67 4 a_v0 c_v0 y0.Trains.length (HotD.mk (putc cs_v0.cs ((w64 (((y0.Trains.length : Nat) : Int) - 1)).toNat * 4 + 2) (.slice a180 x178.length c181 : Value)) (List.set cs_v0.hs ((w64 (((y0.Trains.length : Nat) : Int) - 1)).toNat) (allC [vecC 64 4 a180 c181 x178.length cs182, vecC 23 1 a131 c132 n133 cs134]))) :: pt pb0 (.cells #[.slice a_v0 y0.Trains.length c_v0, .slice a_v1 y0.Turns.length c_v1] 33 (0, 0)) :: vecC 23 1 a_v1 c_v1 y0.Turns.length cs_v1 :: R) := St.hotClose hS
            generalize HotD.mk (putc cs_v0.cs ((w64 (((y0.Trains.length : Nat) : Int) - 1)).toNat * 4 + 2) (.slice a180 x178.length c181 : Value)) (List.set cs_v0.hs ((w64 (((y0.Trains.length : Nat) : Int) - 1)).toNat) (allC [vecC 64 4 a180 c181 x178.length cs182, vecC 23 1 a131 c132 n133 cs134])) = cs188 at hS h189
            refine finG (fn := Tryd.f41) (rs := [.tmp 8, .tmp 9]) (vs := [_, _]) hE rfl ⟨rfl, rfl, trivial⟩ ?_
            obtain rfl := Option.some.inj hr
            replace hS := hS.front 2 rfl
            replace hS := hS.front 1 rfl
            replace hS := hS.front 2 rfl
            exact ⟨a_v0, c_v0, y0.Trains.length, cs188, a_v1, c_v1, y0.Turns.length, cs_v1, rfl, h189, hn190, h_v1, (rfl), hS⟩
          · replace hr := iteF hc117 hr
            refine W.seq ?_
            obtain ⟨q192, hq191, hr⟩ := bndS hr
            refine W.cut (fun a w => ∃ (q195 : Bool), q195 = q192 ∧ Rep a 134 [(0, .pointer (some ⟨pb0, 0, none⟩)), (1, .string x1), (2, .slice a2 x2.length c2), (10, .pointer (some ⟨ab a_v0, ao a_v0 + (w64 (((y0.Trains.length : Nat) : Int) - 1)).toNat * 4, none⟩)), (90, .bool q195)] ∧ St w s (pt pb0 (.cells #[.slice a_v0 y0.Trains.length c_v0, .slice a_v1 y0.Turns.length c_v1] 33 (0, 0)) :: hotC 67 4 a_v0 c_v0 y0.Trains.length cs_v0 :: vecC 23 1 a_v1 c_v1 y0.Turns.length cs_v1 :: R)) ?_ ?_
            · refine W.gen fun K196 hK196 => ?_
              refine W.region ?_
              refine WL.vS hS hE (runs_plain rfl) (Gives.p hE rfl) rfl ?_; clear hE a; intro a hE
              refine WL.vS hS hE (runs_plain rfl) (Gives.eqSt hE rfl rfl) rfl ?_; clear hE a; intro a hE
              refine WL.vS hS hE (runs_plain rfl) (Gives.p hE rfl) rfl ?_; clear hE a; intro a hE
              rcases Bool.eq_false_or_eq_true (seq x1 (str [108, 101, 103])) with hg197 | hg197
              · replace hq191 := iteT hg197 hq191
                refine WL.vS hS hE (runs_if hE rfl rfl rfl hg197) (Gives.p hE rfl) rfl ?_; clear hE a; intro a hE
                refine WL.vS hS hE (runs_if hE rfl rfl rfl hg197) (Gives.len hE rfl sl23) rfl ?_; clear hE a; intro a hE
                refine WL.vS hS hE (runs_if hE rfl rfl rfl hg197) (Gives.p hE rfl) rfl ?_; clear hE a; intro a hE
                refine WL.vS hS hE (runs_plain rfl) (Gives.pickT hE rfl hg197 rfl) rfl ?_; clear hE a; intro a hE
                refine WL.vS hS hE (runs_plain rfl) (Gives.p hE rfl) rfl ?_; clear hE a; intro a hE
                rcases Bool.eq_false_or_eq_true (decide (((x2).length : Int) > 0)) with hg198 | hg198
                · replace hq191 := iteT hg198 hq191
                  refine WL.vS hS hE (runs_if hE rfl rfl rfl hg198) (Gives.p hE rfl) rfl ?_; clear hE a; intro a hE
                  refine WL.vS hS hE (runs_if hE rfl rfl rfl hg198) (Gives.p hE rfl) rfl ?_; clear hE a; intro a hE
                  refine WL.vS hS hE (runs_if hE rfl rfl rfl hg198) (Gives.p hE rfl) rfl ?_; clear hE a; intro a hE
                  rcases Bool.eq_false_or_eq_true (x3 == 1) with hg199 | hg199
                  · replace hq191 := iteT hg199 hq191
                    refine WL.no hE (runs_not hE rfl rfl rfl (by rw [hg199]; decide)) rfl ?_; clear hE a; intro a hE
                    refine WL.no hE (runs_not hE rfl rfl rfl (by rw [hg199]; decide)) rfl ?_; clear hE a; intro a hE
                    refine WL.vS hS hE (runs_if hE rfl rfl rfl hg198) (Gives.pickT hE rfl hg199 rfl) rfl ?_; clear hE a; intro a hE
                    refine WL.vS hS hE (runs_plain rfl) (Gives.pickT hE rfl hg198 rfl) rfl ?_; clear hE a; intro a hE
                    refine WL.vS hS hE (runs_plain rfl) (Gives.p hE rfl) rfl ?_; clear hE a; intro a hE
                    refine WL.nil ?_
                    subst hK196
                    exact ⟨true, hq191, hE.pick _ ⟨rfl, rfl, rfl, rfl, rfl, trivial⟩, hS⟩
                  · replace hq191 := iteF hg199 hq191
                    refine WL.vS hS hE (runs_if hE rfl rfl rfl hg199) (Gives.p hE rfl) rfl ?_; clear hE a; intro a hE
                    refine WL.vS hS hE (runs_if hE rfl rfl rfl hg199) (Gives.p hE rfl) rfl ?_; clear hE a; intro a hE
                    refine WL.vS hS hE (runs_if hE rfl rfl rfl hg198) (Gives.pickF hE rfl hg199 rfl) rfl ?_; clear hE a; intro a hE
                    refine WL.vS hS hE (runs_plain rfl) (Gives.pickT hE rfl hg198 rfl) rfl ?_; clear hE a; intro a hE
                    refine WL.vS hS hE (runs_plain rfl) (Gives.p hE rfl) rfl ?_; clear hE a; intro a hE
                    refine WL.nil ?_
                    subst hK196
                    exact ⟨(x3 == 2), hq191, hE.pick _ ⟨rfl, rfl, rfl, rfl, rfl, trivial⟩, hS⟩
                · replace hq191 := iteF hg198 hq191
                  refine WL.no hE (runs_not hE rfl rfl rfl (by rw [hg198]; decide)) rfl ?_; clear hE a; intro a hE
                  refine WL.no hE (runs_not hE rfl rfl rfl (by rw [hg198]; decide)) rfl ?_; clear hE a; intro a hE
                  refine WL.no hE (runs_not hE rfl rfl rfl (by rw [hg198]; decide)) rfl ?_; clear hE a; intro a hE
                  refine WL.no hE (runs_undef hE rfl rfl rfl) rfl ?_; clear hE a; intro a hE
                  refine WL.no hE (runs_undef hE rfl rfl rfl) rfl ?_; clear hE a; intro a hE
                  refine WL.no hE (runs_not hE rfl rfl rfl (by rw [hg198]; decide)) rfl ?_; clear hE a; intro a hE
                  refine WL.vS hS hE (runs_plain rfl) (Gives.pickF hE rfl hg198 rfl) rfl ?_; clear hE a; intro a hE
                  refine WL.vS hS hE (runs_plain rfl) (Gives.p hE rfl) rfl ?_; clear hE a; intro a hE
                  refine WL.nil ?_
                  subst hK196
                  exact ⟨false, hq191, hE.pick _ ⟨rfl, rfl, rfl, rfl, rfl, trivial⟩, hS⟩
              · replace hq191 := iteF hg197 hq191
                refine WL.no hE (runs_not hE rfl rfl rfl (by rw [hg197]; decide)) rfl ?_; clear hE a; intro a hE
                refine WL.no hE (runs_not hE rfl rfl rfl (by rw [hg197]; decide)) rfl ?_; clear hE a; intro a hE
                refine WL.no hE (runs_not hE rfl rfl rfl (by rw [hg197]; decide)) rfl ?_; clear hE a; intro a hE
                refine WL.vS hS hE (runs_plain rfl) (Gives.pickF hE rfl hg197 rfl) rfl ?_; clear hE a; intro a hE
                refine WL.vS hS hE (runs_plain rfl) (Gives.p hE rfl) rfl ?_; clear hE a; intro a hE
                refine WL.no hE (runs_not hE rfl rfl rfl (by decide)) rfl ?_; clear hE a; intro a hE
                refine WL.no hE (runs_not hE rfl rfl rfl (by decide)) rfl ?_; clear hE a; intro a hE
                refine WL.no hE (runs_not hE rfl rfl rfl (by decide)) rfl ?_; clear hE a; intro a hE
                refine WL.no hE (runs_undef hE rfl rfl rfl) rfl ?_; clear hE a; intro a hE
                refine WL.no hE (runs_undef hE rfl rfl rfl) rfl ?_; clear hE a; intro a hE
                refine WL.no hE (runs_not hE rfl rfl rfl (by decide)) rfl ?_; clear hE a; intro a hE
                refine WL.vS hS hE (runs_plain rfl) (Gives.pickF hE rfl rfl rfl) rfl ?_; clear hE a; intro a hE
                refine WL.vS hS hE (runs_plain rfl) (Gives.p hE rfl) rfl ?_; clear hE a; intro a hE
                refine WL.nil ?_
                subst hK196
                exact ⟨false, hq191, hE.pick _ ⟨rfl, rfl, rfl, rfl, rfl, trivial⟩, hS⟩
            · clear hE hS a w; rintro a w ⟨q195, rfl, hE, hS⟩
              refine W.cond hE rfl (fun hc200 => ?_) (fun hc200 => ?_)
              · replace hr := iteT hc200 hr
                refine W.seq ?_
                refine W.region ?_
                refine WL.vS hS hE (runs_plain rfl) (Gives.p hE rfl) rfl ?_; clear hE a; intro a hE
                refine WL.vS hS hE (runs_plain rfl) (Gives.p hE rfl) rfl ?_; clear hE a; intro a hE
                refine WL.vS hS hE (runs_plain rfl) (Gives.nilOk hE rfl) rfl ?_; clear hE a; intro a hE
                refine WL.vS hS hE (runs_plain rfl) (Gives.fld hE rfl fl67_3) rfl ?_; clear hE a; intro a hE
                obtain ⟨H201, hH202, hO203⟩ := HEv.at h_v0 hy70
                obtain ⟨a206, c207, n208, cs209, a213, c214, n215, cs216, e204, e205, h210, hn211, h217, hn218⟩ := hO203
                subst e205
                refine WL.vS hS hE (runs_plain rfl) (Gives.load1 hE rfl (fun w h => (St.hotSees h 1 rfl e204 rfl).one (j := 3) rfl) ty31) rfl ?_; clear hE a; intro a hE
                refine WL.vS hS hE (runs_plain rfl) (Gives.p hE rfl) rfl ?_; clear hE a; intro a hE
                refine WL.lit hE hS (e := 23) (es := 1) (vs := [(0, .slice a2 x2.length c2)]) (cs := [.slice a2 x2.length c2]) (runs_plain rfl) rfl (by kernel_rfl) rfl ?_; clear hE hS a w; intro b220 a w hE hS
                replace hS := hS.hotOpen 2 rfl
                have lk221 := OLink.hole h_v0.link (w64 (((y0.Trains.length : Nat) : Int) - 1)).toNat; have hl222 := h_v0.len
                replace hS : St _ s (vecC 64 4 a206 c207 n208 cs209 :: vecC 23 1 a213 c214 n215 cs216 :: vecC 67 4 a_v0 c_v0 y0.Trains.length cs_v0.cs :: allC (List.eraseIdx cs_v0.hs ((w64 (((y0.Trains.length : Nat) : Int) - 1)).toNat)) :: pt b220 (.cells #[.slice a2 x2.length c2] 23 (0, 0)) :: pt pb0 (.cells #[.slice a_v0 y0.Trains.length c_v0, .slice a_v1 y0.Turns.length c_v1] 33 (0, 0)) :: vecC 23 1 a_v1 c_v1 y0.Turns.length cs_v1 :: R) := St.oOpen hS 1 rfl hH202
                replace hS := hS.front 4 rfl
                obtain ⟨x224, hx225, hr⟩ := bindS hr
                refine WL.appD hE hS 1 (m := 1) (runs_plain rfl) rfl rfl rfl ap31 rfl h217 hn218 (xs := [x2]) (Ev.cons (c1 := [.slice a2 x2.length c2]) ⟨_, _, rfl, h2⟩ rfl (Ev.nil)) rfl rfl hx225 rfl ?_; clear hE hS a w; intro a226 c227 cs228 a w h229 hE hS
                refine WL.vS hS hE (runs_plain rfl) (Gives.nilOk hE rfl) rfl ?_; clear hE a; intro a hE
                refine WL.vS hS hE (runs_plain rfl) (Gives.fld hE rfl fl67_3) rfl ?_; clear hE a; intro a hE
                have hf230 : (w64 (((y0.Trains.length : Nat) : Int) - 1)).toNat * 4 + 3 < cs_v0.cs.length := by rw [hl222]; have hk_ := (List.getElem?_eq_some_iff.1 hy70).1; omega
                refine WL.storeV (vs := [.slice a226 x224.length c227]) (sa := a_v0) (p := (w64 (((y0.Trains.length : Nat) : Int) - 1)).toNat * 4 + 3) hE hS 2 rfl (runs_plain rfl) rfl rfl rfl ty31 rfl (by have h1_ := (hS.vec 2 rfl).1; simp only [List.length_cons, List.length_nil]; omega) (by have h1_ := (hS.vec 2 rfl).1; omega) rfl ?_; clear hE hS a w; intro a w hE hS
                have lk231 := OLinkH.put (v := .slice a226 x224.length c227) lk221 (by decide : 3 < 4) hf230; have hl232 := (putc_len (v := .slice a226 x224.length c227) hf230).trans hl222
                have hd233 : (List.drop ((w64 (((y0.Trains.length : Nat) : Int) - 1)).toNat * 4) (putc cs_v0.cs ((w64 (((y0.Trains.length : Nat) : Int) - 1)).toNat * 4 + 3) (.slice a226 x224.length c227 : Value))).take 4 = [.int .i64 x66.No, .int .i64 x66.Stock, .slice a206 n208 c207, .slice a226 x224.length c227] := el_put e204 (by decide) hf230
                refine WL.nil ?_
                refine W.seq ?_
                refine W.region ?_
                refine WL.vS hS hE (runs_plain rfl) (Gives.p hE rfl) rfl ?_; clear hE a; intro a hE
                refine WL.vS hS hE (runs_plain rfl) (Gives.p hE rfl) rfl ?_; clear hE a; intro a hE
                refine WL.nil ?_
                refine W.ret ?_
                replace hS := hS.front 1 rfl
                replace hS := hS.front 1 rfl
                replace hS : St _ s (vecC 67 4 a_v0 c_v0 y0.Trains.length (putc cs_v0.cs ((w64 (((y0.Trains.length : Nat) : Int) - 1)).toNat * 4 + 3) (.slice a226 x224.length c227 : Value)) :: allC (List.set cs_v0.hs ((w64 (((y0.Trains.length : Nat) : Int) - 1)).toNat) (allC [vecC 64 4 a206 c207 n208 cs209, vecC 23 1 a226 c227 x224.length cs228])) :: pt pb0 (.cells #[.slice a_v0 y0.Trains.length c_v0, .slice a_v1 y0.Turns.length c_v1] 33 (0, 0)) :: vecC 23 1 a_v1 c_v1 y0.Turns.length cs_v1 :: R) := St.oClose (ps := [vecC 64 4 a206 c207 n208 cs209, vecC 23 1 a226 c227 x224.length cs228]) (hs := cs_v0.hs) (k := (w64 (((y0.Trains.length : Nat) : Int) - 1)).toNat) hS 1 rfl (List.getElem?_eq_some_iff.1 hH202).1
                replace hS := hS.front 1 rfl
                replace hS := hS.front 1 rfl
                have h235 : HEv 4 HtApiTrain s (HotD.mk (putc cs_v0.cs ((w64 (((y0.Trains.length : Nat) : Int) - 1)).toNat * 4 + 3) (.slice a226 x224.length c227 : Value)) (List.set cs_v0.hs ((w64 (((y0.Trains.length : Nat) : Int) - 1)).toNat) (allC [vecC 64 4 a206 c207 n208 cs209, vecC 23 1 a226 c227 x224.length cs228]))) (List.set y0.Trains ((w64 (((y0.Trains.length : Nat) : Int) - 1)).toNat) (ApiTrain.mk x66.No x66.Stock x66.Stops x224)) := HEv.close lk231 hl232 hd233 ⟨_, _, _, _, _, _, _, _, rfl, rfl, h210, hn211, h229, (rfl)⟩
                have hn236 : (List.set y0.Trains ((w64 (((y0.Trains.length : Nat) : Int) - 1)).toNat) (ApiTrain.mk x66.No x66.Stock x66.Stops x224)).length = y0.Trains.length := List.length_set.trans (rfl)
                replace hS : St _ s (hotC 67 4 a_v0 c_v0 y0.Trains.length (HotD.mk (putc cs_v0.cs ((w64 (((y0.Trains.length : Nat) : Int) - 1)).toNat * 4 + 3) (.slice a226 x224.length c227 : Value)) (List.set cs_v0.hs ((w64 (((y0.Trains.length : Nat) : Int) - 1)).toNat) (allC [vecC 64 4 a206 c207 n208 cs209, vecC 23 1 a226 c227 x224.length cs228]))) :: pt pb0 (.cells #[.slice a_v0 y0.Trains.length c_v0, .slice a_v1 y0.Turns.length c_v1] 33 (0, 0)) :: vecC 23 1 a_v1 c_v1 y0.Turns.length cs_v1 :: R) := St.hotClose hS
                generalize HotD.mk (putc cs_v0.cs ((w64 (((y0.Trains.length : Nat) : Int) - 1)).toNat * 4 + 3) (.slice a226 x224.length c227 : Value)) (List.set cs_v0.hs ((w64 (((y0.Trains.length : Nat) : Int) - 1)).toNat) (allC [vecC 64 4 a206 c207 n208 cs209, vecC 23 1 a226 c227 x224.length cs228])) = cs234 at hS h235
                refine finG (fn := Tryd.f41) (rs := [.tmp 8, .tmp 9]) (vs := [_, _]) hE rfl ⟨rfl, rfl, trivial⟩ ?_
                obtain rfl := Option.some.inj hr
                replace hS := hS.front 2 rfl
                replace hS := hS.front 1 rfl
                replace hS := hS.front 2 rfl
                exact ⟨a_v0, c_v0, y0.Trains.length, cs234, a_v1, c_v1, y0.Turns.length, cs_v1, rfl, h235, hn236, h_v1, (rfl), hS⟩
              · replace hr := iteF hc200 hr
                refine W.seq ?_
                obtain ⟨q238, hq237, hr⟩ := bndS hr
                refine W.cut (fun a w => ∃ (q241 : Bool), q241 = q238 ∧ Rep a 134 [(0, .pointer (some ⟨pb0, 0, none⟩)), (2, .slice a2 x2.length c2), (116, .bool q241)] ∧ St w s (pt pb0 (.cells #[.slice a_v0 y0.Trains.length c_v0, .slice a_v1 y0.Turns.length c_v1] 33 (0, 0)) :: hotC 67 4 a_v0 c_v0 y0.Trains.length cs_v0 :: vecC 23 1 a_v1 c_v1 y0.Turns.length cs_v1 :: R)) ?_ ?_
                · refine W.gen fun K242 hK242 => ?_
                  refine W.region ?_
                  refine WL.vS hS hE (runs_plain rfl) (Gives.p hE rfl) rfl ?_; clear hE a; intro a hE
                  refine WL.vS hS hE (runs_plain rfl) (Gives.eqSt hE rfl rfl) rfl ?_; clear hE a; intro a hE
                  refine WL.vS hS hE (runs_plain rfl) (Gives.p hE rfl) rfl ?_; clear hE a; intro a hE
                  rcases Bool.eq_false_or_eq_true (seq x1 (str [116, 117, 114, 110])) with hg243 | hg243
                  · replace hq237 := iteT hg243 hq237
                    refine WL.vS hS hE (runs_if hE rfl rfl rfl hg243) (Gives.p hE rfl) rfl ?_; clear hE a; intro a hE
                    refine WL.vS hS hE (runs_if hE rfl rfl rfl hg243) (Gives.len hE rfl sl23) rfl ?_; clear hE a; intro a hE
                    refine WL.vS hS hE (runs_if hE rfl rfl rfl hg243) (Gives.p hE rfl) rfl ?_; clear hE a; intro a hE
                    refine WL.vS hS hE (runs_plain rfl) (Gives.pickT hE rfl hg243 rfl) rfl ?_; clear hE a; intro a hE
                    refine WL.vS hS hE (runs_plain rfl) (Gives.p hE rfl) rfl ?_; clear hE a; intro a hE
                    refine WL.nil ?_
                    subst hK242
                    exact ⟨decide (((x2).length : Int) > 0), hq237, hE.pick _ ⟨rfl, rfl, rfl, trivial⟩, hS⟩
                  · replace hq237 := iteF hg243 hq237
                    refine WL.no hE (runs_not hE rfl rfl rfl (by rw [hg243]; decide)) rfl ?_; clear hE a; intro a hE
                    refine WL.no hE (runs_not hE rfl rfl rfl (by rw [hg243]; decide)) rfl ?_; clear hE a; intro a hE
                    refine WL.no hE (runs_not hE rfl rfl rfl (by rw [hg243]; decide)) rfl ?_; clear hE a; intro a hE
                    refine WL.vS hS hE (runs_plain rfl) (Gives.pickF hE rfl hg243 rfl) rfl ?_; clear hE a; intro a hE
                    refine WL.vS hS hE (runs_plain rfl) (Gives.p hE rfl) rfl ?_; clear hE a; intro a hE
                    refine WL.nil ?_
                    subst hK242
                    exact ⟨false, hq237, hE.pick _ ⟨rfl, rfl, rfl, trivial⟩, hS⟩
                · clear hE hS a w; rintro a w ⟨q241, rfl, hE, hS⟩
                  refine W.cond hE rfl (fun hc244 => ?_) (fun hc244 => ?_)
                  · replace hr := iteT hc244 hr
                    refine W.seq ?_
                    refine W.region ?_
                    refine WL.vS hS hE (runs_plain rfl) (Gives.p hE rfl) rfl ?_; clear hE a; intro a hE
                    refine WL.vS hS hE (runs_plain rfl) (Gives.p hE rfl) rfl ?_; clear hE a; intro a hE
                    refine WL.vS hS hE (runs_plain rfl) (Gives.nilOk hE rfl) rfl ?_; clear hE a; intro a hE
                    refine WL.vS hS hE (runs_plain rfl) (Gives.fld hE rfl fl33_1) rfl ?_; clear hE a; intro a hE
                    refine WL.vS hS hE (runs_plain rfl) (Gives.loadB hE 0 rfl rfl rfl ty31) rfl ?_; clear hE a; intro a hE
                    refine WL.vS hS hE (runs_plain rfl) (Gives.p hE rfl) rfl ?_; clear hE a; intro a hE
                    refine WL.lit hE hS (e := 23) (es := 1) (vs := [(0, .slice a2 x2.length c2)]) (cs := [.slice a2 x2.length c2]) (runs_plain rfl) rfl (by kernel_rfl) rfl ?_; clear hE hS a w; intro b245 a w hE hS
                    obtain ⟨x246, hx247, hr⟩ := bindS hr
                    refine WL.appD hE hS 2 (m := 1) (runs_plain rfl) rfl rfl rfl ap31 rfl h_v1 (rfl) (xs := [x2]) (Ev.cons (c1 := [.slice a2 x2.length c2]) ⟨_, _, rfl, h2⟩ rfl (Ev.nil)) rfl rfl hx247 rfl ?_; clear hE hS a w; intro a248 c249 cs250 a w h251 hE hS
                    refine WL.vS hS hE (runs_plain rfl) (Gives.nilOk hE rfl) rfl ?_; clear hE a; intro a hE
                    refine WL.vS hS hE (runs_plain rfl) (Gives.fld hE rfl fl33_1) rfl ?_; clear hE a; intro a hE
                    refine WL.storeI hE hS 0 rfl [.slice a_v0 y0.Trains.length c_v0, .slice a248 x246.length c249] (runs_plain rfl) rfl rfl rfl ty31 rfl rfl rfl rfl ?_; clear hE hS a w; intro a w hE hS
                    refine WL.nil ?_
                    refine W.seq ?_
                    refine W.region ?_
                    refine WL.vS hS hE (runs_plain rfl) (Gives.p hE rfl) rfl ?_; clear hE a; intro a hE
                    refine WL.vS hS hE (runs_plain rfl) (Gives.p hE rfl) rfl ?_; clear hE a; intro a hE
                    refine WL.nil ?_
                    refine W.ret ?_
                    refine finG (fn := Tryd.f41) (rs := [.tmp 8, .tmp 9]) (vs := [_, _]) hE rfl ⟨rfl, rfl, trivial⟩ ?_
                    obtain rfl := Option.some.inj hr
                    exact ⟨a_v0, c_v0, y0.Trains.length, cs_v0, a248, c249, x246.length, cs250, rfl, h_v0, (rfl), h251, (rfl), hS⟩
                  · replace hr := iteF hc244 hr
                    refine W.skip ?_
                    refine W.seq ?_
                    refine W.region ?_
                    refine WL.vS hS hE (runs_plain rfl) (Gives.p hE rfl) rfl ?_; clear hE a; intro a hE
                    refine WL.vS hS hE (runs_plain rfl) (Gives.p hE rfl) rfl ?_; clear hE a; intro a hE
                    refine WL.nil ?_
                    refine W.ret ?_
                    refine finG (fn := Tryd.f41) (rs := [.tmp 8, .tmp 9]) (vs := [_, _]) hE rfl ⟨rfl, rfl, trivial⟩ ?_
                    obtain rfl := Option.some.inj hr
                    exact ⟨a_v0, c_v0, y0.Trains.length, cs_v0, a_v1, c_v1, y0.Turns.length, cs_v1, rfl, h_v0, (rfl), h_v1, (rfl), hS⟩
  · replace hr := iteF hc65 hr
    refine W.skip ?_
    refine W.seq ?_
    refine W.block ?_
    refine W.seq ?_
    obtain ⟨q253, hq252, hr⟩ := bndS hr
    refine W.cut (fun a w => ∃ (q256 : Bool), q256 = q253 ∧ Rep a 134 [(0, .pointer (some ⟨pb0, 0, none⟩)), (1, .string x1), (2, .slice a2 x2.length c2), (3, .int .i64 x3), (10, .pointer none), (28, .bool q256)] ∧ St w s (pt pb0 (.cells #[.slice a_v0 y0.Trains.length c_v0, .slice a_v1 y0.Turns.length c_v1] 33 (0, 0)) :: hotC 67 4 a_v0 c_v0 y0.Trains.length cs_v0 :: vecC 23 1 a_v1 c_v1 y0.Turns.length cs_v1 :: R)) ?_ ?_
    · refine W.gen fun K257 hK257 => ?_
      refine W.region ?_
      refine WL.vS hS hE (runs_plain rfl) (Gives.p hE rfl) rfl ?_; clear hE a; intro a hE
      refine WL.vS hS hE (runs_plain rfl) (Gives.eqSt hE rfl rfl) rfl ?_; clear hE a; intro a hE
      refine WL.vS hS hE (runs_plain rfl) (Gives.p hE rfl) rfl ?_; clear hE a; intro a hE
      rcases Bool.eq_false_or_eq_true (seq x1 (str [116, 114, 97, 105, 110])) with hg258 | hg258
      · replace hq252 := iteT hg258 hq252
        refine WL.vS hS hE (runs_if hE rfl rfl rfl hg258) (Gives.p hE rfl) rfl ?_; clear hE a; intro a hE
        refine WL.vS hS hE (runs_if hE rfl rfl rfl hg258) (Gives.len hE rfl sl23) rfl ?_; clear hE a; intro a hE
        refine WL.vS hS hE (runs_if hE rfl rfl rfl hg258) (Gives.p hE rfl) rfl ?_; clear hE a; intro a hE
        refine WL.vS hS hE (runs_plain rfl) (Gives.pickT hE rfl hg258 rfl) rfl ?_; clear hE a; intro a hE
        refine WL.vS hS hE (runs_plain rfl) (Gives.p hE rfl) rfl ?_; clear hE a; intro a hE
        rcases Bool.eq_false_or_eq_true (((x2).length : Int) == 2) with hg259 | hg259
        · replace hq252 := iteT hg259 hq252
          refine WL.vS hS hE (runs_if hE rfl rfl rfl hg259) (Gives.p hE rfl) rfl ?_; clear hE a; intro a hE
          refine WL.vS hS hE (runs_if hE rfl rfl rfl hg259) (Gives.p hE rfl) rfl ?_; clear hE a; intro a hE
          refine WL.vS hS hE (runs_plain rfl) (Gives.pickT hE rfl hg259 rfl) rfl ?_; clear hE a; intro a hE
          refine WL.vS hS hE (runs_plain rfl) (Gives.p hE rfl) rfl ?_; clear hE a; intro a hE
          refine WL.nil ?_
          subst hK257
          exact ⟨decide (x3 < 3), hq252, hE.pick _ ⟨rfl, rfl, rfl, rfl, rfl, rfl, trivial⟩, hS⟩
        · replace hq252 := iteF hg259 hq252
          refine WL.no hE (runs_not hE rfl rfl rfl (by rw [hg259]; decide)) rfl ?_; clear hE a; intro a hE
          refine WL.no hE (runs_not hE rfl rfl rfl (by rw [hg259]; decide)) rfl ?_; clear hE a; intro a hE
          refine WL.vS hS hE (runs_plain rfl) (Gives.pickF hE rfl hg259 rfl) rfl ?_; clear hE a; intro a hE
          refine WL.vS hS hE (runs_plain rfl) (Gives.p hE rfl) rfl ?_; clear hE a; intro a hE
          refine WL.nil ?_
          subst hK257
          exact ⟨false, hq252, hE.pick _ ⟨rfl, rfl, rfl, rfl, rfl, rfl, trivial⟩, hS⟩
      · replace hq252 := iteF hg258 hq252
        refine WL.no hE (runs_not hE rfl rfl rfl (by rw [hg258]; decide)) rfl ?_; clear hE a; intro a hE
        refine WL.no hE (runs_not hE rfl rfl rfl (by rw [hg258]; decide)) rfl ?_; clear hE a; intro a hE
        refine WL.no hE (runs_not hE rfl rfl rfl (by rw [hg258]; decide)) rfl ?_; clear hE a; intro a hE
        refine WL.vS hS hE (runs_plain rfl) (Gives.pickF hE rfl hg258 rfl) rfl ?_; clear hE a; intro a hE
        refine WL.vS hS hE (runs_plain rfl) (Gives.p hE rfl) rfl ?_; clear hE a; intro a hE
        refine WL.no hE (runs_not hE rfl rfl rfl (by decide)) rfl ?_; clear hE a; intro a hE
        refine WL.no hE (runs_not hE rfl rfl rfl (by decide)) rfl ?_; clear hE a; intro a hE
        refine WL.vS hS hE (runs_plain rfl) (Gives.pickF hE rfl rfl rfl) rfl ?_; clear hE a; intro a hE
        refine WL.vS hS hE (runs_plain rfl) (Gives.p hE rfl) rfl ?_; clear hE a; intro a hE
        refine WL.nil ?_
        subst hK257
        exact ⟨false, hq252, hE.pick _ ⟨rfl, rfl, rfl, rfl, rfl, rfl, trivial⟩, hS⟩
    · clear hE hS a w; rintro a w ⟨q256, rfl, hE, hS⟩
      refine W.cond hE rfl (fun hc260 => ?_) (fun hc260 => ?_)
      · replace hr := iteT hc260 hr
        refine W.seq ?_
        refine W.gen fun K261 hK261 => ?_
        refine W.regionE (sel (fun w => St w s (pt pb0 (.cells #[.slice a_v0 y0.Trains.length c_v0, .slice a_v1 y0.Turns.length c_v1] 33 (0, 0)) :: hotC 67 4 a_v0 c_v0 y0.Trains.length cs_v0 :: vecC 23 1 a_v1 c_v1 y0.Turns.length cs_v1 :: R)) (fun w => St w s (pt pb0 (.cells #[.slice a_v0 y0.Trains.length c_v0, .slice a_v1 y0.Turns.length c_v1] 33 (0, 0)) :: vecC 23 1 a_v1 c_v1 y0.Turns.length cs_v1 :: R))) (fun b i => cond b ([0, 1, 2, 3, 4, 5, 6, 7, 8, 9, 10, 11, 12, 14, 15].contains i) ([0, 1, 2, 3, 4, 5, 6, 7, 8, 9, 10, 11, 12, 13, 14, 15].contains i)) mixed ?_
        replace hS := hS.drew
        refine Rg.takeP (i := 0) hE rfl (by kernel_rfl) (runs_plain rfl) (Gives.p hE rfl) rfl (tw_sel (fun _ => hS) (fun _ => (hS.dropAt 1))) ?_; clear hE a; intro a hE
        refine Rg.takeP (i := 1) hE rfl (by kernel_rfl) (runs_plain rfl) (Gives.p hE rfl) rfl (tw_sel (fun _ => hS) (fun _ => (hS.dropAt 1))) ?_; clear hE a; intro a hE
        have hT := tw_sel (A := fun w => St w s (pt pb0 (.cells #[.slice a_v0 y0.Trains.length c_v0, .slice a_v1 y0.Turns.length c_v1] 33 (0, 0)) :: hotC 67 4 a_v0 c_v0 y0.Trains.length cs_v0 :: vecC 23 1 a_v1 c_v1 y0.Turns.length cs_v1 :: R)) (B := fun w => St w s (pt pb0 (.cells #[.slice a_v0 y0.Trains.length c_v0, .slice a_v1 y0.Turns.length c_v1] 33 (0, 0)) :: vecC 23 1 a_v1 c_v1 y0.Turns.length cs_v1 :: R)) (w := _) (x := true) (y := true) (fun _ => hS) (fun _ => (hS.dropAt 1))
        have hF := hS; replace hS := (hS.dropAt 1)
        refine Rg.take (i := 2) false rfl hE rfl (by kernel_rfl) (runs_plain rfl) (Gives.nilOk hE rfl) rfl hT ?_; clear hE a; intro a hE
        replace hS := hF; clear hF hT
        refine Rg.takeP (i := 3) hE rfl (by kernel_rfl) (runs_plain rfl) (Gives.fld hE rfl fl33_0) rfl (tw_sel (fun _ => hS) (fun _ => (hS.dropAt 1))) ?_; clear hE a; intro a hE
        have hT := tw_sel (A := fun w => St w s (pt pb0 (.cells #[.slice a_v0 y0.Trains.length c_v0, .slice a_v1 y0.Turns.length c_v1] 33 (0, 0)) :: hotC 67 4 a_v0 c_v0 y0.Trains.length cs_v0 :: vecC 23 1 a_v1 c_v1 y0.Turns.length cs_v1 :: R)) (B := fun w => St w s (pt pb0 (.cells #[.slice a_v0 y0.Trains.length c_v0, .slice a_v1 y0.Turns.length c_v1] 33 (0, 0)) :: vecC 23 1 a_v1 c_v1 y0.Turns.length cs_v1 :: R)) (w := _) (x := true) (y := true) (fun _ => hS) (fun _ => (hS.dropAt 1))
        have hF := hS; replace hS := hS
        refine Rg.take (i := 4) true rfl hE rfl (by kernel_rfl) (runs_plain rfl) (Gives.loadB hE 0 rfl rfl rfl ty30) rfl hT ?_; clear hE a; intro a hE
        replace hS := hF; clear hF hT
        refine Rg.takeP (i := 5) hE rfl (by kernel_rfl) (runs_plain rfl) (Gives.p hE rfl) rfl (tw_sel (fun _ => hS) (fun _ => (hS.dropAt 1))) ?_; clear hE a; intro a hE
        obtain ⟨x262, hx263, hr⟩ := bindS hr
        obtain ⟨hi264, hlt265, hy266⟩ := gx_some hx263
        obtain ⟨cs267, hl268, hR269, hat270⟩ := h2.at hy266
        subst hR269
        refine Rg.takeP (i := 6) hE rfl (by kernel_rfl) (runs_plain rfl) (Gives.idx hE ((0 : Int)).toNat rfl rfl sl23 hi264 hlt265 (h2.aok hlt265)) rfl (tw_sel (fun _ => hS) (fun _ => (hS.dropAt 1))) ?_; clear hE a; intro a hE
        have hT := tw_sel (A := fun w => St w s (pt pb0 (.cells #[.slice a_v0 y0.Trains.length c_v0, .slice a_v1 y0.Turns.length c_v1] 33 (0, 0)) :: hotC 67 4 a_v0 c_v0 y0.Trains.length cs_v0 :: vecC 23 1 a_v1 c_v1 y0.Turns.length cs_v1 :: R)) (B := fun w => St w s (pt pb0 (.cells #[.slice a_v0 y0.Trains.length c_v0, .slice a_v1 y0.Turns.length c_v1] 33 (0, 0)) :: vecC 23 1 a_v1 c_v1 y0.Turns.length cs_v1 :: R)) (w := _) (x := true) (y := true) (fun _ => hS) (fun _ => (hS.dropAt 1))
        have hF := hS; replace hS := (hS.dropAt 1)
        refine Rg.take (i := 7) false rfl hE rfl (by kernel_rfl) (runs_plain rfl) (Gives.load1 hE rfl (fun w h => hat270 w _ h) ty3) rfl hT ?_; clear hE a; intro a hE
        replace hS := hF; clear hF hT
        refine Rg.takeP (i := 8) hE rfl (by kernel_rfl) (runs_plain rfl) (Gives.p hE rfl) rfl (tw_sel (fun _ => hS) (fun _ => (hS.dropAt 1))) ?_; clear hE a; intro a hE
        obtain ⟨x271, hx272, hr⟩ := bindS hr
        obtain ⟨hi273, hlt274, hy275⟩ := gx_some hx272
        obtain ⟨cs276, hl277, hR278, hat279⟩ := h2.at hy275
        subst hR278
        refine Rg.takeP (i := 9) hE rfl (by kernel_rfl) (runs_plain rfl) (Gives.idx hE ((1 : Int)).toNat rfl rfl sl23 hi273 hlt274 (h2.aok hlt274)) rfl (tw_sel (fun _ => hS) (fun _ => (hS.dropAt 1))) ?_; clear hE a; intro a hE
        have hT := tw_sel (A := fun w => St w s (pt pb0 (.cells #[.slice a_v0 y0.Trains.length c_v0, .slice a_v1 y0.Turns.length c_v1] 33 (0, 0)) :: hotC 67 4 a_v0 c_v0 y0.Trains.length cs_v0 :: vecC 23 1 a_v1 c_v1 y0.Turns.length cs_v1 :: R)) (B := fun w => St w s (pt pb0 (.cells #[.slice a_v0 y0.Trains.length c_v0, .slice a_v1 y0.Turns.length c_v1] 33 (0, 0)) :: vecC 23 1 a_v1 c_v1 y0.Turns.length cs_v1 :: R)) (w := _) (x := true) (y := true) (fun _ => hS) (fun _ => (hS.dropAt 1))
        have hF := hS; replace hS := (hS.dropAt 1)
        refine Rg.take (i := 10) false rfl hE rfl (by kernel_rfl) (runs_plain rfl) (Gives.load1 hE rfl (fun w h => hat279 w _ h) ty3) rfl hT ?_; clear hE a; intro a hE
        replace hS := hF; clear hF hT
        refine Rg.takeP (i := 11) hE rfl (by kernel_rfl) (runs_plain rfl) (Gives.build hE (vs := [(0, .int .i64 x262), (1, .int .i64 x271)]) [.int .i64 x262, .int .i64 x271, .slice none 0 0, .slice none 0 0] rfl (by kernel_rfl)) rfl (tw_sel (fun _ => hS) (fun _ => (hS.dropAt 1))) ?_; clear hE a; intro a hE
        refine Rg.one (i := 12) true true rfl (by kernel_rfl) (by kernel_rfl) (by kernel_rfl) ?_
        refine WL.lit hE hS (e := 67) (es := 4) (vs := [(0, .agg (List.toArray [.int .i64 x262, .int .i64 x271, .slice none 0 0, .slice none 0 0]))]) (cs := [.int .i64 x262, .int .i64 x271, .slice none 0 0, .slice none 0 0]) (runs_plain rfl) rfl (by kernel_rfl) rfl ?_; clear hE hS a w; intro b280 a w hE hS
        refine WL.nil ?_
        refine ⟨⟨fun _ => (hS.tail), fun _ => ((hS.tail).dropAt 1)⟩, ?_⟩
        refine Rg.one (i := 13) false true rfl (by kernel_rfl) (by kernel_rfl) (by kernel_rfl) ?_
        replace hS := hS.vecNil 64 4
        replace hS := hS.vecNil 23 1
        replace hS := hS.front 4 rfl
        replace hS := hS.front 3 rfl
        replace hS := (hS.hotOpen 1 rfl)
        replace hS := hS.front 2 rfl
        replace hS : St _ s (pt b280 (.cells #[.int .i64 x262, .int .i64 x271, .slice none 0 0, .slice none 0 0] 67 (0, 0)) :: vecC 67 4 a_v0 c_v0 y0.Trains.length cs_v0.cs :: allC cs_v0.hs :: vecC 23 1 none 0 0 [] :: vecC 64 4 none 0 0 [] :: pt pb0 (.cells #[.slice a_v0 y0.Trains.length c_v0, .slice a_v1 y0.Turns.length c_v1] 33 (0, 0)) :: vecC 23 1 a_v1 c_v1 y0.Turns.length cs_v1 :: R) := hS
        obtain ⟨x283, hx284, hr⟩ := bindS hr
        refine WL.appDx hE hS 0 (m := 1) (runs_plain rfl) rfl rfl rfl ap30 rfl h_v0.ev (rfl) (xs := [(ApiTrain.mk x262 x271 [] [])]) (RX.ev rfl) rfl rfl hx284 rfl ?_; clear hE hS a w; intro a285 c286 a w h287 hE hS
        replace hS : St _ s (vecC 67 4 a285 c286 x283.length (cs_v0.cs ++ [(.int .i64 x262 : Value), (.int .i64 x271 : Value), (.slice none 0 0 : Value), (.slice none 0 0 : Value)]) :: allC cs_v0.hs :: vecC 23 1 none 0 0 [] :: vecC 64 4 none 0 0 [] :: pt pb0 (.cells #[.slice a_v0 y0.Trains.length c_v0, .slice a_v1 y0.Turns.length c_v1] 33 (0, 0)) :: vecC 23 1 a_v1 c_v1 y0.Turns.length cs_v1 :: R) := hS
        replace hS := hS.front 1 rfl
        replace hS := hS.front 2 rfl
        replace hS := hS.front 3 rfl
        replace hS : St _ s (allC (cs_v0.hs ++ [allC [vecC 64 4 none 0 0 [], vecC 23 1 none 0 0 []]]) :: vecC 67 4 a285 c286 x283.length (cs_v0.cs ++ [(.int .i64 x262 : Value), (.int .i64 x271 : Value), (.slice none 0 0 : Value), (.slice none 0 0 : Value)]) :: pt pb0 (.cells #[.slice a_v0 y0.Trains.length c_v0, .slice a_v1 y0.Turns.length c_v1] 33 (0, 0)) :: vecC 23 1 a_v1 c_v1 y0.Turns.length cs_v1 :: R) := St.oPush (ps := [vecC 64 4 none 0 0 [], vecC 23 1 none 0 0 []]) (hs := cs_v0.hs) hS
        have h288 : HEv 4 HtApiTrain s (HotD.mk (cs_v0.cs ++ [(.int .i64 x262 : Value), (.int .i64 x271 : Value), (.slice none 0 0 : Value), (.slice none 0 0 : Value)]) (cs_v0.hs ++ [allC [vecC 64 4 none 0 0 [], vecC 23 1 none 0 0 []]])) x283 := HEv.snoc h_v0 (apd_some hx284).2.symm rfl ⟨_, _, _, _, _, _, _, _, rfl, rfl, (Ev.nil), (rfl), (Ev.nil), (rfl)⟩
        replace hS := hS.front 1 rfl
        replace hS : St _ s (hotC 67 4 a285 c286 x283.length (HotD.mk (cs_v0.cs ++ [(.int .i64 x262 : Value), (.int .i64 x271 : Value), (.slice none 0 0 : Value), (.slice none 0 0 : Value)]) (cs_v0.hs ++ [allC [vecC 64 4 none 0 0 [], vecC 23 1 none 0 0 []]])) :: pt pb0 (.cells #[.slice a_v0 y0.Trains.length c_v0, .slice a_v1 y0.Turns.length c_v1] 33 (0, 0)) :: vecC 23 1 a_v1 c_v1 y0.Turns.length cs_v1 :: R) := St.hotClose hS
        generalize HotD.mk (cs_v0.cs ++ [(.int .i64 x262 : Value), (.int .i64 x271 : Value), (.slice none 0 0 : Value), (.slice none 0 0 : Value)]) (cs_v0.hs ++ [allC [vecC 64 4 none 0 0 [], vecC 23 1 none 0 0 []]]) = cs289 at hS h288
        refine WL.nil ?_
        refine ⟨⟨fun h => absurd h (by decide), fun _ => (hS.tail)⟩, ?_⟩
        refine Rg.one (i := 14) false true rfl (by kernel_rfl) (by kernel_rfl) (by kernel_rfl) ?_
        refine WL.vS hS hE (runs_plain rfl) (Gives.nilOk hE rfl) rfl ?_; clear hE a; intro a hE
        refine WL.nil ?_
        refine ⟨⟨fun h => absurd h (by decide), fun _ => (hS.tail)⟩, ?_⟩
        refine Rg.takeP (i := 15) hE rfl (by kernel_rfl) (runs_plain rfl) (Gives.fld hE rfl fl33_0) rfl (tw_sel (fun h => absurd h (by decide)) (fun _ => (hS.tail))) ?_; clear hE a; intro a hE
        refine Rg.one (i := 16) false false rfl (by kernel_rfl) (by kernel_rfl) (by kernel_rfl) ?_
        refine WL.storeI hE hS 1 rfl [.slice a285 x283.length c286, .slice a_v1 y0.Turns.length c_v1] (runs_plain rfl) rfl rfl rfl ty30 rfl rfl rfl rfl ?_; clear hE hS a w; intro a w hE hS
        refine WL.nil ?_
        refine ⟨⟨fun h => absurd h (by decide), fun h => absurd h (by decide)⟩, ?_⟩
        refine Rg.done (by kernel_rfl) ?_
        subst hK261
        refine W.seq ?_
        refine W.region ?_
        refine WL.vS hS hE (runs_plain rfl) (Gives.p hE rfl) rfl ?_; clear hE a; intro a hE
        refine WL.vS hS hE (runs_plain rfl) (Gives.p hE rfl) rfl ?_; clear hE a; intro a hE
        refine WL.nil ?_
        refine W.ret ?_
        refine finG (fn := Tryd.f41) (rs := [.tmp 8, .tmp 9]) (vs := [_, _]) hE rfl ⟨rfl, rfl, trivial⟩ ?_
        obtain rfl := Option.some.inj hr
        replace hS := hS.front 2 rfl
        replace hS := hS.front 1 rfl
        replace hS := hS.front 2 rfl
        exact ⟨a285, c286, x283.length, cs289, a_v1, c_v1, y0.Turns.length, cs_v1, rfl, h288, (rfl), h_v1, (rfl), hS⟩
      · replace hr := iteF hc260 hr
        refine W.seq ?_
        obtain ⟨q291, hq290, hr⟩ := bndS hr
        refine W.cut (fun a w => ∃ (q294 : Bool), q294 = q291 ∧ Rep a 134 [(0, .pointer (some ⟨pb0, 0, none⟩)), (1, .string x1), (2, .slice a2 x2.length c2), (3, .int .i64 x3), (10, .pointer none), (56, .bool q294)] ∧ St w s (pt pb0 (.cells #[.slice a_v0 y0.Trains.length c_v0, .slice a_v1 y0.Turns.length c_v1] 33 (0, 0)) :: hotC 67 4 a_v0 c_v0 y0.Trains.length cs_v0 :: vecC 23 1 a_v1 c_v1 y0.Turns.length cs_v1 :: R)) ?_ ?_
        · refine W.gen fun K295 hK295 => ?_
          refine W.region ?_
          refine WL.vS hS hE (runs_plain rfl) (Gives.p hE rfl) rfl ?_; clear hE a; intro a hE
          refine WL.vS hS hE (runs_plain rfl) (Gives.eqSt hE rfl rfl) rfl ?_; clear hE a; intro a hE
          refine WL.vS hS hE (runs_plain rfl) (Gives.p hE rfl) rfl ?_; clear hE a; intro a hE
          rcases Bool.eq_false_or_eq_true (seq x1 (str [115, 116, 111, 112])) with hg296 | hg296
          · replace hq290 := iteT hg296 hq290
            refine WL.vS hS hE (runs_if hE rfl rfl rfl hg296) (Gives.p hE rfl) rfl ?_; clear hE a; intro a hE
            refine WL.vS hS hE (runs_if hE rfl rfl rfl hg296) (Gives.len hE rfl sl23) rfl ?_; clear hE a; intro a hE
            refine WL.vS hS hE (runs_if hE rfl rfl rfl hg296) (Gives.p hE rfl) rfl ?_; clear hE a; intro a hE
            refine WL.vS hS hE (runs_plain rfl) (Gives.pickT hE rfl hg296 rfl) rfl ?_; clear hE a; intro a hE
            refine WL.vS hS hE (runs_plain rfl) (Gives.p hE rfl) rfl ?_; clear hE a; intro a hE
            rcases Bool.eq_false_or_eq_true (((x2).length : Int) == 4) with hg297 | hg297
            · replace hq290 := iteT hg297 hq290
              refine WL.vS hS hE (runs_if hE rfl rfl rfl hg297) (Gives.p hE rfl) rfl ?_; clear hE a; intro a hE
              refine WL.vS hS hE (runs_if hE rfl rfl rfl hg297) (Gives.p hE rfl) rfl ?_; clear hE a; intro a hE
              refine WL.vS hS hE (runs_plain rfl) (Gives.pickT hE rfl hg297 rfl) rfl ?_; clear hE a; intro a hE
              refine WL.vS hS hE (runs_plain rfl) (Gives.p hE rfl) rfl ?_; clear hE a; intro a hE
              refine WL.nil ?_
              subst hK295
              exact ⟨(x3 == 1), hq290, hE.pick _ ⟨rfl, rfl, rfl, rfl, rfl, rfl, trivial⟩, hS⟩
            · replace hq290 := iteF hg297 hq290
              refine WL.no hE (runs_not hE rfl rfl rfl (by rw [hg297]; decide)) rfl ?_; clear hE a; intro a hE
              refine WL.no hE (runs_not hE rfl rfl rfl (by rw [hg297]; decide)) rfl ?_; clear hE a; intro a hE
              refine WL.vS hS hE (runs_plain rfl) (Gives.pickF hE rfl hg297 rfl) rfl ?_; clear hE a; intro a hE
              refine WL.vS hS hE (runs_plain rfl) (Gives.p hE rfl) rfl ?_; clear hE a; intro a hE
              refine WL.nil ?_
              subst hK295
              exact ⟨false, hq290, hE.pick _ ⟨rfl, rfl, rfl, rfl, rfl, rfl, trivial⟩, hS⟩
          · replace hq290 := iteF hg296 hq290
            refine WL.no hE (runs_not hE rfl rfl rfl (by rw [hg296]; decide)) rfl ?_; clear hE a; intro a hE
            refine WL.no hE (runs_not hE rfl rfl rfl (by rw [hg296]; decide)) rfl ?_; clear hE a; intro a hE
            refine WL.no hE (runs_not hE rfl rfl rfl (by rw [hg296]; decide)) rfl ?_; clear hE a; intro a hE
            refine WL.vS hS hE (runs_plain rfl) (Gives.pickF hE rfl hg296 rfl) rfl ?_; clear hE a; intro a hE
            refine WL.vS hS hE (runs_plain rfl) (Gives.p hE rfl) rfl ?_; clear hE a; intro a hE
            refine WL.no hE (runs_not hE rfl rfl rfl (by decide)) rfl ?_; clear hE a; intro a hE
            refine WL.no hE (runs_not hE rfl rfl rfl (by decide)) rfl ?_; clear hE a; intro a hE
            refine WL.vS hS hE (runs_plain rfl) (Gives.pickF hE rfl rfl rfl) rfl ?_; clear hE a; intro a hE
            refine WL.vS hS hE (runs_plain rfl) (Gives.p hE rfl) rfl ?_; clear hE a; intro a hE
            refine WL.nil ?_
            subst hK295
            exact ⟨false, hq290, hE.pick _ ⟨rfl, rfl, rfl, rfl, rfl, rfl, trivial⟩, hS⟩
        · clear hE hS a w; rintro a w ⟨q294, rfl, hE, hS⟩
          refine W.cond hE rfl (fun hc298 => ?_) (fun hc298 => ?_)
          · replace hr := iteT hc298 hr
            refine W.seq ?_
            refine W.gen fun K299 hK299 => ?_
            refine W.regionE (sel (fun w => St w s (pt pb0 (.cells #[.slice a_v0 y0.Trains.length c_v0, .slice a_v1 y0.Turns.length c_v1] 33 (0, 0)) :: hotC 67 4 a_v0 c_v0 y0.Trains.length cs_v0 :: vecC 23 1 a_v1 c_v1 y0.Turns.length cs_v1 :: R)) (fun w => St w s (pt pb0 (.cells #[.slice a_v0 y0.Trains.length c_v0, .slice a_v1 y0.Turns.length c_v1] 33 (0, 0)) :: hotC 67 4 a_v0 c_v0 y0.Trains.length cs_v0 :: vecC 23 1 a_v1 c_v1 y0.Turns.length cs_v1 :: R))) (fun b i => cond b ([0, 1, 2, 3, 4, 5, 6, 7, 8, 9, 10, 11, 12, 13, 14, 15, 16, 17, 18, 19, 20, 21, 22].contains i) ([0, 1, 2, 3, 4, 5, 6, 7, 8, 9, 10, 11, 12, 13, 14, 15, 16, 17, 18, 19, 20, 21, 22].contains i)) mixed ?_
            replace hS := hS.drew
            refine Rg.takeP (i := 0) hE rfl (by kernel_rfl) (runs_plain rfl) (Gives.p hE rfl) rfl (tw_sel (fun _ => hS) (fun _ => hS)) ?_; clear hE a; intro a hE
            refine Rg.takeP (i := 1) hE rfl (by kernel_rfl) (runs_plain rfl) (Gives.p hE rfl) rfl (tw_sel (fun _ => hS) (fun _ => hS)) ?_; clear hE a; intro a hE
            have hT := tw_sel (A := fun w => St w s (pt pb0 (.cells #[.slice a_v0 y0.Trains.length c_v0, .slice a_v1 y0.Turns.length c_v1] 33 (0, 0)) :: hotC 67 4 a_v0 c_v0 y0.Trains.length cs_v0 :: vecC 23 1 a_v1 c_v1 y0.Turns.length cs_v1 :: R)) (B := fun w => St w s (pt pb0 (.cells #[.slice a_v0 y0.Trains.length c_v0, .slice a_v1 y0.Turns.length c_v1] 33 (0, 0)) :: hotC 67 4 a_v0 c_v0 y0.Trains.length cs_v0 :: vecC 23 1 a_v1 c_v1 y0.Turns.length cs_v1 :: R)) (w := _) (x := true) (y := true) (fun _ => hS) (fun _ => hS)
            have hF := hS; replace hS := hS
            exact absurd hr (by simp)
          · replace hr := iteF hc298 hr
            refine W.seq ?_
            obtain ⟨q301, hq300, hr⟩ := bndS hr
            refine W.cut (fun a w => ∃ (q304 : Bool), q304 = q301 ∧ Rep a 134 [(0, .pointer (some ⟨pb0, 0, none⟩)), (1, .string x1), (2, .slice a2 x2.length c2), (10, .pointer none), (90, .bool q304)] ∧ St w s (pt pb0 (.cells #[.slice a_v0 y0.Trains.length c_v0, .slice a_v1 y0.Turns.length c_v1] 33 (0, 0)) :: hotC 67 4 a_v0 c_v0 y0.Trains.length cs_v0 :: vecC 23 1 a_v1 c_v1 y0.Turns.length cs_v1 :: R)) ?_ ?_
            · refine W.gen fun K305 hK305 => ?_
              refine W.region ?_
              refine WL.vS hS hE (runs_plain rfl) (Gives.p hE rfl) rfl ?_; clear hE a; intro a hE
              refine WL.vS hS hE (runs_plain rfl) (Gives.eqSt hE rfl rfl) rfl ?_; clear hE a; intro a hE
              refine WL.vS hS hE (runs_plain rfl) (Gives.p hE rfl) rfl ?_; clear hE a; intro a hE
              rcases Bool.eq_false_or_eq_true (seq x1 (str [108, 101, 103])) with hg306 | hg306
              · replace hq300 := iteT hg306 hq300
                refine WL.vS hS hE (runs_if hE rfl rfl rfl hg306) (Gives.p hE rfl) rfl ?_; clear hE a; intro a hE
                refine WL.vS hS hE (runs_if hE rfl rfl rfl hg306) (Gives.len hE rfl sl23) rfl ?_; clear hE a; intro a hE
                refine WL.vS hS hE (runs_if hE rfl rfl rfl hg306) (Gives.p hE rfl) rfl ?_; clear hE a; intro a hE
                refine WL.vS hS hE (runs_plain rfl) (Gives.pickT hE rfl hg306 rfl) rfl ?_; clear hE a; intro a hE
                refine WL.vS hS hE (runs_plain rfl) (Gives.p hE rfl) rfl ?_; clear hE a; intro a hE
                rcases Bool.eq_false_or_eq_true (decide (((x2).length : Int) > 0)) with hg307 | hg307
                · replace hq300 := iteT hg307 hq300
                  refine WL.vS hS hE (runs_if hE rfl rfl rfl hg307) (Gives.p hE rfl) rfl ?_; clear hE a; intro a hE
                  refine WL.vS hS hE (runs_if hE rfl rfl rfl hg307) (Gives.p hE rfl) rfl ?_; clear hE a; intro a hE
                  refine WL.vS hS hE (runs_if hE rfl rfl rfl hg307) (Gives.p hE rfl) rfl ?_; clear hE a; intro a hE
                  rcases Bool.eq_false_or_eq_true (x3 == 1) with hg308 | hg308
                  · replace hq300 := iteT hg308 hq300
                    refine WL.no hE (runs_not hE rfl rfl rfl (by rw [hg308]; decide)) rfl ?_; clear hE a; intro a hE
                    refine WL.no hE (runs_not hE rfl rfl rfl (by rw [hg308]; decide)) rfl ?_; clear hE a; intro a hE
                    refine WL.vS hS hE (runs_if hE rfl rfl rfl hg307) (Gives.pickT hE rfl hg308 rfl) rfl ?_; clear hE a; intro a hE
                    refine WL.vS hS hE (runs_plain rfl) (Gives.pickT hE rfl hg307 rfl) rfl ?_; clear hE a; intro a hE
                    refine WL.vS hS hE (runs_plain rfl) (Gives.p hE rfl) rfl ?_; clear hE a; intro a hE
                    refine WL.nil ?_
                    subst hK305
                    exact ⟨true, hq300, hE.pick _ ⟨rfl, rfl, rfl, rfl, rfl, trivial⟩, hS⟩
                  · replace hq300 := iteF hg308 hq300
                    refine WL.vS hS hE (runs_if hE rfl rfl rfl hg308) (Gives.p hE rfl) rfl ?_; clear hE a; intro a hE
                    refine WL.vS hS hE (runs_if hE rfl rfl rfl hg308) (Gives.p hE rfl) rfl ?_; clear hE a; intro a hE
                    refine WL.vS hS hE (runs_if hE rfl rfl rfl hg307) (Gives.pickF hE rfl hg308 rfl) rfl ?_; clear hE a; intro a hE
                    refine WL.vS hS hE (runs_plain rfl) (Gives.pickT hE rfl hg307 rfl) rfl ?_; clear hE a; intro a hE
                    refine WL.vS hS hE (runs_plain rfl) (Gives.p hE rfl) rfl ?_; clear hE a; intro a hE
                    refine WL.nil ?_
                    subst hK305
                    exact ⟨(x3 == 2), hq300, hE.pick _ ⟨rfl, rfl, rfl, rfl, rfl, trivial⟩, hS⟩
                · replace hq300 := iteF hg307 hq300
                  refine WL.no hE (runs_not hE rfl rfl rfl (by rw [hg307]; decide)) rfl ?_; clear hE a; intro a hE
                  refine WL.no hE (runs_not hE rfl rfl rfl (by rw [hg307]; decide)) rfl ?_; clear hE a; intro a hE
                  refine WL.no hE (runs_not hE rfl rfl rfl (by rw [hg307]; decide)) rfl ?_; clear hE a; intro a hE
                  refine WL.no hE (runs_undef hE rfl rfl rfl) rfl ?_; clear hE a; intro a hE
                  refine WL.no hE (runs_undef hE rfl rfl rfl) rfl ?_; clear hE a; intro a hE
                  refine WL.no hE (runs_not hE rfl rfl rfl (by rw [hg307]; decide)) rfl ?_; clear hE a; intro a hE
                  refine WL.vS hS hE (runs_plain rfl) (Gives.pickF hE rfl hg307 rfl) rfl ?_; clear hE a; intro a hE
                  refine WL.vS hS hE (runs_plain rfl) (Gives.p hE rfl) rfl ?_; clear hE a; intro a hE
                  refine WL.nil ?_
                  subst hK305
                  exact ⟨false, hq300, hE.pick _ ⟨rfl, rfl, rfl, rfl, rfl, trivial⟩, hS⟩
              · replace hq300 := iteF hg306 hq300
                refine WL.no hE (runs_not hE rfl rfl rfl (by rw [hg306]; decide)) rfl ?_; clear hE a; intro a hE
                refine WL.no hE (runs_not hE rfl rfl rfl (by rw [hg306]; decide)) rfl ?_; clear hE a; intro a hE
                refine WL.no hE (runs_not hE rfl rfl rfl (by rw [hg306]; decide)) rfl ?_; clear hE a; intro a hE
                refine WL.vS hS hE (runs_plain rfl) (Gives.pickF hE rfl hg306 rfl) rfl ?_; clear hE a; intro a hE
                refine WL.vS hS hE (runs_plain rfl) (Gives.p hE rfl) rfl ?_; clear hE a; intro a hE
                refine WL.no hE (runs_not hE rfl rfl rfl (by decide)) rfl ?_; clear hE a; intro a hE
                refine WL.no hE (runs_not hE rfl rfl rfl (by decide)) rfl ?_; clear hE a; intro a hE
                refine WL.no hE (runs_not hE rfl rfl rfl (by decide)) rfl ?_; clear hE a; intro a hE
                refine WL.no hE (runs_undef hE rfl rfl rfl) rfl ?_; clear hE a; intro a hE
                refine WL.no hE (runs_undef hE rfl rfl rfl) rfl ?_; clear hE a; intro a hE
                refine WL.no hE (runs_not hE rfl rfl rfl (by decide)) rfl ?_; clear hE a; intro a hE
                refine WL.vS hS hE (runs_plain rfl) (Gives.pickF hE rfl rfl rfl) rfl ?_; clear hE a; intro a hE
                refine WL.vS hS hE (runs_plain rfl) (Gives.p hE rfl) rfl ?_; clear hE a; intro a hE
                refine WL.nil ?_
                subst hK305
                exact ⟨false, hq300, hE.pick _ ⟨rfl, rfl, rfl, rfl, rfl, trivial⟩, hS⟩
            · clear hE hS a w; rintro a w ⟨q304, rfl, hE, hS⟩
              refine W.cond hE rfl (fun hc309 => ?_) (fun hc309 => ?_)
              · replace hr := iteT hc309 hr
                refine W.seq ?_
                refine W.region ?_
                refine WL.vS hS hE (runs_plain rfl) (Gives.p hE rfl) rfl ?_; clear hE a; intro a hE
                refine WL.vS hS hE (runs_plain rfl) (Gives.p hE rfl) rfl ?_; clear hE a; intro a hE
                exact absurd hr (by simp)
              · replace hr := iteF hc309 hr
                refine W.seq ?_
                obtain ⟨q311, hq310, hr⟩ := bndS hr
                refine W.cut (fun a w => ∃ (q314 : Bool), q314 = q311 ∧ Rep a 134 [(0, .pointer (some ⟨pb0, 0, none⟩)), (2, .slice a2 x2.length c2), (116, .bool q314)] ∧ St w s (pt pb0 (.cells #[.slice a_v0 y0.Trains.length c_v0, .slice a_v1 y0.Turns.length c_v1] 33 (0, 0)) :: hotC 67 4 a_v0 c_v0 y0.Trains.length cs_v0 :: vecC 23 1 a_v1 c_v1 y0.Turns.length cs_v1 :: R)) ?_ ?_
                · refine W.gen fun K315 hK315 => ?_
                  refine W.region ?_
                  refine WL.vS hS hE (runs_plain rfl) (Gives.p hE rfl) rfl ?_; clear hE a; intro a hE
                  refine WL.vS hS hE (runs_plain rfl) (Gives.eqSt hE rfl rfl) rfl ?_; clear hE a; intro a hE
                  refine WL.vS hS hE (runs_plain rfl) (Gives.p hE rfl) rfl ?_; clear hE a; intro a hE
                  rcases Bool.eq_false_or_eq_true (seq x1 (str [116, 117, 114, 110])) with hg316 | hg316
                  · replace hq310 := iteT hg316 hq310
                    refine WL.vS hS hE (runs_if hE rfl rfl rfl hg316) (Gives.p hE rfl) rfl ?_; clear hE a; intro a hE
                    refine WL.vS hS hE (runs_if hE rfl rfl rfl hg316) (Gives.len hE rfl sl23) rfl ?_; clear hE a; intro a hE
                    refine WL.vS hS hE (runs_if hE rfl rfl rfl hg316) (Gives.p hE rfl) rfl ?_; clear hE a; intro a hE
                    refine WL.vS hS hE (runs_plain rfl) (Gives.pickT hE rfl hg316 rfl) rfl ?_; clear hE a; intro a hE
                    refine WL.vS hS hE (runs_plain rfl) (Gives.p hE rfl) rfl ?_; clear hE a; intro a hE
                    refine WL.nil ?_
                    subst hK315
                    exact ⟨decide (((x2).length : Int) > 0), hq310, hE.pick _ ⟨rfl, rfl, rfl, trivial⟩, hS⟩
                  · replace hq310 := iteF hg316 hq310
                    refine WL.no hE (runs_not hE rfl rfl rfl (by rw [hg316]; decide)) rfl ?_; clear hE a; intro a hE
                    refine WL.no hE (runs_not hE rfl rfl rfl (by rw [hg316]; decide)) rfl ?_; clear hE a; intro a hE
                    refine WL.no hE (runs_not hE rfl rfl rfl (by rw [hg316]; decide)) rfl ?_; clear hE a; intro a hE
                    refine WL.vS hS hE (runs_plain rfl) (Gives.pickF hE rfl hg316 rfl) rfl ?_; clear hE a; intro a hE
                    refine WL.vS hS hE (runs_plain rfl) (Gives.p hE rfl) rfl ?_; clear hE a; intro a hE
                    refine WL.nil ?_
                    subst hK315
                    exact ⟨false, hq310, hE.pick _ ⟨rfl, rfl, rfl, trivial⟩, hS⟩
                · clear hE hS a w; rintro a w ⟨q314, rfl, hE, hS⟩
                  refine W.cond hE rfl (fun hc317 => ?_) (fun hc317 => ?_)
                  · replace hr := iteT hc317 hr
                    refine W.seq ?_
                    refine W.region ?_
                    refine WL.vS hS hE (runs_plain rfl) (Gives.p hE rfl) rfl ?_; clear hE a; intro a hE
                    refine WL.vS hS hE (runs_plain rfl) (Gives.p hE rfl) rfl ?_; clear hE a; intro a hE
                    refine WL.vS hS hE (runs_plain rfl) (Gives.nilOk hE rfl) rfl ?_; clear hE a; intro a hE
                    refine WL.vS hS hE (runs_plain rfl) (Gives.fld hE rfl fl33_1) rfl ?_; clear hE a; intro a hE
                    refine WL.vS hS hE (runs_plain rfl) (Gives.loadB hE 0 rfl rfl rfl ty31) rfl ?_; clear hE a; intro a hE
                    refine WL.vS hS hE (runs_plain rfl) (Gives.p hE rfl) rfl ?_; clear hE a; intro a hE
                    refine WL.lit hE hS (e := 23) (es := 1) (vs := [(0, .slice a2 x2.length c2)]) (cs := [.slice a2 x2.length c2]) (runs_plain rfl) rfl (by kernel_rfl) rfl ?_; clear hE hS a w; intro b318 a w hE hS
                    obtain ⟨x319, hx320, hr⟩ := bindS hr
                    refine WL.appD hE hS 2 (m := 1) (runs_plain rfl) rfl rfl rfl ap31 rfl h_v1 (rfl) (xs := [x2]) (Ev.cons (c1 := [.slice a2 x2.length c2]) ⟨_, _, rfl, h2⟩ rfl (Ev.nil)) rfl rfl hx320 rfl ?_; clear hE hS a w; intro a321 c322 cs323 a w h324 hE hS
                    refine WL.vS hS hE (runs_plain rfl) (Gives.nilOk hE rfl) rfl ?_; clear hE a; intro a hE
                    refine WL.vS hS hE (runs_plain rfl) (Gives.fld hE rfl fl33_1) rfl ?_; clear hE a; intro a hE
                    refine WL.storeI hE hS 0 rfl [.slice a_v0 y0.Trains.length c_v0, .slice a321 x319.length c322] (runs_plain rfl) rfl rfl rfl ty31 rfl rfl rfl rfl ?_; clear hE hS a w; intro a w hE hS
                    refine WL.nil ?_
                    refine W.seq ?_
                    refine W.region ?_
                    refine WL.vS hS hE (runs_plain rfl) (Gives.p hE rfl) rfl ?_; clear hE a; intro a hE
                    refine WL.vS hS hE (runs_plain rfl) (Gives.p hE rfl) rfl ?_; clear hE a; intro a hE
                    refine WL.nil ?_
                    refine W.ret ?_
                    refine finG (fn := Tryd.f41) (rs := [.tmp 8, .tmp 9]) (vs := [_, _]) hE rfl ⟨rfl, rfl, trivial⟩ ?_
                    obtain rfl := Option.some.inj hr
                    exact ⟨a_v0, c_v0, y0.Trains.length, cs_v0, a321, c322, x319.length, cs323, rfl, h_v0, (rfl), h324, (rfl), hS⟩
                  · replace hr := iteF hc317 hr
                    refine W.skip ?_
                    refine W.seq ?_
                    refine W.region ?_
                    refine WL.vS hS hE (runs_plain rfl) (Gives.p hE rfl) rfl ?_; clear hE a; intro a hE
                    refine WL.vS hS hE (runs_plain rfl) (Gives.p hE rfl) rfl ?_; clear hE a; intro a hE
                    refine WL.nil ?_
                    refine W.ret ?_
                    refine finG (fn := Tryd.f41) (rs := [.tmp 8, .tmp 9]) (vs := [_, _]) hE rfl ⟨rfl, rfl, trivial⟩ ?_
                    obtain rfl := Option.some.inj hr
                    exact ⟨a_v0, c_v0, y0.Trains.length, cs_v0, a_v1, c_v1, y0.Turns.length, cs_v1, rfl, h_v0, (rfl), h_v1, (rfl), hS⟩
set_option maxHeartbeats 8000000 in
theorem PlanRead_ok  {w : World} {s : Sg} {R : List HP} {x0 : ByteArray} (hS : St w s (R)) (hTab : TabX s) {r : ApiDay × Int} (hr : PlanRead x0 = some r) :
    Calls Tryd.prog 14 [.string x0].toArray w (fun e w => ∃ (cs0 : List Value) (t : Sg), e = .returned (.tuple #[.agg cs0.toArray, .int .i64 r.2]) ∧ s.Le t ∧ RApiDay t cs0 r.1 ∧ St w t (R)) := by
  refine enter Tryd.func14 rfl rfl rfl fun a hE => ?_
  rw [PlanRead] at hr
  refine W.seq ?_
  refine W.region ?_
  refine WL.alloc hE hS (runs_plain rfl) zr33 rfl ?_; clear hE hS a w; intro b51 a w hE hS
  refine WL.vS hS hE (runs_plain rfl) (Gives.p hE rfl) rfl ?_; clear hE a; intro a hE
  refine WL.nil ?_
  refine W.seq ?_
  refine W.seq ?_
  refine W.region ?_
  refine WL.vS hS hE (runs_plain rfl) (Gives.p hE rfl) rfl ?_; clear hE a; intro a hE
  refine WL.vS hS hE (runs_plain rfl) (Gives.lenS hE rfl st9) rfl ?_; clear hE a; intro a hE
  refine WL.vS hS hE (runs_plain rfl) (Gives.p hE rfl) rfl ?_; clear hE a; intro a hE
  refine WL.nil ?_
  refine W.cond hE rfl (fun hc52 => ?_) (fun hc52 => ?_)
  · replace hr := iteT hc52 hr
    refine W.seq ?_
    refine W.region ?_
    refine WL.vS hS hE (runs_plain rfl) (Gives.build hE (vs := []) [.slice none 0 0, .slice none 0 0] rfl (by kernel_rfl)) rfl ?_; clear hE a; intro a hE
    refine WL.storeI hE hS 0 rfl [.slice none 0 0, .slice none 0 0] (runs_plain rfl) rfl rfl rfl ty33 rfl rfl rfl rfl ?_; clear hE hS a w; intro a w hE hS
    refine WL.vS hS hE (runs_plain rfl) (Gives.p hE rfl) rfl ?_; clear hE a; intro a hE
    refine WL.nil ?_
    refine W.ret ?_
    refine finG (fn := Tryd.f14) (rs := [.cell 2 33, .tmp 3]) (vs := [_, _]) hE rfl ⟨⟨_, rfl, .inl ⟨_, rfl, hS.seesAt 0 rfl, ty33⟩⟩, rfl, trivial⟩ ?_
    obtain rfl := Option.some.inj hr
    replace hS := hS.tail
    exact ⟨_, s, rfl, (Sg.Le.refl _), ⟨_, _, _, _, rfl, Sl.nil, Sl.nil⟩, hS⟩
  · replace hr := iteF hc52 hr
    refine W.skip ?_
    refine W.seq ?_
    refine W.region ?_
    refine WL.vS hS hE (runs_plain rfl) (Gives.p hE rfl) rfl ?_; clear hE a; intro a hE
    obtain ⟨q53, hq54, hr⟩ := bindS hr
    have hc_ := LineLines_ok hS (TabG.mono (Sg.Le.refl _) hTab) hq54
    refine WL.fnq hE (hc_) (runs_plain rfl) bd38 rfl rfl rfl ?_
    clear hE hS hc_; rintro e w ⟨a55, c56, n57, cs58, s61, rfl, hle62, h59, rfl, hS⟩; refine ⟨_, rfl, ?_⟩; clear a; intro a hE
    refine WL.vS hS hE (runs_plain rfl) (Gives.p hE rfl) rfl ?_; clear hE a; intro a hE
    refine WL.vS hS hE (runs_plain rfl) (Gives.p hE rfl) rfl ?_; clear hE a; intro a hE
    refine WL.vS hS hE (runs_plain rfl) (Gives.p hE rfl) rfl ?_; clear hE a; intro a hE
    refine WL.vS hS hE (runs_plain rfl) (Gives.p hE rfl) rfl ?_; clear hE a; intro a hE
    refine WL.vS hS hE (runs_plain rfl) (Gives.p hE rfl) rfl ?_; clear hE a; intro a hE
    refine WL.nil ?_
    refine W.seq ?_
    refine W.seq ?_
    refine W.region ?_
    refine WL.vS hS hE (runs_plain rfl) (Gives.p hE rfl) rfl ?_; clear hE a; intro a hE
    refine WL.vS hS hE (runs_plain rfl) (Gives.p hE rfl) rfl ?_; clear hE a; intro a hE
    refine WL.nil ?_
    refine W.cond hE rfl (fun hc63 => ?_) (fun hc63 => ?_)
    · replace hr := iteT hc63 hr
      refine W.seq ?_
      refine W.region ?_
      refine WL.vS hS hE (runs_plain rfl) (Gives.build hE (vs := []) [.slice none 0 0, .slice none 0 0] rfl (by kernel_rfl)) rfl ?_; clear hE a; intro a hE
      refine WL.storeI hE hS 1 rfl [.slice none 0 0, .slice none 0 0] (runs_plain rfl) rfl rfl rfl ty33 rfl rfl rfl rfl ?_; clear hE hS a w; intro a w hE hS
      refine WL.vS hS hE (runs_plain rfl) (Gives.p hE rfl) rfl ?_; clear hE a; intro a hE
      refine WL.nil ?_
      refine W.ret ?_
      refine finG (fn := Tryd.f14) (rs := [.cell 2 33, .tmp 3]) (vs := [_, _]) hE rfl ⟨⟨_, rfl, .inl ⟨_, rfl, hS.seesAt 1 rfl, ty33⟩⟩, rfl, trivial⟩ ?_
      obtain rfl := Option.some.inj hr
      replace hS := hS.tail
      replace hS := hS.tail
      exact ⟨_, s61, rfl, hle62, ⟨_, _, _, _, rfl, Sl.nil, Sl.nil⟩, hS⟩
    · replace hr := iteF hc63 hr
      refine W.skip ?_
      refine W.seq ?_
      refine W.region ?_
      refine WL.alloc hE hS (runs_plain rfl) zr33 rfl ?_; clear hE hS a w; intro b64 a w hE hS
      refine WL.nil ?_
      refine W.seq ?_
      refine W.region ?_
      refine WL.vS hS hE (runs_plain rfl) (Gives.p hE rfl) rfl ?_; clear hE a; intro a hE
      refine WL.nil ?_
      refine W.seq ?_
      refine W.seq ?_
      refine W.region ?_
      refine WL.vS hS hE (runs_plain rfl) (Gives.p hE rfl) rfl ?_; clear hE a; intro a hE
      refine WL.vS hS hE (runs_plain rfl) (Gives.len hE rfl sl80) rfl ?_; clear hE a; intro a hE
      refine WL.vS hS hE (runs_plain rfl) (Gives.p hE rfl) rfl ?_; clear hE a; intro a hE
      refine WL.nil ?_
      replace hS := hS.vecNil 23 1
      replace hS := hS.hotNil 67 4
      have h66 : HEv 4 HtApiTrain s61 ⟨[], []⟩ ([] : List ApiTrain) := HEv.nil
      have hb79 : q53.1.length ≤ 9223372036854775807 := by have := hS.vecCap 3 rfl; unfold maxLen at this; omega
      obtain ⟨q69, hq68, hr⟩ := bindS hr
      refine W.cut (fun a w => ∃ (q80 : Int), ∃ (q81 : List ApiTrain), ∃ (q85 : List (List Int)), ∃ (q89 : List ApiTrain), ∃ (q96 : List (List Int)), ∃ (a82 : Option Addr), ∃ (c83 : Nat), ∃ (a86 : Option Addr), ∃ (c87 : Nat), ∃ (a90 : Option Addr), ∃ (c91 : Nat), ∃ (n93 : Nat), ∃ (cs94 : HotD), ∃ (a97 : Option Addr), ∃ (c98 : Nat), ∃ (n100 : Nat), ∃ (cs101 : List Value), ∃ (s77 : Sg), s61.Le s77 ∧ (.next (q80, q81, q85, q89, q96)) = q69 ∧ Sl 4 RApiTrain s77 a82 c83 q81 ∧ Sl 1 (RL 1 (RI .i64)) s77 a86 c87 q85 ∧ HEv 4 HtApiTrain s77 cs94 q89 ∧ q89.length = n93 ∧ Ev 1 (RL 1 (RI .i64)) s77 cs101 q96 ∧ q96.length = n100 ∧ Rep a 81 [(2, .pointer (some ⟨b51, 0, none⟩)), (6, .pointer (some ⟨b64, 0, none⟩))] ∧ St w s77 (hotC 67 4 a90 c91 n93 cs94 :: vecC 23 1 a97 c98 n100 cs101 :: pt b64 (.cells #[.slice a90 n93 c91, .slice a97 n100 c98] 33 (0, 0)) :: vecC 83 1 a55 c56 q53.1.length cs58 :: pt b51 (.cells #[.slice a82 q81.length c83, .slice a86 q85.length c87] 33 (0, 0)) :: R)) ?_ ?_
      · refine W.block ?_
        refine W.loop (fun m a w => ∃ (rest72 : Nat) (k70 : Nat), ∃ (q80 : Int), ∃ (q81 : List ApiTrain), ∃ (q85 : List (List Int)), ∃ (q89 : List ApiTrain), ∃ (q96 : List (List Int)), ∃ (a82 : Option Addr), ∃ (c83 : Nat), ∃ (a86 : Option Addr), ∃ (c87 : Nat), ∃ (a90 : Option Addr), ∃ (c91 : Nat), ∃ (n93 : Nat), ∃ (cs94 : HotD), ∃ (a97 : Option Addr), ∃ (c98 : Nat), ∃ (n100 : Nat), ∃ (cs101 : List Value), ∃ (s77 : Sg), rest72 = m ∧ k70 + rest72 = q53.1.length ∧ s61.Le s77 ∧ PlanRead.loop1 q53 rest72 k70 q80 q81 q85 q89 q96 = some q69 ∧ Sl 4 RApiTrain s77 a82 c83 q81 ∧ Sl 1 (RL 1 (RI .i64)) s77 a86 c87 q85 ∧ HEv 4 HtApiTrain s77 cs94 q89 ∧ q89.length = n93 ∧ Ev 1 (RL 1 (RI .i64)) s77 cs101 q96 ∧ q96.length = n100 ∧ Rep a 81 [(2, .pointer (some ⟨b51, 0, none⟩)), (6, .pointer (some ⟨b64, 0, none⟩)), (7, .int .i64 q80), (28, .slice a55 q53.1.length c56), (29, .int .i64 ((q53.1.length : Nat) : Int)), (30, .int .i64 ((k70 : Nat) : Int))] ∧ St w s77 (hotC 67 4 a90 c91 n93 cs94 :: vecC 23 1 a97 c98 n100 cs101 :: pt b64 (.cells #[.slice a90 n93 c91, .slice a97 n100 c98] 33 (0, 0)) :: vecC 83 1 a55 c56 q53.1.length cs58 :: pt b51 (.cells #[.slice a82 q81.length c83, .slice a86 q85.length c87] 33 (0, 0)) :: R)) (m := q53.1.length) ⟨q53.1.length, 0, 0, [], [], ([] : List ApiTrain), [], none, 0, none, 0, none, 0, 0, ⟨[], []⟩, none, 0, 0, [], s61, rfl, by omega, (Sg.Le.refl _), hq68, Sl.nil, Sl.nil, h66, (rfl), (Ev.nil), (rfl), hE.pick _ ⟨rfl, rfl, rfl, rfl, rfl, rfl, trivial⟩, hS⟩ ?_
        clear hE hS a w hq68; rintro m76 a w ⟨rest72, k70, q80, q81, q85, q89, q96, a82, c83, a86, c87, a90, c91, n93, cs94, a97, c98, n100, cs101, s77, rfl, hd73, hle78, hq68, h84, h88, h92, rfl, h99, rfl, hE, hS⟩
        refine W.gen fun K103 hK103 => ?_
        replace h66 := HEv.mono HtApiTrain.mono hle78 h66
        replace h59 := Ev.mono (RL.mono RS.mono) hle78 h59
        rcases rest72 with _ | rest72
        · skip
          refine W.seq ?_
          refine W.region ?_
          refine WL.vS hS hE (runs_plain rfl) (Gives.p hE rfl) rfl ?_; clear hE a; intro a hE
          refine WL.nil ?_
          refine W.seq ?_
          refine W.condF hE rfl (decide_eq_false (by omega)) ?_
          subst hK103
          refine W.exit rfl ?_
          exact ⟨q80, q81, q85, q89, q96, a82, c83, a86, c87, a90, c91, q89.length, cs94, a97, c98, q96.length, cs101, s77, hle78, Option.some.inj hq68, h84, h88, h92, rfl, h99, rfl, hE.pick _ ⟨rfl, rfl, trivial⟩, hS⟩
        · have hlt74 : k70 < q53.1.length := by omega
          rw [PlanRead.loop1] at hq68
          refine W.seq ?_
          refine W.region ?_
          refine WL.vS hS hE (runs_plain rfl) (Gives.p hE rfl) rfl ?_; clear hE a; intro a hE
          refine WL.nil ?_
          refine W.seq ?_
          refine W.condT hE rfl (decide_eq_true (by omega)) ?_
          refine W.skip ?_
          refine W.seq ?_
          refine W.block ?_
          refine W.seq ?_
          refine W.region ?_
          obtain ⟨x104, hx105, hq68⟩ := bindS hq68
          obtain ⟨hi106, hlt107, hy108⟩ := gx_some hx105
          obtain ⟨vs109, hl110, hR111, hd112, hget113⟩ := h59.at hy108
          obtain ⟨a114, c115, rfl, h116⟩ := hR111
          refine WL.vS hS hE (runs_plain rfl) (Gives.idx hE ((((k70 : Nat) : Int)).toNat) rfl rfl sl80 hi106 (by omega) (hS.vecAok 3 rfl (by omega : (((k70 : Nat) : Int)).toNat < q53.1.length))) rfl ?_; clear hE a; intro a hE
          refine WL.vS hS hE (runs_plain rfl) (Gives.load1 hE rfl (fun w h => St.vecSees h 3 rfl ((((k70 : Nat) : Int)).toNat * 1) _ hget113) ty83) rfl ?_; clear hE a; intro a hE
          refine WL.vS hS hE (runs_plain rfl) (Gives.p hE rfl) rfl ?_; clear hE a; intro a hE
          refine WL.nil ?_
          refine W.seq ?_
          refine W.region ?_
          refine WL.vS hS hE (runs_plain rfl) (Gives.p hE rfl) rfl ?_; clear hE a; intro a hE
          obtain ⟨x117, hx118, hq68⟩ := bindS hq68
          obtain ⟨a119, c120, heq121, h122⟩ := h116.cut hx118
          obtain ⟨h123, h124, h125, _⟩ := cutl_some hx118
          refine WL.vS hS hE (runs_plain rfl) (Gives.slL hE sl83 rfl rfl h123 (by omega) (by simpa using heq121)) rfl ?_; clear hE a; intro a hE
          obtain ⟨q126, hq127, hq68⟩ := bindS hq68
          have hc_ := LineNumbers_ok hS (TabG.mono (Sg.Le.trans hle62 hle78) hTab) h122 hq127
          refine WL.fnq hE (hc_) (runs_plain rfl) bd39 rfl rfl rfl ?_
          clear hE hS hc_; rintro e w ⟨a128, c129, n130, cs131, rfl, h132, rfl, hS⟩; refine ⟨_, rfl, ?_⟩; clear a; intro a hE
          refine WL.vS hS hE (runs_plain rfl) (Gives.p hE rfl) rfl ?_; clear hE a; intro a hE
          refine WL.vS hS hE (runs_plain rfl) (Gives.p hE rfl) rfl ?_; clear hE a; intro a hE
          refine WL.vS hS hE (runs_plain rfl) (Gives.p hE rfl) rfl ?_; clear hE a; intro a hE
          refine WL.vS hS hE (runs_plain rfl) (Gives.p hE rfl) rfl ?_; clear hE a; intro a hE
          refine WL.vS hS hE (runs_plain rfl) (Gives.p hE rfl) rfl ?_; clear hE a; intro a hE
          refine WL.nil ?_
          refine W.seq ?_
          refine W.seq ?_
          refine W.region ?_
          refine WL.vS hS hE (runs_plain rfl) (Gives.p hE rfl) rfl ?_; clear hE a; intro a hE
          obtain ⟨x134, hx135, hq68⟩ := bindS hq68
          obtain ⟨a136, c137, heq138, h139⟩ := h116.cut hx135
          obtain ⟨h140, h141, h142, _⟩ := cutl_some hx135
          refine WL.vS hS hE (runs_plain rfl) (Gives.slL hE sl83 rfl rfl h140 (by omega) (by simpa using heq138)) rfl ?_; clear hE a; intro a hE
          refine WL.vS hS hE (runs_plain rfl) (Gives.len hE rfl sl83) rfl ?_; clear hE a; intro a hE
          refine WL.vS hS hE (runs_plain rfl) (Gives.p hE rfl) rfl ?_; clear hE a; intro a hE
          refine WL.nil ?_
          obtain ⟨q144, hq143, hq68⟩ := bindS hq68
          refine W.cut (fun a w => ∃ (q154 : Bool), q154 = q144 ∧ Rep a 81 [(2, .pointer (some ⟨b51, 0, none⟩)), (6, .pointer (some ⟨b64, 0, none⟩)), (7, .int .i64 q80), (9, .slice a114 x104.length c115), (10, .slice a128 q126.1.length c129), (11, .bool q154), (28, .slice a55 q53.1.length c56), (29, .int .i64 ((q53.1.length : Nat) : Int)), (30, .int .i64 ((k70 : Nat) : Int))] ∧ St w s77 (vecC 3 1 a128 c129 q126.1.length cs131 :: hotC 67 4 a90 c91 q89.length cs94 :: vecC 23 1 a97 c98 q96.length cs101 :: pt b64 (.cells #[.slice a90 q89.length c91, .slice a97 q96.length c98] 33 (0, 0)) :: vecC 83 1 a55 c56 q53.1.length cs58 :: pt b51 (.cells #[.slice a82 q81.length c83, .slice a86 q85.length c87] 33 (0, 0)) :: R)) ?_ ?_
          · refine W.block ?_
            refine W.loop (fun m a w => ∃ (rest147 : List ByteArray) (k145 : Nat), ∃ (q154 : Bool), rest147.length = m ∧ x134.drop k145 = rest147 ∧ PlanRead.loop2 rest147 q154 = some q144 ∧ Rep a 81 [(2, .pointer (some ⟨b51, 0, none⟩)), (6, .pointer (some ⟨b64, 0, none⟩)), (7, .int .i64 q80), (9, .slice a114 x104.length c115), (10, .slice a128 q126.1.length c129), (11, .bool q154), (28, .slice a55 q53.1.length c56), (29, .int .i64 ((q53.1.length : Nat) : Int)), (30, .int .i64 ((k70 : Nat) : Int)), (41, .slice a136 x134.length c137), (42, .int .i64 ((x134).length : Int)), (43, .int .i64 ((k145 : Nat) : Int))] ∧ St w s77 (vecC 3 1 a128 c129 q126.1.length cs131 :: hotC 67 4 a90 c91 q89.length cs94 :: vecC 23 1 a97 c98 q96.length cs101 :: pt b64 (.cells #[.slice a90 q89.length c91, .slice a97 q96.length c98] 33 (0, 0)) :: vecC 83 1 a55 c56 q53.1.length cs58 :: pt b51 (.cells #[.slice a82 q81.length c83, .slice a86 q85.length c87] 33 (0, 0)) :: R)) (m := x134.length) ⟨x134, 0, q126.2, rfl, rfl, hq143, hE.pick _ ⟨rfl, rfl, rfl, rfl, rfl, rfl, rfl, rfl, rfl, rfl, rfl, rfl, trivial⟩, hS⟩ ?_
            clear hE hS a w hq143; rintro m151 a w ⟨rest147, k145, q154, rfl, hd148, hq143, hE, hS⟩
            refine W.gen fun K155 hK155 => ?_
            rcases rest147 with _ | ⟨x146, rest147⟩
            · have hlt149 := drop_nil hd148
              refine W.seq ?_
              refine W.region ?_
              refine WL.vS hS hE (runs_plain rfl) (Gives.p hE rfl) rfl ?_; clear hE a; intro a hE
              refine WL.nil ?_
              refine W.seq ?_
              refine W.condF hE rfl (decide_eq_false (by omega)) ?_
              subst hK155
              refine W.exit rfl ?_
              exact ⟨q154, Option.some.inj hq143, hE.pick _ ⟨rfl, rfl, rfl, rfl, rfl, rfl, rfl, rfl, rfl, trivial⟩, hS⟩
            · obtain ⟨hlt149, hx150, hd148⟩ := drop_cons hd148
              rw [PlanRead.loop2] at hq143
              refine W.seq ?_
              refine W.region ?_
              refine WL.vS hS hE (runs_plain rfl) (Gives.p hE rfl) rfl ?_; clear hE a; intro a hE
              refine WL.nil ?_
              refine W.seq ?_
              refine W.condT hE rfl (decide_eq_true (by omega)) ?_
              refine W.skip ?_
              refine W.seq ?_
              refine W.block ?_
              refine W.seq ?_
              refine W.region ?_
              obtain ⟨cs156, hl157, hR158, hat159⟩ := h139.at hx150
              subst hR158
              refine WL.vS hS hE (runs_plain rfl) (Gives.idx hE k145 rfl rfl sl83 rfl hlt149 (h139.aok hlt149)) rfl ?_; clear hE a; intro a hE
              refine WL.vS hS hE (runs_plain rfl) (Gives.load1 hE rfl (fun w h => hat159 w _ h) ty9) rfl ?_; clear hE a; intro a hE
              refine WL.vS hS hE (runs_plain rfl) (Gives.p hE rfl) rfl ?_; clear hE a; intro a hE
              refine WL.nil ?_
              obtain ⟨q161, hq160, hq143⟩ := bindS hq143
              refine W.cut (fun a w => ∃ (q164 : Bool), q164 = q161 ∧ Rep a 81 [(2, .pointer (some ⟨b51, 0, none⟩)), (6, .pointer (some ⟨b64, 0, none⟩)), (7, .int .i64 q80), (9, .slice a114 x104.length c115), (10, .slice a128 q126.1.length c129), (11, .bool q164), (28, .slice a55 q53.1.length c56), (29, .int .i64 ((q53.1.length : Nat) : Int)), (30, .int .i64 ((k70 : Nat) : Int)), (41, .slice a136 x134.length c137), (42, .int .i64 ((x134).length : Int)), (43, .int .i64 ((k145 : Nat) : Int))] ∧ St w s77 (vecC 3 1 a128 c129 q126.1.length cs131 :: hotC 67 4 a90 c91 q89.length cs94 :: vecC 23 1 a97 c98 q96.length cs101 :: pt b64 (.cells #[.slice a90 q89.length c91, .slice a97 q96.length c98] 33 (0, 0)) :: vecC 83 1 a55 c56 q53.1.length cs58 :: pt b51 (.cells #[.slice a82 q81.length c83, .slice a86 q85.length c87] 33 (0, 0)) :: R)) ?_ ?_
              · refine W.gen fun K165 hK165 => ?_
                refine W.region ?_
                refine WL.vS hS hE (runs_plain rfl) (Gives.p hE rfl) rfl ?_; clear hE a; intro a hE
                refine WL.vS hS hE (runs_plain rfl) (Gives.p hE rfl) rfl ?_; clear hE a; intro a hE
                rcases Bool.eq_false_or_eq_true q154 with hg166 | hg166
                · replace hq160 := iteT hg166 hq160
                  refine WL.vS hS hE (runs_if hE rfl rfl rfl hg166) (Gives.p hE rfl) rfl ?_; clear hE a; intro a hE
                  obtain ⟨q167, hq168, hq160⟩ := bindS hq160
                  have hc_ := StringsTrimPrefix_ok hS  hq168
                  refine WL.fnq hE (hc_) (runs_if hE rfl rfl rfl hg166) bd40 rfl rfl rfl ?_
                  clear hE hS hc_; rintro e w ⟨rfl, hS⟩; refine ⟨_, rfl, ?_⟩; clear a; intro a hE
                  refine WL.vS hS hE (runs_if hE rfl rfl rfl hg166) (Gives.lenS hE rfl st9) rfl ?_; clear hE a; intro a hE
                  refine WL.vS hS hE (runs_if hE rfl rfl rfl hg166) (Gives.p hE rfl) rfl ?_; clear hE a; intro a hE
                  refine WL.vS hS hE (runs_plain rfl) (Gives.pickT hE rfl hg166 rfl) rfl ?_; clear hE a; intro a hE
                  refine WL.vS hS hE (runs_plain rfl) (Gives.p hE rfl) rfl ?_; clear hE a; intro a hE
                  refine WL.nil ?_
                  subst hK165
                  exact ⟨decide (((q167.size : Nat) : Int) ≤ 6), Option.some.inj hq160, hE.pick _ ⟨rfl, rfl, rfl, rfl, rfl, rfl, rfl, rfl, rfl, rfl, rfl, rfl, trivial⟩, hS⟩
                · replace hq160 := iteF hg166 hq160
                  refine WL.no hE (runs_not hE rfl rfl rfl (by rw [hg166]; decide)) rfl ?_; clear hE a; intro a hE
                  refine WL.no hE (runs_not hE rfl rfl rfl (by rw [hg166]; decide)) rfl ?_; clear hE a; intro a hE
                  refine WL.no hE (runs_not hE rfl rfl rfl (by rw [hg166]; decide)) rfl ?_; clear hE a; intro a hE
                  refine WL.no hE (runs_not hE rfl rfl rfl (by rw [hg166]; decide)) rfl ?_; clear hE a; intro a hE
                  refine WL.vS hS hE (runs_plain rfl) (Gives.pickF hE rfl hg166 rfl) rfl ?_; clear hE a; intro a hE
                  refine WL.vS hS hE (runs_plain rfl) (Gives.p hE rfl) rfl ?_; clear hE a; intro a hE
                  refine WL.nil ?_
                  subst hK165
                  exact ⟨false, Option.some.inj hq160, hE.pick _ ⟨rfl, rfl, rfl, rfl, rfl, rfl, rfl, rfl, rfl, rfl, rfl, rfl, trivial⟩, hS⟩
              · clear hE hS a w; rintro a w ⟨q164, rfl, hE, hS⟩
                refine W.region ?_
                refine WL.vS hS hE (runs_plain rfl) (Gives.inc hE rfl (by have := h139.small; omega)) rfl ?_; clear hE a; intro a hE
                refine WL.vS hS hE (runs_plain rfl) (Gives.p hE rfl) rfl ?_; clear hE a; intro a hE
                refine WL.nil ?_
                subst hK155
                exact ⟨rest147.length, Nat.lt_succ_self _, rest147, k145 + 1, q164, rfl, hd148, hq143, hE.pick _ ⟨rfl, rfl, rfl, rfl, rfl, rfl, rfl, rfl, rfl, rfl, rfl, rfl, trivial⟩, hS⟩
          · clear hE hS a w; rintro a w ⟨q154, rfl, hE, hS⟩
            refine W.seq ?_
            refine W.seq ?_
            refine W.region ?_
            refine WL.vS hS hE (runs_plain rfl) (Gives.p hE rfl) rfl ?_; clear hE a; intro a hE
            refine WL.vS hS hE (runs_plain rfl) (Gives.p hE rfl) rfl ?_; clear hE a; intro a hE
            refine WL.nil ?_
            refine W.cond hE rfl (fun hc169 => ?_) (fun hc169 => ?_)
            · replace hq68 := iteT hc169 hq68
              refine W.seq ?_
              refine W.region ?_
              refine WL.vS hS hE (runs_plain rfl) (Gives.build hE (vs := []) [.slice none 0 0, .slice none 0 0] rfl (by kernel_rfl)) rfl ?_; clear hE a; intro a hE
              refine WL.storeI hE hS 5 rfl [.slice none 0 0, .slice none 0 0] (runs_plain rfl) rfl rfl rfl ty33 rfl rfl rfl rfl ?_; clear hE hS a w; intro a w hE hS
              refine WL.vS hS hE (runs_plain rfl) (Gives.p hE rfl) rfl ?_; clear hE a; intro a hE
              refine WL.nil ?_
              refine W.ret ?_
              subst hK103
              rw [← Option.some.inj hq68] at hr
              dsimp only at hr
              refine finG (fn := Tryd.f14) (rs := [.cell 2 33, .tmp 3]) (vs := [_, _]) hE rfl ⟨⟨_, rfl, .inl ⟨_, rfl, hS.seesAt 5 rfl, ty33⟩⟩, rfl, trivial⟩ ?_
              obtain rfl := Option.some.inj hr
              replace hS := hS.tail
              replace hS := hS.tail
              replace hS := hS.tail
              replace hS := hS.tail
              replace hS := hS.tail
              replace hS := hS.tail
              exact ⟨_, s77, rfl, (Sg.Le.trans hle62 hle78), ⟨_, _, _, _, rfl, Sl.nil, Sl.nil⟩, hS⟩
            · replace hq68 := iteF hc169 hq68
              refine W.skip ?_
              refine W.seq ?_
              refine W.region ?_
              refine WL.vS hS hE (runs_plain rfl) (Gives.p hE rfl) rfl ?_; clear hE a; intro a hE
              obtain ⟨x170, hx171, hq68⟩ := bindS hq68
              obtain ⟨hi172, hlt173, hy174⟩ := gx_some hx171
              obtain ⟨cs175, hl176, hR177, hat178⟩ := h116.at hy174
              subst hR177
              refine WL.vS hS hE (runs_plain rfl) (Gives.idx hE ((0 : Int)).toNat rfl rfl sl83 hi172 hlt173 (h116.aok hlt173)) rfl ?_; clear hE a; intro a hE
              refine WL.vS hS hE (runs_plain rfl) (Gives.load1 hE rfl (fun w h => hat178 w _ h) ty9) rfl ?_; clear hE a; intro a hE
              refine WL.vS hS hE (runs_plain rfl) (Gives.p hE rfl) rfl ?_; clear hE a; intro a hE
              refine WL.vS hS hE (runs_plain rfl) (Gives.p hE rfl) rfl ?_; clear hE a; intro a hE
              have hF := hS.fixD RI.mono 0 rfl h132 rfl; clear hS; obtain ⟨s179, hle180, hS, h181⟩ := hF
              replace h116 := Sl.mono RS.mono hle180 h116
              replace h92 := HEv.mono HtApiTrain.mono hle180 h92
              replace h99 := Ev.mono (RL.mono RI.mono) hle180 h99
              replace h59 := Ev.mono (RL.mono RS.mono) hle180 h59
              replace h84 := Sl.mono RApiTrain.mono hle180 h84
              replace h88 := Sl.mono (RL.mono RI.mono) hle180 h88
              obtain ⟨q182, hq183, hq68⟩ := bindS hq68
              replace hS := hS.front 1 rfl
              replace hS := hS.front 1 rfl
              replace hS := hS.front 2 rfl
              have hc_ := Planadd_v1_ok (y0 := (ApiDay.mk q89 q96)) hS h181 h92 rfl h99 rfl hq183
              refine WL.fnq hE (hc_) (runs_plain rfl) bd41 rfl rfl rfl ?_
              clear hE hS hc_; rintro e w ⟨a184, c185, n186, cs187, a189, c190, n191, cs192, rfl, h188, rfl, h193, rfl, hS⟩; refine ⟨_, rfl, ?_⟩; clear a; intro a hE
              refine WL.vS hS hE (runs_plain rfl) (Gives.p hE rfl) rfl ?_; clear hE a; intro a hE
              refine WL.vS hS hE (runs_plain rfl) (Gives.p hE rfl) rfl ?_; clear hE a; intro a hE
              refine WL.vS hS hE (runs_plain rfl) (Gives.p hE rfl) rfl ?_; clear hE a; intro a hE
              refine WL.vS hS hE (runs_plain rfl) (Gives.p hE rfl) rfl ?_; clear hE a; intro a hE
              refine WL.vS hS hE (runs_plain rfl) (Gives.p hE rfl) rfl ?_; clear hE a; intro a hE
              refine WL.nil ?_
              refine W.seq ?_
              refine W.region ?_
              refine WL.vS hS hE (runs_plain rfl) (Gives.p hE rfl) rfl ?_; clear hE a; intro a hE
              refine WL.vS hS hE (runs_plain rfl) (Gives.p hE rfl) rfl ?_; clear hE a; intro a hE
              refine WL.nil ?_
              refine W.cond hE rfl (fun hc194 => ?_) (fun hc194 => ?_)
              · replace hq68 := iteT hc194 hq68
                refine W.seq ?_
                refine W.region ?_
                refine WL.vS hS hE (runs_plain rfl) (Gives.build hE (vs := []) [.slice none 0 0, .slice none 0 0] rfl (by kernel_rfl)) rfl ?_; clear hE a; intro a hE
                refine WL.storeI hE hS 4 rfl [.slice none 0 0, .slice none 0 0] (runs_plain rfl) rfl rfl rfl ty33 rfl rfl rfl rfl ?_; clear hE hS a w; intro a w hE hS
                refine WL.vS hS hE (runs_plain rfl) (Gives.p hE rfl) rfl ?_; clear hE a; intro a hE
                refine WL.nil ?_
                refine W.ret ?_
                subst hK103
                rw [← Option.some.inj hq68] at hr
                dsimp only at hr
                refine finG (fn := Tryd.f14) (rs := [.cell 2 33, .tmp 3]) (vs := [_, _]) hE rfl ⟨⟨_, rfl, .inl ⟨_, rfl, hS.seesAt 4 rfl, ty33⟩⟩, rfl, trivial⟩ ?_
                obtain rfl := Option.some.inj hr
                replace hS := hS.tail
                replace hS := hS.tail
                replace hS := hS.tail
                replace hS := hS.tail
                replace hS := hS.tail
                exact ⟨_, s179, rfl, (Sg.Le.trans (Sg.Le.trans hle62 hle78) hle180), ⟨_, _, _, _, rfl, Sl.nil, Sl.nil⟩, hS⟩
              · replace hq68 := iteF hc194 hq68
                refine W.skip ?_
                refine W.region ?_
                refine WL.vS hS hE (runs_plain rfl) (Gives.inc hE rfl (by omega)) rfl ?_; clear hE a; intro a hE
                refine WL.vS hS hE (runs_plain rfl) (Gives.p hE rfl) rfl ?_; clear hE a; intro a hE
                refine WL.nil ?_
                replace hS := hS.front 4 rfl
                replace hS := hS.front 4 rfl
                replace hS := hS.front 2 rfl
                replace hS := hS.front 4 rfl
                replace hS := hS.front 4 rfl
                subst hK103
                exact ⟨rest72, Nat.lt_succ_self _, rest72, k70 + 1, q182.1, q81, q85, q182.2.2.1, q182.2.2.2, a82, c83, a86, c87, a184, c185, q182.2.2.1.length, cs187, a189, c190, q182.2.2.2.length, cs192, s179, rfl, (by omega), (Sg.Le.trans hle78 hle180), hq68, h84, h88, h188, rfl, h193, rfl, hE.pick _ ⟨rfl, rfl, rfl, rfl, rfl, rfl, trivial⟩, hS⟩
      · clear hE hS a w; rintro a w ⟨q80, q81, q85, q89, q96, a82, c83, a86, c87, a90, c91, n93, cs94, a97, c98, n100, cs101, s77, hle78, rfl, h84, h88, h92, rfl, h99, rfl, hE, hS⟩
        dsimp only at hr
        replace h66 := HEv.mono HtApiTrain.mono hle78 h66
        replace h59 := Ev.mono (RL.mono RS.mono) hle78 h59
        refine W.seq ?_
        refine W.seq ?_
        refine W.region ?_
        refine WL.vS hS hE (runs_plain rfl) (Gives.loadBA hE 2 rfl rfl ty33) rfl ?_; clear hE a; intro a hE
        have hF := St.fixH HtApiTrain.mono RApiTrain.mono HtApiTrain.calms 0 hS rfl h92 rfl; clear hS; obtain ⟨s198, hle199, hS, h200⟩ := hF
        replace h99 := Ev.mono (RL.mono RI.mono) hle199 h99
        replace h59 := Ev.mono (RL.mono RS.mono) hle199 h59
        replace h84 := Sl.mono RApiTrain.mono hle199 h84
        replace h88 := Sl.mono (RL.mono RI.mono) hle199 h88
        obtain ⟨q201, hq202, hr⟩ := bindS hr
        have hF := hS.lendV (RL.mono RI.mono) 0 rfl h99 rfl; clear hS; obtain ⟨t203, hle204, hS, hs205, bk206⟩ := hF
        have hc_ := PlanText_ok hS (TabG.mono hle204 (TabG.mono (Sg.Le.trans (Sg.Le.trans hle62 hle78) hle199) hTab)) (Sl.mono RApiTrain.mono hle204 h200) hs205 hq202
        refine WL.fnq hE (hc_) (runs_plain rfl) bd12 rfl rfl rfl ?_
        clear hE hS hc_; rintro e w ⟨rfl, hS⟩; refine ⟨_, rfl, ?_⟩; clear a; intro a hE
        replace hS := bk206 _ _ hS
        refine WL.vS hS hE (runs_plain rfl) (Gives.p hE rfl) rfl ?_; clear hE a; intro a hE
        refine WL.vS hS hE (runs_plain rfl) (Gives.p hE rfl) rfl ?_; clear hE a; intro a hE
        refine WL.vS hS hE (runs_plain rfl) (Gives.p hE rfl) rfl ?_; clear hE a; intro a hE
        refine WL.vS hS hE (runs_plain rfl) (Gives.p hE rfl) rfl ?_; clear hE a; intro a hE
        refine WL.vS hS hE (runs_plain rfl) (Gives.p hE rfl) rfl ?_; clear hE a; intro a hE
        refine WL.nil ?_
        refine W.seq ?_
        refine W.region ?_
        refine WL.vS hS hE (runs_plain rfl) (Gives.p hE rfl) rfl ?_; clear hE a; intro a hE
        refine WL.vS hS hE (runs_plain rfl) (Gives.p hE rfl) rfl ?_; clear hE a; intro a hE
        refine WL.nil ?_
        refine W.cond hE rfl (fun hc207 => ?_) (fun hc207 => ?_)
        · replace hr := iteT hc207 hr
          refine W.seq ?_
          refine W.region ?_
          refine WL.vS hS hE (runs_plain rfl) (Gives.build hE (vs := []) [.slice none 0 0, .slice none 0 0] rfl (by kernel_rfl)) rfl ?_; clear hE a; intro a hE
          refine WL.vS hS hE (runs_plain rfl) (Gives.p hE rfl) rfl ?_; clear hE a; intro a hE
          refine WL.storeI hE hS 3 rfl [.slice none 0 0, .slice none 0 0] (runs_plain rfl) rfl rfl rfl ty33 rfl rfl rfl rfl ?_; clear hE hS a w; intro a w hE hS
          refine WL.vS hS hE (runs_plain rfl) (Gives.p hE rfl) rfl ?_; clear hE a; intro a hE
          refine WL.nil ?_
          refine W.ret ?_
          refine finG (fn := Tryd.f14) (rs := [.cell 2 33, .tmp 3]) (vs := [_, _]) hE rfl ⟨⟨_, rfl, .inl ⟨_, rfl, hS.seesAt 3 rfl, ty33⟩⟩, rfl, trivial⟩ ?_
          obtain rfl := Option.some.inj hr
          replace hS := hS.tail
          replace hS := hS.tail
          replace hS := hS.tail
          replace hS := hS.tail
          exact ⟨_, s198, rfl, (Sg.Le.trans (Sg.Le.trans hle62 hle78) hle199), ⟨_, _, _, _, rfl, Sl.nil, Sl.nil⟩, hS⟩
        · replace hr := iteF hc207 hr
          refine W.skip ?_
          refine W.seq ?_
          refine W.region ?_
          refine WL.vS hS hE (runs_plain rfl) (Gives.loadBA hE 1 rfl rfl ty33) rfl ?_; clear hE a; intro a hE
          refine WL.storeI hE hS 3 rfl [.slice a90 q89.length c91, .slice a97 q96.length c98] (runs_plain rfl) rfl rfl rfl ty33 rfl rfl rfl rfl ?_; clear hE hS a w; intro a w hE hS
          refine WL.vS hS hE (runs_plain rfl) (Gives.p hE rfl) rfl ?_; clear hE a; intro a hE
          refine WL.nil ?_
          refine W.ret ?_
          have hF := hS.fixD (RL.mono RI.mono) 0 rfl h99 rfl; clear hS; obtain ⟨s208, hle209, hS, h210⟩ := hF
          replace h200 := Sl.mono RApiTrain.mono hle209 h200
          replace h59 := Ev.mono (RL.mono RS.mono) hle209 h59
          refine finG (fn := Tryd.f14) (rs := [.cell 2 33, .tmp 3]) (vs := [_, _]) hE rfl ⟨⟨_, rfl, .inl ⟨_, rfl, hS.seesAt 2 rfl, ty33⟩⟩, rfl, trivial⟩ ?_
          obtain rfl := Option.some.inj hr
          replace hS := hS.tail
          replace hS := hS.tail
          replace hS := hS.tail
          exact ⟨_, s208, rfl, (Sg.Le.trans (Sg.Le.trans (Sg.Le.trans hle62 hle78) hle199) hle209), ⟨_, _, _, _, rfl, h200, h210⟩, hS⟩
set_option maxHeartbeats 8000000 in
theorem Fishref2DayText_1_v1_ok  {w : World} {s : Sg} {R : List HP} {pb0 : Nat} {x0 : ByteArray} {x1 : List Int} {a1 : Option Addr} {c1 : Nat} {y0 : ByteArray} (hS : St w s (pt pb0 (.cells #[.string y0] 9 (0, 0)) :: R)) (hTab : TabX s) (h1 : Sl 1 (RI .i64) s a1 c1 x1) {r : ByteArray} (hr : Fishref2DayText_1_v1 x0 x1 y0 = some r) :
    Calls Tryd.prog 42 [.string x0, .slice a1 x1.length c1, .pointer (some ⟨pb0, 0, none⟩)].toArray w (fun e w => e = .returned (.tuple #[]) ∧ St w s (pt pb0 (.cells #[.string r] 9 (0, 0)) :: R)) := by
  refine enter Tryd.func42 rfl rfl rfl fun a hE => ?_
  rw [Fishref2DayText_1_v1] at hr
  refine W.seq ?_
  refine W.region ?_
  refine WL.vS hS hE (runs_plain rfl) (Gives.loadB hE 0 rfl rfl rfl ty9) rfl ?_; clear hE a; intro a hE
  refine WL.vS hS hE (runs_plain rfl) (Gives.p hE rfl) rfl ?_; clear hE a; intro a hE
  obtain ⟨x52, hx53, hr⟩ := bindS hr
  refine WL.vS hS hE (runs_plain rfl) (Gives.catS hE rfl rfl hx53) rfl ?_; clear hE a; intro a hE
  refine WL.storeI hE hS 0 rfl [.string x52] (runs_plain rfl) rfl rfl rfl ty9 rfl rfl rfl rfl ?_; clear hE hS a w; intro a w hE hS
  refine WL.nil ?_
  refine W.seq ?_
  refine W.seq ?_
  refine W.region ?_
  refine WL.vS hS hE (runs_plain rfl) (Gives.p hE rfl) rfl ?_; clear hE a; intro a hE
  refine WL.vS hS hE (runs_plain rfl) (Gives.len hE rfl sl23) rfl ?_; clear hE a; intro a hE
  refine WL.vS hS hE (runs_plain rfl) (Gives.p hE rfl) rfl ?_; clear hE a; intro a hE
  refine WL.nil ?_
  obtain ⟨q55, hq54, hr⟩ := bindS hr
  refine W.cut (fun a w => ∃ (q65 : ByteArray), q65 = q55 ∧ Rep a 24 [(2, .pointer (some ⟨pb0, 0, none⟩))] ∧ St w s (pt pb0 (.cells #[.string q65] 9 (0, 0)) :: R)) ?_ ?_
  · refine W.block ?_
    refine W.loop (fun m a w => ∃ (rest58 : List Int) (k56 : Nat), ∃ (q65 : ByteArray), rest58.length = m ∧ x1.drop k56 = rest58 ∧ Fishref2DayText_1_v1.loop1 rest58 q65 = some q55 ∧ Rep a 24 [(2, .pointer (some ⟨pb0, 0, none⟩)), (10, .slice a1 x1.length c1), (11, .int .i64 ((x1).length : Int)), (12, .int .i64 ((k56 : Nat) : Int))] ∧ St w s (pt pb0 (.cells #[.string q65] 9 (0, 0)) :: R)) (m := x1.length) ⟨x1, 0, x52, rfl, rfl, hq54, hE.pick _ ⟨rfl, rfl, rfl, rfl, trivial⟩, hS⟩ ?_
    clear hE hS a w hq54; rintro m62 a w ⟨rest58, k56, q65, rfl, hd59, hq54, hE, hS⟩
    refine W.gen fun K66 hK66 => ?_
    rcases rest58 with _ | ⟨x57, rest58⟩
    · have hlt60 := drop_nil hd59
      refine W.seq ?_
      refine W.region ?_
      refine WL.vS hS hE (runs_plain rfl) (Gives.p hE rfl) rfl ?_; clear hE a; intro a hE
      refine WL.nil ?_
      refine W.seq ?_
      refine W.condF hE rfl (decide_eq_false (by omega)) ?_
      subst hK66
      refine W.exit rfl ?_
      exact ⟨q65, Option.some.inj hq54, hE.pick _ ⟨rfl, trivial⟩, hS⟩
    · obtain ⟨hlt60, hx61, hd59⟩ := drop_cons hd59
      rw [Fishref2DayText_1_v1.loop1] at hq54
      refine W.seq ?_
      refine W.region ?_
      refine WL.vS hS hE (runs_plain rfl) (Gives.p hE rfl) rfl ?_; clear hE a; intro a hE
      refine WL.nil ?_
      refine W.seq ?_
      refine W.condT hE rfl (decide_eq_true (by omega)) ?_
      refine W.skip ?_
      refine W.seq ?_
      refine W.block ?_
      refine W.seq ?_
      refine W.region ?_
      obtain ⟨cs67, hl68, hR69, hat70⟩ := h1.at hx61
      subst hR69
      refine WL.vS hS hE (runs_plain rfl) (Gives.idx hE k56 rfl rfl sl23 rfl hlt60 (h1.aok hlt60)) rfl ?_; clear hE a; intro a hE
      refine WL.vS hS hE (runs_plain rfl) (Gives.load1 hE rfl (fun w h => hat70 w _ h) ty3) rfl ?_; clear hE a; intro a hE
      refine WL.vS hS hE (runs_plain rfl) (Gives.p hE rfl) rfl ?_; clear hE a; intro a hE
      refine WL.nil ?_
      refine W.gen fun K71 hK71 => ?_
      refine W.regionE (sel (fun w => St w s (pt pb0 (.cells #[.string q65] 9 (0, 0)) :: R)) (fun w => St w s (R))) (fun b i => cond b ([0, 1, 2, 3, 4].contains i) ([0, 1, 2, 3, 4, 5].contains i)) mixed ?_
      replace hS := hS.drew
      have hT := tw_sel (A := fun w => St w s (pt pb0 (.cells #[.string q65] 9 (0, 0)) :: R)) (B := fun w => St w s (R)) (w := _) (x := true) (y := true) (fun _ => hS) (fun _ => (hS.tail))
      have hF := hS; replace hS := hS
      refine Rg.take (i := 0) true rfl hE rfl (by kernel_rfl) (runs_plain rfl) (Gives.loadB hE 0 rfl rfl rfl ty9) rfl hT ?_; clear hE a; intro a hE
      replace hS := hF; clear hF hT
      refine Rg.takeP (i := 1) hE rfl (by kernel_rfl) (runs_plain rfl) (Gives.p hE rfl) rfl (tw_sel (fun _ => hS) (fun _ => (hS.tail))) ?_; clear hE a; intro a hE
      refine Rg.one (i := 2) true true rfl (by kernel_rfl) (by kernel_rfl) (by kernel_rfl) ?_
      obtain ⟨q72, hq73, hq54⟩ := bindS hq54
      refine WL.fnq hE (itoa_ok hS (TabG.mono (Sg.Le.refl _) hTab).tab hq73) (runs_plain rfl) bd43 rfl rfl rfl ?_
      clear hE hS; rintro e w ⟨rfl, hS⟩; refine ⟨_, rfl, ?_⟩; clear a; intro a hE
      refine WL.nil ?_
      refine ⟨⟨fun _ => hS, fun _ => (hS.tail)⟩, ?_⟩
      obtain ⟨x74, hx75, hq54⟩ := bindS hq54
      refine Rg.takeP (i := 3) hE rfl (by kernel_rfl) (runs_plain rfl) (Gives.catS hE rfl rfl hx75) rfl (tw_sel (fun _ => hS) (fun _ => (hS.tail))) ?_; clear hE a; intro a hE
      obtain ⟨x76, hx77, hq54⟩ := bindS hq54
      refine Rg.takeP (i := 4) hE rfl (by kernel_rfl) (runs_plain rfl) (Gives.catS hE rfl rfl hx77) rfl (tw_sel (fun _ => hS) (fun _ => (hS.tail))) ?_; clear hE a; intro a hE
      refine Rg.one (i := 5) false true rfl (by kernel_rfl) (by kernel_rfl) (by kernel_rfl) ?_
      refine WL.storeI hE hS 0 rfl [.string x76] (runs_plain rfl) rfl rfl rfl ty9 rfl rfl rfl rfl ?_; clear hE hS a w; intro a w hE hS
      refine WL.nil ?_
      refine ⟨⟨fun h => absurd h (by decide), fun _ => (hS.tail)⟩, ?_⟩
      refine Rg.done (by kernel_rfl) ?_
      subst hK71
      refine W.region ?_
      refine WL.vS hS hE (runs_plain rfl) (Gives.inc hE rfl (by have := h1.small; omega)) rfl ?_; clear hE a; intro a hE
      refine WL.vS hS hE (runs_plain rfl) (Gives.p hE rfl) rfl ?_; clear hE a; intro a hE
      refine WL.nil ?_
      subst hK66
      exact ⟨rest58.length, Nat.lt_succ_self _, rest58, k56 + 1, x76, rfl, hd59, hq54, hE.pick _ ⟨rfl, rfl, rfl, rfl, trivial⟩, hS⟩
  · clear hE hS a w; rintro a w ⟨q65, rfl, hE, hS⟩
    refine W.region ?_
    refine WL.vS hS hE (runs_plain rfl) (Gives.loadB hE 0 rfl rfl rfl ty9) rfl ?_; clear hE a; intro a hE
    obtain ⟨x78, hx79, hr⟩ := bindS hr
    refine WL.vS hS hE (runs_plain rfl) (Gives.catS hE rfl rfl hx79) rfl ?_; clear hE a; intro a hE
    refine WL.storeI hE hS 0 rfl [.string x78] (runs_plain rfl) rfl rfl rfl ty9 rfl rfl rfl rfl ?_; clear hE hS a w; intro a w hE hS
    refine WL.nil ?_
    refine finG (fn := Tryd.f42) (rs := []) (vs := []) hE rfl trivial ?_
    obtain rfl := Option.some.inj hr
    exact ⟨rfl, hS⟩
set_option maxHeartbeats 8000000 in
theorem Fishref2DayText_ok  {w : World} {s : Sg} {R : List HP} {x0 : ApiDay} {a0_0 : Option Addr} {c0_0 : Nat} {a0_1 : Option Addr} {c0_1 : Nat} (hS : St w s (R)) (hTab : TabX s) (h0_0 : Sl 4 RApiTrain s a0_0 c0_0 x0.Trains) (h0_1 : Sl 1 (RL 1 (RI .i64)) s a0_1 c0_1 x0.Turns) {r : ByteArray} (hr : Fishref2DayText x0 = some r) :
    Calls Tryd.prog 15 [.agg (List.toArray [.slice a0_0 x0.Trains.length c0_0, .slice a0_1 x0.Turns.length c0_1])].toArray w (fun e w => e = .returned (.string r) ∧ St w s (R)) := by
  refine enter Tryd.func15 rfl rfl rfl fun a hE => ?_
  rw [Fishref2DayText] at hr
  refine W.seq ?_
  refine W.region ?_
  refine WL.box hE hS (runs_plain rfl) rfl rfl rfl ?_; clear hE hS a w; intro b51 a w hE hS
  refine WL.vS hS hE (runs_plain rfl) (Gives.p hE rfl) rfl ?_; clear hE a; intro a hE
  refine WL.nil ?_
  refine W.seq ?_
  refine W.region ?_
  refine WL.alloc hE hS (runs_plain rfl) zr9 rfl ?_; clear hE hS a w; intro b52 a w hE hS
  refine WL.storeI hE hS 0 rfl [.string (str [])] (runs_plain rfl) rfl rfl rfl ty9 rfl rfl rfl rfl ?_; clear hE hS a w; intro a w hE hS
  refine WL.nil ?_
  refine W.seq ?_
  refine W.region ?_
  refine WL.vS hS hE (runs_plain rfl) (Gives.mkfn hE (vs := [.pointer (some ⟨b52, 0, none⟩)]) rfl) rfl ?_; clear hE a; intro a hE
  refine WL.vS hS hE (runs_plain rfl) (Gives.p hE rfl) rfl ?_; clear hE a; intro a hE
  refine WL.nil ?_
  refine W.seq ?_
  refine W.seq ?_
  refine W.region ?_
  refine WL.vS hS hE (runs_plain rfl) (Gives.fld hE rfl fl33_0) rfl ?_; clear hE a; intro a hE
  refine WL.vS hS hE (runs_plain rfl) (Gives.loadB hE 1 rfl rfl rfl ty30) rfl ?_; clear hE a; intro a hE
  refine WL.vS hS hE (runs_plain rfl) (Gives.len hE rfl sl30) rfl ?_; clear hE a; intro a hE
  refine WL.vS hS hE (runs_plain rfl) (Gives.p hE rfl) rfl ?_; clear hE a; intro a hE
  refine WL.nil ?_
  obtain ⟨q54, hq53, hr⟩ := bindS hr
  refine W.cut (fun a w => ∃ (q64 : ByteArray), ∃ (s62 : Sg), s.Le s62 ∧ q64 = q54 ∧ Rep a 71 [(1, .pointer (some ⟨b51, 0, none⟩)), (3, .pointer (some ⟨b52, 0, none⟩)), (4, .func (.func 42) #[] #[.pointer (some ⟨b52, 0, none⟩)])] ∧ St w s62 (pt b52 (.cells #[.string q64] 9 (0, 0)) :: pt b51 (.cells #[.slice a0_0 x0.Trains.length c0_0, .slice a0_1 x0.Turns.length c0_1] 33 (0, 0)) :: R)) ?_ ?_
  · refine W.block ?_
    refine W.loop (fun m a w => ∃ (rest57 : List ApiTrain) (k55 : Nat), ∃ (q64 : ByteArray), ∃ (s62 : Sg), rest57.length = m ∧ x0.Trains.drop k55 = rest57 ∧ s.Le s62 ∧ Fishref2DayText.loop1 rest57 q64 = some q54 ∧ Rep a 71 [(1, .pointer (some ⟨b51, 0, none⟩)), (3, .pointer (some ⟨b52, 0, none⟩)), (4, .func (.func 42) #[] #[.pointer (some ⟨b52, 0, none⟩)]), (15, .slice a0_0 x0.Trains.length c0_0), (16, .int .i64 ((x0.Trains).length : Int)), (17, .int .i64 ((k55 : Nat) : Int))] ∧ St w s62 (pt b52 (.cells #[.string q64] 9 (0, 0)) :: pt b51 (.cells #[.slice a0_0 x0.Trains.length c0_0, .slice a0_1 x0.Turns.length c0_1] 33 (0, 0)) :: R)) (m := x0.Trains.length) ⟨x0.Trains, 0, (str []), s, rfl, rfl, (Sg.Le.refl _), hq53, hE.pick _ ⟨rfl, rfl, rfl, rfl, rfl, rfl, trivial⟩, hS⟩ ?_
    clear hE hS a w hq53; rintro m61 a w ⟨rest57, k55, q64, s62, rfl, hd58, hle63, hq53, hE, hS⟩
    refine W.gen fun K65 hK65 => ?_
    replace h0_0 := Sl.mono RApiTrain.mono hle63 h0_0
    replace h0_1 := Sl.mono (RL.mono RI.mono) hle63 h0_1
    rcases rest57 with _ | ⟨x56, rest57⟩
    · have hlt59 := drop_nil hd58
      refine W.seq ?_
      refine W.region ?_
      refine WL.vS hS hE (runs_plain rfl) (Gives.p hE rfl) rfl ?_; clear hE a; intro a hE
      refine WL.nil ?_
      refine W.seq ?_
      refine W.condF hE rfl (decide_eq_false (by omega)) ?_
      subst hK65
      refine W.exit rfl ?_
      exact ⟨q64, s62, hle63, Option.some.inj hq53, hE.pick _ ⟨rfl, rfl, rfl, trivial⟩, hS⟩
    · obtain ⟨hlt59, hx60, hd58⟩ := drop_cons hd58
      rw [Fishref2DayText.loop1] at hq53
      refine W.seq ?_
      refine W.region ?_
      refine WL.vS hS hE (runs_plain rfl) (Gives.p hE rfl) rfl ?_; clear hE a; intro a hE
      refine WL.nil ?_
      refine W.seq ?_
      refine W.condT hE rfl (decide_eq_true (by omega)) ?_
      refine W.skip ?_
      refine W.seq ?_
      refine W.block ?_
      refine W.seq ?_
      refine W.region ?_
      obtain ⟨cs66, hl67, hR68, hat69⟩ := h0_0.at hx60
      obtain ⟨a70, c71, a73, c74, rfl, h72, h75⟩ := hR68
      refine WL.vS hS hE (runs_plain rfl) (Gives.idx hE k55 rfl rfl sl30 rfl hlt59 (h0_0.aok hlt59)) rfl ?_; clear hE a; intro a hE
      refine WL.vS hS hE (runs_plain rfl) (Gives.loadA hE rfl (fun w h => hat69 w _ h) ty67) rfl ?_; clear hE a; intro a hE
      refine WL.alloc hE hS (runs_plain rfl) zr67 rfl ?_; clear hE hS a w; intro b76 a w hE hS
      refine WL.storeI hE hS 0 rfl [.int .i64 x56.No, .int .i64 x56.Stock, .slice a70 x56.Stops.length c71, .slice a73 x56.Legs.length c74] (runs_plain rfl) rfl rfl rfl ty67 rfl rfl rfl rfl ?_; clear hE hS a w; intro a w hE hS
      refine WL.nil ?_
      refine W.seq ?_
      refine W.region ?_
      refine WL.vS hS hE (runs_plain rfl) (Gives.p hE rfl) rfl ?_; clear hE a; intro a hE
      refine WL.vS hS hE (runs_plain rfl) (Gives.fld hE rfl fl67_0) rfl ?_; clear hE a; intro a hE
      refine WL.vS hS hE (runs_plain rfl) (Gives.loadB hE 0 rfl rfl rfl ty3) rfl ?_; clear hE a; intro a hE
      refine WL.vS hS hE (runs_plain rfl) (Gives.fld hE rfl fl67_1) rfl ?_; clear hE a; intro a hE
      refine WL.vS hS hE (runs_plain rfl) (Gives.loadB hE 0 rfl rfl rfl ty3) rfl ?_; clear hE a; intro a hE
      refine WL.lit hE hS (e := 3) (es := 1) (vs := [(0, .int .i64 x56.No), (1, .int .i64 x56.Stock)]) (cs := [.int .i64 x56.No, .int .i64 x56.Stock]) (runs_plain rfl) rfl (by kernel_rfl) rfl ?_; clear hE hS a w; intro b77 a w hE hS
      replace hS := hS.ptVec (es := 1) (m := 2) rfl (by decide)
      have h79 : Ev 1 (RI .i64) s62 [.int .i64 x56.No, .int .i64 x56.Stock] [x56.No, x56.Stock] := (Ev.cons (c1 := [.int .i64 x56.No]) rfl rfl (Ev.cons (c1 := [.int .i64 x56.Stock]) rfl rfl (Ev.nil)))
      have hF := hS.fixD RI.mono 0 rfl h79 (rfl); clear hS; obtain ⟨s80, hle81, hS, h82⟩ := hF
      replace h0_0 := Sl.mono RApiTrain.mono hle81 h0_0
      replace h72 := Sl.mono RApiStop.mono hle81 h72
      replace h75 := Sl.mono (RL.mono RI.mono) hle81 h75
      replace h0_1 := Sl.mono (RL.mono RI.mono) hle81 h0_1
      obtain ⟨q83, hq84, hq53⟩ := bindS hq53
      replace hS := hS.front 1 rfl
      have hc_ := Fishref2DayText_1_v1_ok hS (TabG.mono (Sg.Le.trans hle63 hle81) hTab) h82 hq84
      refine WL.fnw hE (hc_) rfl (runs_plain rfl) bd42 rfl rfl rfl ?_
      clear hE hS hc_; rintro e w ⟨rfl, hS⟩; refine ⟨_, rfl, ?_⟩; clear a; intro a hE
      refine WL.nil ?_
      refine W.seq ?_
      refine W.seq ?_
      refine W.region ?_
      refine WL.vS hS hE (runs_plain rfl) (Gives.fld hE rfl fl67_2) rfl ?_; clear hE a; intro a hE
      refine WL.vS hS hE (runs_plain rfl) (Gives.loadB hE 1 rfl rfl rfl ty65) rfl ?_; clear hE a; intro a hE
      refine WL.vS hS hE (runs_plain rfl) (Gives.len hE rfl sl65) rfl ?_; clear hE a; intro a hE
      refine WL.vS hS hE (runs_plain rfl) (Gives.p hE rfl) rfl ?_; clear hE a; intro a hE
      refine WL.nil ?_
      obtain ⟨q86, hq85, hq53⟩ := bindS hq53
      refine W.cut (fun a w => ∃ (q96 : ByteArray), ∃ (s94 : Sg), s80.Le s94 ∧ q96 = q86 ∧ Rep a 71 [(1, .pointer (some ⟨b51, 0, none⟩)), (3, .pointer (some ⟨b52, 0, none⟩)), (4, .func (.func 42) #[] #[.pointer (some ⟨b52, 0, none⟩)]), (6, .pointer (some ⟨b76, 0, none⟩)), (15, .slice a0_0 x0.Trains.length c0_0), (16, .int .i64 ((x0.Trains).length : Int)), (17, .int .i64 ((k55 : Nat) : Int))] ∧ St w s94 (pt b52 (.cells #[.string q96] 9 (0, 0)) :: pt b76 (.cells #[.int .i64 x56.No, .int .i64 x56.Stock, .slice a70 x56.Stops.length c71, .slice a73 x56.Legs.length c74] 67 (0, 0)) :: pt b51 (.cells #[.slice a0_0 x0.Trains.length c0_0, .slice a0_1 x0.Turns.length c0_1] 33 (0, 0)) :: R)) ?_ ?_
      · refine W.block ?_
        refine W.loop (fun m a w => ∃ (rest89 : List ApiStop) (k87 : Nat), ∃ (q96 : ByteArray), ∃ (s94 : Sg), rest89.length = m ∧ x56.Stops.drop k87 = rest89 ∧ s80.Le s94 ∧ Fishref2DayText.loop2 rest89 q96 = some q86 ∧ Rep a 71 [(1, .pointer (some ⟨b51, 0, none⟩)), (3, .pointer (some ⟨b52, 0, none⟩)), (4, .func (.func 42) #[] #[.pointer (some ⟨b52, 0, none⟩)]), (6, .pointer (some ⟨b76, 0, none⟩)), (15, .slice a0_0 x0.Trains.length c0_0), (16, .int .i64 ((x0.Trains).length : Int)), (17, .int .i64 ((k55 : Nat) : Int)), (29, .slice a70 x56.Stops.length c71), (30, .int .i64 ((x56.Stops).length : Int)), (31, .int .i64 ((k87 : Nat) : Int))] ∧ St w s94 (pt b52 (.cells #[.string q96] 9 (0, 0)) :: pt b76 (.cells #[.int .i64 x56.No, .int .i64 x56.Stock, .slice a70 x56.Stops.length c71, .slice a73 x56.Legs.length c74] 67 (0, 0)) :: pt b51 (.cells #[.slice a0_0 x0.Trains.length c0_0, .slice a0_1 x0.Turns.length c0_1] 33 (0, 0)) :: R)) (m := x56.Stops.length) ⟨x56.Stops, 0, q83, s80, rfl, rfl, (Sg.Le.refl _), hq85, hE.pick _ ⟨rfl, rfl, rfl, rfl, rfl, rfl, rfl, rfl, rfl, rfl, trivial⟩, hS⟩ ?_
        clear hE hS a w hq85; rintro m93 a w ⟨rest89, k87, q96, s94, rfl, hd90, hle95, hq85, hE, hS⟩
        refine W.gen fun K97 hK97 => ?_
        replace h0_0 := Sl.mono RApiTrain.mono hle95 h0_0
        replace h72 := Sl.mono RApiStop.mono hle95 h72
        replace h75 := Sl.mono (RL.mono RI.mono) hle95 h75
        replace h82 := Sl.mono RI.mono hle95 h82
        replace h0_1 := Sl.mono (RL.mono RI.mono) hle95 h0_1
        rcases rest89 with _ | ⟨x88, rest89⟩
        · have hlt91 := drop_nil hd90
          refine W.seq ?_
          refine W.region ?_
          refine WL.vS hS hE (runs_plain rfl) (Gives.p hE rfl) rfl ?_; clear hE a; intro a hE
          refine WL.nil ?_
          refine W.seq ?_
          refine W.condF hE rfl (decide_eq_false (by omega)) ?_
          subst hK97
          refine W.exit rfl ?_
          exact ⟨q96, s94, hle95, Option.some.inj hq85, hE.pick _ ⟨rfl, rfl, rfl, rfl, rfl, rfl, rfl, trivial⟩, hS⟩
        · obtain ⟨hlt91, hx92, hd90⟩ := drop_cons hd90
          rw [Fishref2DayText.loop2] at hq85
          refine W.seq ?_
          refine W.region ?_
          refine WL.vS hS hE (runs_plain rfl) (Gives.p hE rfl) rfl ?_; clear hE a; intro a hE
          refine WL.nil ?_
          refine W.seq ?_
          refine W.condT hE rfl (decide_eq_true (by omega)) ?_
          refine W.skip ?_
          refine W.seq ?_
          refine W.block ?_
          refine W.seq ?_
          refine W.region ?_
          obtain ⟨cs98, hl99, hR100, hat101⟩ := h72.at hx92
          subst hR100
          refine WL.vS hS hE (runs_plain rfl) (Gives.idx hE k87 rfl rfl sl65 rfl hlt91 (h72.aok hlt91)) rfl ?_; clear hE a; intro a hE
          refine WL.vS hS hE (runs_plain rfl) (Gives.loadA hE rfl (fun w h => hat101 w _ h) ty64) rfl ?_; clear hE a; intro a hE
          refine WL.alloc hE hS (runs_plain rfl) zr64 rfl ?_; clear hE hS a w; intro b102 a w hE hS
          refine WL.storeI hE hS 0 rfl (ApiStop.cells x88) (runs_plain rfl) rfl rfl rfl ty64 rfl rfl rfl rfl ?_; clear hE hS a w; intro a w hE hS
          refine WL.nil ?_
          refine W.region ?_
          refine WL.vS hS hE (runs_plain rfl) (Gives.p hE rfl) rfl ?_; clear hE a; intro a hE
          refine WL.vS hS hE (runs_plain rfl) (Gives.fld hE rfl fl64_0) rfl ?_; clear hE a; intro a hE
          refine WL.vS hS hE (runs_plain rfl) (Gives.loadB hE 0 rfl rfl rfl ty3) rfl ?_; clear hE a; intro a hE
          refine WL.vS hS hE (runs_plain rfl) (Gives.fld hE rfl fl64_1) rfl ?_; clear hE a; intro a hE
          refine WL.vS hS hE (runs_plain rfl) (Gives.loadB hE 0 rfl rfl rfl ty3) rfl ?_; clear hE a; intro a hE
          refine WL.vS hS hE (runs_plain rfl) (Gives.fld hE rfl fl64_2) rfl ?_; clear hE a; intro a hE
          refine WL.vS hS hE (runs_plain rfl) (Gives.loadB hE 0 rfl rfl rfl ty3) rfl ?_; clear hE a; intro a hE
          refine WL.vS hS hE (runs_plain rfl) (Gives.fld hE rfl fl64_3) rfl ?_; clear hE a; intro a hE
          refine WL.vS hS hE (runs_plain rfl) (Gives.loadB hE 0 rfl rfl rfl ty3) rfl ?_; clear hE a; intro a hE
          refine WL.lit hE hS (e := 3) (es := 1) (vs := [(0, .int .i64 x88.Station), (1, .int .i64 x88.Track), (2, .int .i64 x88.Arr), (3, .int .i64 x88.Dep)]) (cs := [.int .i64 x88.Station, .int .i64 x88.Track, .int .i64 x88.Arr, .int .i64 x88.Dep]) (runs_plain rfl) rfl (by kernel_rfl) rfl ?_; clear hE hS a w; intro b103 a w hE hS
          replace hS := hS.ptVec (es := 1) (m := 4) rfl (by decide)
          have h105 : Ev 1 (RI .i64) s94 [.int .i64 x88.Station, .int .i64 x88.Track, .int .i64 x88.Arr, .int .i64 x88.Dep] [x88.Station, x88.Track, x88.Arr, x88.Dep] := (Ev.cons (c1 := [.int .i64 x88.Station]) rfl rfl (Ev.cons (c1 := [.int .i64 x88.Track]) rfl rfl (Ev.cons (c1 := [.int .i64 x88.Arr]) rfl rfl (Ev.cons (c1 := [.int .i64 x88.Dep]) rfl rfl (Ev.nil)))))
          have hF := hS.fixD RI.mono 0 rfl h105 (rfl); clear hS; obtain ⟨s106, hle107, hS, h108⟩ := hF
          replace h0_0 := Sl.mono RApiTrain.mono hle107 h0_0
          replace h72 := Sl.mono RApiStop.mono hle107 h72
          replace h75 := Sl.mono (RL.mono RI.mono) hle107 h75
          replace h0_1 := Sl.mono (RL.mono RI.mono) hle107 h0_1
          obtain ⟨q109, hq110, hq85⟩ := bindS hq85
          replace hS := hS.front 1 rfl
          have hc_ := Fishref2DayText_1_v1_ok hS (TabG.mono (Sg.Le.trans (Sg.Le.trans (Sg.Le.trans hle63 hle81) hle95) hle107) hTab) h108 hq110
          refine WL.fnw hE (hc_) rfl (runs_plain rfl) bd42 rfl rfl rfl ?_
          clear hE hS hc_; rintro e w ⟨rfl, hS⟩; refine ⟨_, rfl, ?_⟩; clear a; intro a hE
          refine WL.nil ?_
          refine W.region ?_
          refine WL.vS hS hE (runs_plain rfl) (Gives.inc hE rfl (by have := h72.small; omega)) rfl ?_; clear hE a; intro a hE
          refine WL.vS hS hE (runs_plain rfl) (Gives.p hE rfl) rfl ?_; clear hE a; intro a hE
          refine WL.nil ?_
          replace hS := hS.dropAt 1
          subst hK97
          exact ⟨rest89.length, Nat.lt_succ_self _, rest89, k87 + 1, q109, s106, rfl, hd90, (Sg.Le.trans hle95 hle107), hq85, hE.pick _ ⟨rfl, rfl, rfl, rfl, rfl, rfl, rfl, rfl, rfl, rfl, trivial⟩, hS⟩
      · clear hE hS a w; rintro a w ⟨q96, s94, hle95, rfl, hE, hS⟩
        replace h0_0 := Sl.mono RApiTrain.mono hle95 h0_0
        replace h72 := Sl.mono RApiStop.mono hle95 h72
        replace h75 := Sl.mono (RL.mono RI.mono) hle95 h75
        replace h82 := Sl.mono RI.mono hle95 h82
        replace h0_1 := Sl.mono (RL.mono RI.mono) hle95 h0_1
        refine W.seq ?_
        refine W.region ?_
        refine WL.vS hS hE (runs_plain rfl) (Gives.fld hE rfl fl67_3) rfl ?_; clear hE a; intro a hE
        refine WL.vS hS hE (runs_plain rfl) (Gives.loadB hE 1 rfl rfl rfl ty31) rfl ?_; clear hE a; intro a hE
        refine WL.vS hS hE (runs_plain rfl) (Gives.len hE rfl sl31) rfl ?_; clear hE a; intro a hE
        refine WL.vS hS hE (runs_plain rfl) (Gives.p hE rfl) rfl ?_; clear hE a; intro a hE
        refine WL.nil ?_
        obtain ⟨q112, hq111, hq53⟩ := bindS hq53
        refine W.cut (fun a w => ∃ (q122 : ByteArray), q122 = q112 ∧ Rep a 71 [(1, .pointer (some ⟨b51, 0, none⟩)), (3, .pointer (some ⟨b52, 0, none⟩)), (4, .func (.func 42) #[] #[.pointer (some ⟨b52, 0, none⟩)]), (15, .slice a0_0 x0.Trains.length c0_0), (16, .int .i64 ((x0.Trains).length : Int)), (17, .int .i64 ((k55 : Nat) : Int))] ∧ St w s94 (pt b52 (.cells #[.string q122] 9 (0, 0)) :: pt b76 (.cells #[.int .i64 x56.No, .int .i64 x56.Stock, .slice a70 x56.Stops.length c71, .slice a73 x56.Legs.length c74] 67 (0, 0)) :: pt b51 (.cells #[.slice a0_0 x0.Trains.length c0_0, .slice a0_1 x0.Turns.length c0_1] 33 (0, 0)) :: R)) ?_ ?_
        · refine W.block ?_
          refine W.loop (fun m a w => ∃ (rest115 : List (List Int)) (k113 : Nat), ∃ (q122 : ByteArray), rest115.length = m ∧ x56.Legs.drop k113 = rest115 ∧ Fishref2DayText.loop3 rest115 q122 = some q112 ∧ Rep a 71 [(1, .pointer (some ⟨b51, 0, none⟩)), (3, .pointer (some ⟨b52, 0, none⟩)), (4, .func (.func 42) #[] #[.pointer (some ⟨b52, 0, none⟩)]), (15, .slice a0_0 x0.Trains.length c0_0), (16, .int .i64 ((x0.Trains).length : Int)), (17, .int .i64 ((k55 : Nat) : Int)), (48, .slice a73 x56.Legs.length c74), (49, .int .i64 ((x56.Legs).length : Int)), (50, .int .i64 ((k113 : Nat) : Int))] ∧ St w s94 (pt b52 (.cells #[.string q122] 9 (0, 0)) :: pt b76 (.cells #[.int .i64 x56.No, .int .i64 x56.Stock, .slice a70 x56.Stops.length c71, .slice a73 x56.Legs.length c74] 67 (0, 0)) :: pt b51 (.cells #[.slice a0_0 x0.Trains.length c0_0, .slice a0_1 x0.Turns.length c0_1] 33 (0, 0)) :: R)) (m := x56.Legs.length) ⟨x56.Legs, 0, q96, rfl, rfl, hq111, hE.pick _ ⟨rfl, rfl, rfl, rfl, rfl, rfl, rfl, rfl, rfl, trivial⟩, hS⟩ ?_
          clear hE hS a w hq111; rintro m119 a w ⟨rest115, k113, q122, rfl, hd116, hq111, hE, hS⟩
          refine W.gen fun K123 hK123 => ?_
          rcases rest115 with _ | ⟨x114, rest115⟩
          · have hlt117 := drop_nil hd116
            refine W.seq ?_
            refine W.region ?_
            refine WL.vS hS hE (runs_plain rfl) (Gives.p hE rfl) rfl ?_; clear hE a; intro a hE
            refine WL.nil ?_
            refine W.seq ?_
            refine W.condF hE rfl (decide_eq_false (by omega)) ?_
            subst hK123
            refine W.exit rfl ?_
            exact ⟨q122, Option.some.inj hq111, hE.pick _ ⟨rfl, rfl, rfl, rfl, rfl, rfl, trivial⟩, hS⟩
          · obtain ⟨hlt117, hx118, hd116⟩ := drop_cons hd116
            rw [Fishref2DayText.loop3] at hq111
            refine W.seq ?_
            refine W.region ?_
            refine WL.vS hS hE (runs_plain rfl) (Gives.p hE rfl) rfl ?_; clear hE a; intro a hE
            refine WL.nil ?_
            refine W.seq ?_
            refine W.condT hE rfl (decide_eq_true (by omega)) ?_
            refine W.skip ?_
            refine W.seq ?_
            refine W.block ?_
            refine W.seq ?_
            refine W.region ?_
            obtain ⟨cs124, hl125, hR126, hat127⟩ := h75.at hx118
            obtain ⟨a128, c129, rfl, h130⟩ := hR126
            refine WL.vS hS hE (runs_plain rfl) (Gives.idx hE k113 rfl rfl sl31 rfl hlt117 (h75.aok hlt117)) rfl ?_; clear hE a; intro a hE
            refine WL.vS hS hE (runs_plain rfl) (Gives.load1 hE rfl (fun w h => hat127 w _ h) ty23) rfl ?_; clear hE a; intro a hE
            refine WL.vS hS hE (runs_plain rfl) (Gives.p hE rfl) rfl ?_; clear hE a; intro a hE
            refine WL.nil ?_
            refine W.region ?_
            refine WL.vS hS hE (runs_plain rfl) (Gives.p hE rfl) rfl ?_; clear hE a; intro a hE
            refine WL.vS hS hE (runs_plain rfl) (Gives.p hE rfl) rfl ?_; clear hE a; intro a hE
            obtain ⟨q131, hq132, hq111⟩ := bindS hq111
            have hc_ := Fishref2DayText_1_v1_ok hS (TabG.mono (Sg.Le.trans (Sg.Le.trans hle63 hle81) hle95) hTab) h130 hq132
            refine WL.fnw hE (hc_) rfl (runs_plain rfl) bd42 rfl rfl rfl ?_
            clear hE hS hc_; rintro e w ⟨rfl, hS⟩; refine ⟨_, rfl, ?_⟩; clear a; intro a hE
            refine WL.nil ?_
            refine W.region ?_
            refine WL.vS hS hE (runs_plain rfl) (Gives.inc hE rfl (by have := h75.small; omega)) rfl ?_; clear hE a; intro a hE
            refine WL.vS hS hE (runs_plain rfl) (Gives.p hE rfl) rfl ?_; clear hE a; intro a hE
            refine WL.nil ?_
            subst hK123
            exact ⟨rest115.length, Nat.lt_succ_self _, rest115, k113 + 1, q131, rfl, hd116, hq111, hE.pick _ ⟨rfl, rfl, rfl, rfl, rfl, rfl, rfl, rfl, rfl, trivial⟩, hS⟩
        · clear hE hS a w; rintro a w ⟨q122, rfl, hE, hS⟩
          refine W.region ?_
          refine WL.vS hS hE (runs_plain rfl) (Gives.inc hE rfl (by have := h0_0.small; omega)) rfl ?_; clear hE a; intro a hE
          refine WL.vS hS hE (runs_plain rfl) (Gives.p hE rfl) rfl ?_; clear hE a; intro a hE
          refine WL.nil ?_
          replace hS := hS.dropAt 1
          subst hK65
          exact ⟨rest57.length, Nat.lt_succ_self _, rest57, k55 + 1, q122, s94, rfl, hd58, (Sg.Le.trans (Sg.Le.trans hle63 hle81) hle95), hq53, hE.pick _ ⟨rfl, rfl, rfl, rfl, rfl, rfl, trivial⟩, hS⟩
  · clear hE hS a w; rintro a w ⟨q64, s62, hle63, rfl, hE, hS⟩
    replace h0_0 := Sl.mono RApiTrain.mono hle63 h0_0
    replace h0_1 := Sl.mono (RL.mono RI.mono) hle63 h0_1
    refine W.seq ?_
    refine W.seq ?_
    refine W.region ?_
    refine WL.vS hS hE (runs_plain rfl) (Gives.fld hE rfl fl33_1) rfl ?_; clear hE a; intro a hE
    refine WL.vS hS hE (runs_plain rfl) (Gives.loadB hE 1 rfl rfl rfl ty31) rfl ?_; clear hE a; intro a hE
    refine WL.vS hS hE (runs_plain rfl) (Gives.len hE rfl sl31) rfl ?_; clear hE a; intro a hE
    refine WL.vS hS hE (runs_plain rfl) (Gives.p hE rfl) rfl ?_; clear hE a; intro a hE
    refine WL.nil ?_
    obtain ⟨q134, hq133, hr⟩ := bindS hr
    refine W.cut (fun a w => ∃ (q144 : ByteArray), q144 = q134 ∧ Rep a 71 [(3, .pointer (some ⟨b52, 0, none⟩))] ∧ St w s62 (pt b52 (.cells #[.string q144] 9 (0, 0)) :: pt b51 (.cells #[.slice a0_0 x0.Trains.length c0_0, .slice a0_1 x0.Turns.length c0_1] 33 (0, 0)) :: R)) ?_ ?_
    · refine W.block ?_
      refine W.loop (fun m a w => ∃ (rest137 : List (List Int)) (k135 : Nat), ∃ (q144 : ByteArray), rest137.length = m ∧ x0.Turns.drop k135 = rest137 ∧ Fishref2DayText.loop4 rest137 q144 = some q134 ∧ Rep a 71 [(3, .pointer (some ⟨b52, 0, none⟩)), (4, .func (.func 42) #[] #[.pointer (some ⟨b52, 0, none⟩)]), (60, .slice a0_1 x0.Turns.length c0_1), (61, .int .i64 ((x0.Turns).length : Int)), (62, .int .i64 ((k135 : Nat) : Int))] ∧ St w s62 (pt b52 (.cells #[.string q144] 9 (0, 0)) :: pt b51 (.cells #[.slice a0_0 x0.Trains.length c0_0, .slice a0_1 x0.Turns.length c0_1] 33 (0, 0)) :: R)) (m := x0.Turns.length) ⟨x0.Turns, 0, q64, rfl, rfl, hq133, hE.pick _ ⟨rfl, rfl, rfl, rfl, rfl, trivial⟩, hS⟩ ?_
      clear hE hS a w hq133; rintro m141 a w ⟨rest137, k135, q144, rfl, hd138, hq133, hE, hS⟩
      refine W.gen fun K145 hK145 => ?_
      rcases rest137 with _ | ⟨x136, rest137⟩
      · have hlt139 := drop_nil hd138
        refine W.seq ?_
        refine W.region ?_
        refine WL.vS hS hE (runs_plain rfl) (Gives.p hE rfl) rfl ?_; clear hE a; intro a hE
        refine WL.nil ?_
        refine W.seq ?_
        refine W.condF hE rfl (decide_eq_false (by omega)) ?_
        subst hK145
        refine W.exit rfl ?_
        exact ⟨q144, Option.some.inj hq133, hE.pick _ ⟨rfl, trivial⟩, hS⟩
      · obtain ⟨hlt139, hx140, hd138⟩ := drop_cons hd138
        rw [Fishref2DayText.loop4] at hq133
        refine W.seq ?_
        refine W.region ?_
        refine WL.vS hS hE (runs_plain rfl) (Gives.p hE rfl) rfl ?_; clear hE a; intro a hE
        refine WL.nil ?_
        refine W.seq ?_
        refine W.condT hE rfl (decide_eq_true (by omega)) ?_
        refine W.skip ?_
        refine W.seq ?_
        refine W.block ?_
        refine W.seq ?_
        refine W.region ?_
        obtain ⟨cs146, hl147, hR148, hat149⟩ := h0_1.at hx140
        obtain ⟨a150, c151, rfl, h152⟩ := hR148
        refine WL.vS hS hE (runs_plain rfl) (Gives.idx hE k135 rfl rfl sl31 rfl hlt139 (h0_1.aok hlt139)) rfl ?_; clear hE a; intro a hE
        refine WL.vS hS hE (runs_plain rfl) (Gives.load1 hE rfl (fun w h => hat149 w _ h) ty23) rfl ?_; clear hE a; intro a hE
        refine WL.vS hS hE (runs_plain rfl) (Gives.p hE rfl) rfl ?_; clear hE a; intro a hE
        refine WL.nil ?_
        refine W.region ?_
        refine WL.vS hS hE (runs_plain rfl) (Gives.p hE rfl) rfl ?_; clear hE a; intro a hE
        refine WL.vS hS hE (runs_plain rfl) (Gives.p hE rfl) rfl ?_; clear hE a; intro a hE
        obtain ⟨q153, hq154, hq133⟩ := bindS hq133
        have hc_ := Fishref2DayText_1_v1_ok hS (TabG.mono hle63 hTab) h152 hq154
        refine WL.fnw hE (hc_) rfl (runs_plain rfl) bd42 rfl rfl rfl ?_
        clear hE hS hc_; rintro e w ⟨rfl, hS⟩; refine ⟨_, rfl, ?_⟩; clear a; intro a hE
        refine WL.nil ?_
        refine W.region ?_
        refine WL.vS hS hE (runs_plain rfl) (Gives.inc hE rfl (by have := h0_1.small; omega)) rfl ?_; clear hE a; intro a hE
        refine WL.vS hS hE (runs_plain rfl) (Gives.p hE rfl) rfl ?_; clear hE a; intro a hE
        refine WL.nil ?_
        subst hK145
        exact ⟨rest137.length, Nat.lt_succ_self _, rest137, k135 + 1, q153, rfl, hd138, hq133, hE.pick _ ⟨rfl, rfl, rfl, rfl, rfl, trivial⟩, hS⟩
    · clear hE hS a w; rintro a w ⟨q144, rfl, hE, hS⟩
      refine W.seq ?_
      refine W.region ?_
      refine WL.vS hS hE (runs_plain rfl) (Gives.loadB hE 0 rfl rfl rfl ty9) rfl ?_; clear hE a; intro a hE
      refine WL.vS hS hE (runs_plain rfl) (Gives.p hE rfl) rfl ?_; clear hE a; intro a hE
      refine WL.nil ?_
      refine W.ret ?_
      refine finG (fn := Tryd.f15) (rs := [.tmp 2]) (vs := [_]) hE rfl ⟨rfl, trivial⟩ ?_
      obtain rfl := Option.some.inj hr
      replace hS := hS.tail
      replace hS := hS.tail
      exact ⟨rfl, (hS.down hle63)⟩
set_option maxHeartbeats 8000000 in
theorem SlicesEqualLapiStop_ok  {w : World} {s : Sg} {R : List HP} {x0 : List ApiStop} {a0 : Option Addr} {c0 : Nat} {x1 : List ApiStop} {a1 : Option Addr} {c1 : Nat} (hS : St w s (R)) (h0 : Sl 4 RApiStop s a0 c0 x0) (h1 : Sl 4 RApiStop s a1 c1 x1) {r : Bool} (hr : SlicesEqualLapiStop x0 x1 = some r) :
    Calls Tryd.prog 72 [.slice a0 x0.length c0, .slice a1 x1.length c1].toArray w (fun e w => e = .returned (.bool r) ∧ St w s (R)) := by
  refine enter Tryd.func72 rfl rfl rfl fun a hE => ?_
  rw [SlicesEqualLapiStop] at hr
  refine W.seq ?_
  refine W.region ?_
  refine WL.vS hS hE (runs_plain rfl) (Gives.p hE rfl) rfl ?_; clear hE a; intro a hE
  refine WL.nil ?_
  refine W.seq ?_
  refine W.seq ?_
  refine W.region ?_
  refine WL.vS hS hE (runs_plain rfl) (Gives.p hE rfl) rfl ?_; clear hE a; intro a hE
  refine WL.vS hS hE (runs_plain rfl) (Gives.len hE rfl sl65) rfl ?_; clear hE a; intro a hE
  refine WL.vS hS hE (runs_plain rfl) (Gives.p hE rfl) rfl ?_; clear hE a; intro a hE
  refine WL.vS hS hE (runs_plain rfl) (Gives.len hE rfl sl65) rfl ?_; clear hE a; intro a hE
  refine WL.vS hS hE (runs_plain rfl) (Gives.p hE rfl) rfl ?_; clear hE a; intro a hE
  refine WL.nil ?_
  refine W.cond hE rfl (fun hc51 => ?_) (fun hc51 => ?_)
  · replace hr := iteT hc51 hr
    refine W.seq ?_
    refine W.region ?_
    refine WL.vS hS hE (runs_plain rfl) (Gives.p hE rfl) rfl ?_; clear hE a; intro a hE
    refine WL.nil ?_
    refine W.ret ?_
    refine finG (fn := Tryd.f72) (rs := [.tmp 4]) (vs := [_]) hE rfl ⟨rfl, trivial⟩ ?_
    obtain rfl := Option.some.inj hr
    exact ⟨rfl, hS⟩
  · replace hr := iteF hc51 hr
    refine W.skip ?_
    refine W.seq ?_
    refine W.seq ?_
    refine W.region ?_
    refine WL.vS hS hE (runs_plain rfl) (Gives.p hE rfl) rfl ?_; clear hE a; intro a hE
    refine WL.vS hS hE (runs_plain rfl) (Gives.len hE rfl sl65) rfl ?_; clear hE a; intro a hE
    refine WL.vS hS hE (runs_plain rfl) (Gives.p hE rfl) rfl ?_; clear hE a; intro a hE
    refine WL.nil ?_
    obtain ⟨q53, hq52, hr⟩ := bindS hr
    refine W.cut (fun a w => (.next ()) = q53 ∧ Rep a 26 [] ∧ St w s (R)) ?_ ?_
    · refine W.block ?_
      refine W.loop (fun m a w => ∃ (rest56 : List ApiStop) (k54 : Nat), rest56.length = m ∧ x0.drop k54 = rest56 ∧ SlicesEqualLapiStop.loop1 x1 rest56 k54 = some q53 ∧ Rep a 26 [(0, .slice a0 x0.length c0), (1, .slice a1 x1.length c1), (12, .int .i64 ((x0).length : Int)), (13, .int .i64 ((k54 : Nat) : Int))] ∧ St w s (R)) (m := x0.length) ⟨x0, 0, rfl, rfl, hq52, hE.pick _ ⟨rfl, rfl, rfl, rfl, trivial⟩, hS⟩ ?_
      clear hE hS a w hq52; rintro m60 a w ⟨rest56, k54, rfl, hd57, hq52, hE, hS⟩
      refine W.gen fun K63 hK63 => ?_
      rcases rest56 with _ | ⟨x55, rest56⟩
      · have hlt58 := drop_nil hd57
        refine W.seq ?_
        refine W.region ?_
        refine WL.vS hS hE (runs_plain rfl) (Gives.p hE rfl) rfl ?_; clear hE a; intro a hE
        refine WL.nil ?_
        refine W.seq ?_
        refine W.condF hE rfl (decide_eq_false (by omega)) ?_
        subst hK63
        refine W.exit rfl ?_
        exact ⟨Option.some.inj hq52, hE.pick _ trivial, hS⟩
      · obtain ⟨hlt58, hx59, hd57⟩ := drop_cons hd57
        rw [SlicesEqualLapiStop.loop1] at hq52
        refine W.seq ?_
        refine W.region ?_
        refine WL.vS hS hE (runs_plain rfl) (Gives.p hE rfl) rfl ?_; clear hE a; intro a hE
        refine WL.nil ?_
        refine W.seq ?_
        refine W.condT hE rfl (decide_eq_true (by omega)) ?_
        refine W.skip ?_
        refine W.seq ?_
        refine W.block ?_
        refine W.seq ?_
        refine W.region ?_
        refine WL.vS hS hE (runs_plain rfl) (Gives.p hE rfl) rfl ?_; clear hE a; intro a hE
        refine WL.vS hS hE (runs_plain rfl) (Gives.p hE rfl) rfl ?_; clear hE a; intro a hE
        refine WL.nil ?_
        refine W.seq ?_
        refine W.regionQ (C := fun w => St w s (R)) mixed (by kernel_rfl) hS.drew ?_
        refine QL.v hE (runs_plain rfl) (Gives.p hE rfl) rfl ?_; clear hE a; intro a hE
        refine QL.v hE (runs_plain rfl) (Gives.p hE rfl) rfl ?_; clear hE a; intro a hE
        obtain ⟨cs64, hl65, hR66, hat67⟩ := h0.at hx59
        subst hR66
        refine QL.v hE (runs_plain rfl) (Gives.idx hE k54 rfl rfl sl65 rfl hlt58 (h0.aok hlt58)) rfl ?_; clear hE a; intro a hE
        refine QL.v hE (runs_plain rfl) (Gives.loadA hE rfl (fun w h => hat67 w _ h) ty64) rfl ?_; clear hE a; intro a hE
        refine QL.v hE (runs_plain rfl) (Gives.p hE rfl) rfl ?_; clear hE a; intro a hE
        refine QL.v hE (runs_plain rfl) (Gives.p hE rfl) rfl ?_; clear hE a; intro a hE
        obtain ⟨x68, hx69, hq52⟩ := bindS hq52
        obtain ⟨hi70, hlt71, hy72⟩ := gx_some hx69
        obtain ⟨cs73, hl74, hR75, hat76⟩ := h1.at hy72
        subst hR75
        refine QL.v hE (runs_plain rfl) (Gives.idx hE (((k54 : Nat) : Int)).toNat rfl rfl sl65 hi70 hlt71 (h1.aok hlt71)) rfl ?_; clear hE a; intro a hE
        refine QL.v hE (runs_plain rfl) (Gives.loadA hE rfl (fun w h => hat76 w _ h) ty64) rfl ?_; clear hE a; intro a hE
        refine QL.v hE (runs_plain rfl) (show Gives _ _ _ _ (Value.bool (!((x55.Station == x68.Station) && ((x55.Track == x68.Track) && ((x55.Arr == x68.Arr) && (x55.Dep == x68.Dep)))))) from Gives.neS hE [.i .i64, .i .i64, .i .i64, .i .i64] [.i .i64 x55.Station, .i .i64 x55.Track, .i .i64 x55.Arr, .i .i64 x55.Dep] [.i .i64 x68.Station, .i .i64 x68.Track, .i .i64 x68.Arr, .i .i64 x68.Dep] rfl rfl se64 rfl rfl rfl rfl) rfl ?_; clear hE a; intro a hE
        refine QL.nil ?_; clear hS w; intro w hS
        refine W.cond hE rfl (fun hc77 => ?_) (fun hc77 => ?_)
        · replace hq52 := iteT hc77 hq52
          refine W.seq ?_
          refine W.region ?_
          refine WL.vS hS hE (runs_plain rfl) (Gives.p hE rfl) rfl ?_; clear hE a; intro a hE
          refine WL.nil ?_
          refine W.ret ?_
          subst hK63
          rw [← Option.some.inj hq52] at hr
          dsimp only at hr
          refine finG (fn := Tryd.f72) (rs := [.tmp 4]) (vs := [_]) hE rfl ⟨rfl, trivial⟩ ?_
          obtain rfl := Option.some.inj hr
          exact ⟨rfl, hS⟩
        · replace hq52 := iteF hc77 hq52
          refine W.skip ?_
          refine W.region ?_
          refine WL.vS hS hE (runs_plain rfl) (Gives.inc hE rfl (by have := h0.small; omega)) rfl ?_; clear hE a; intro a hE
          refine WL.vS hS hE (runs_plain rfl) (Gives.p hE rfl) rfl ?_; clear hE a; intro a hE
          refine WL.nil ?_
          subst hK63
          exact ⟨rest56.length, Nat.lt_succ_self _, rest56, k54 + 1, rfl, hd57, hq52, hE.pick _ ⟨rfl, rfl, rfl, rfl, trivial⟩, hS⟩
    · clear hE hS a w; rintro a w ⟨rfl, hE, hS⟩
      dsimp only at hr
      refine W.seq ?_
      refine W.region ?_
      refine WL.vS hS hE (runs_plain rfl) (Gives.p hE rfl) rfl ?_; clear hE a; intro a hE
      refine WL.nil ?_
      refine W.ret ?_
      refine finG (fn := Tryd.f72) (rs := [.tmp 4]) (vs := [_]) hE rfl ⟨rfl, trivial⟩ ?_
      obtain rfl := Option.some.inj hr
      exact ⟨rfl, hS⟩
set_option maxHeartbeats 8000000 in
theorem SlicesEqualLint_ok  {w : World} {s : Sg} {R : List HP} {x0 : List Int} {a0 : Option Addr} {c0 : Nat} {x1 : List Int} {a1 : Option Addr} {c1 : Nat} (hS : St w s (R)) (h0 : Sl 1 (RI .i64) s a0 c0 x0) (h1 : Sl 1 (RI .i64) s a1 c1 x1) {r : Bool} (hr : SlicesEqualLint x0 x1 = some r) :
    Calls Tryd.prog 11 [.slice a0 x0.length c0, .slice a1 x1.length c1].toArray w (fun e w => e = .returned (.bool r) ∧ St w s (R)) := by
  refine enter Tryd.func11 rfl rfl rfl fun a hE => ?_
  rw [SlicesEqualLint] at hr
  refine W.seq ?_
  refine W.region ?_
  refine WL.vS hS hE (runs_plain rfl) (Gives.p hE rfl) rfl ?_; clear hE a; intro a hE
  refine WL.nil ?_
  refine W.seq ?_
  refine W.seq ?_
  refine W.region ?_
  refine WL.vS hS hE (runs_plain rfl) (Gives.p hE rfl) rfl ?_; clear hE a; intro a hE
  refine WL.vS hS hE (runs_plain rfl) (Gives.len hE rfl sl23) rfl ?_; clear hE a; intro a hE
  refine WL.vS hS hE (runs_plain rfl) (Gives.p hE rfl) rfl ?_; clear hE a; intro a hE
  refine WL.vS hS hE (runs_plain rfl) (Gives.len hE rfl sl23) rfl ?_; clear hE a; intro a hE
  refine WL.vS hS hE (runs_plain rfl) (Gives.p hE rfl) rfl ?_; clear hE a; intro a hE
  refine WL.nil ?_
  refine W.cond hE rfl (fun hc51 => ?_) (fun hc51 => ?_)
  · replace hr := iteT hc51 hr
    refine W.seq ?_
    refine W.region ?_
    refine WL.vS hS hE (runs_plain rfl) (Gives.p hE rfl) rfl ?_; clear hE a; intro a hE
    refine WL.nil ?_
    refine W.ret ?_
    refine finG (fn := Tryd.f11) (rs := [.tmp 4]) (vs := [_]) hE rfl ⟨rfl, trivial⟩ ?_
    obtain rfl := Option.some.inj hr
    exact ⟨rfl, hS⟩
  · replace hr := iteF hc51 hr
    refine W.skip ?_
    refine W.seq ?_
    refine W.seq ?_
    refine W.region ?_
    refine WL.vS hS hE (runs_plain rfl) (Gives.p hE rfl) rfl ?_; clear hE a; intro a hE
    refine WL.vS hS hE (runs_plain rfl) (Gives.len hE rfl sl23) rfl ?_; clear hE a; intro a hE
    refine WL.vS hS hE (runs_plain rfl) (Gives.p hE rfl) rfl ?_; clear hE a; intro a hE
    refine WL.nil ?_
    obtain ⟨q53, hq52, hr⟩ := bindS hr
    refine W.cut (fun a w => (.next ()) = q53 ∧ Rep a 26 [] ∧ St w s (R)) ?_ ?_
    · refine W.block ?_
      refine W.loop (fun m a w => ∃ (rest56 : List Int) (k54 : Nat), rest56.length = m ∧ x0.drop k54 = rest56 ∧ SlicesEqualLint.loop1 x1 rest56 k54 = some q53 ∧ Rep a 26 [(0, .slice a0 x0.length c0), (1, .slice a1 x1.length c1), (12, .int .i64 ((x0).length : Int)), (13, .int .i64 ((k54 : Nat) : Int))] ∧ St w s (R)) (m := x0.length) ⟨x0, 0, rfl, rfl, hq52, hE.pick _ ⟨rfl, rfl, rfl, rfl, trivial⟩, hS⟩ ?_
      clear hE hS a w hq52; rintro m60 a w ⟨rest56, k54, rfl, hd57, hq52, hE, hS⟩
      refine W.gen fun K63 hK63 => ?_
      rcases rest56 with _ | ⟨x55, rest56⟩
      · have hlt58 := drop_nil hd57
        refine W.seq ?_
        refine W.region ?_
        refine WL.vS hS hE (runs_plain rfl) (Gives.p hE rfl) rfl ?_; clear hE a; intro a hE
        refine WL.nil ?_
        refine W.seq ?_
        refine W.condF hE rfl (decide_eq_false (by omega)) ?_
        subst hK63
        refine W.exit rfl ?_
        exact ⟨Option.some.inj hq52, hE.pick _ trivial, hS⟩
      · obtain ⟨hlt58, hx59, hd57⟩ := drop_cons hd57
        rw [SlicesEqualLint.loop1] at hq52
        refine W.seq ?_
        refine W.region ?_
        refine WL.vS hS hE (runs_plain rfl) (Gives.p hE rfl) rfl ?_; clear hE a; intro a hE
        refine WL.nil ?_
        refine W.seq ?_
        refine W.condT hE rfl (decide_eq_true (by omega)) ?_
        refine W.skip ?_
        refine W.seq ?_
        refine W.block ?_
        refine W.seq ?_
        refine W.region ?_
        refine WL.vS hS hE (runs_plain rfl) (Gives.p hE rfl) rfl ?_; clear hE a; intro a hE
        refine WL.vS hS hE (runs_plain rfl) (Gives.p hE rfl) rfl ?_; clear hE a; intro a hE
        refine WL.nil ?_
        refine W.seq ?_
        refine W.regionQ (C := fun w => St w s (R)) mixed (by kernel_rfl) hS.drew ?_
        refine QL.v hE (runs_plain rfl) (Gives.p hE rfl) rfl ?_; clear hE a; intro a hE
        refine QL.v hE (runs_plain rfl) (Gives.p hE rfl) rfl ?_; clear hE a; intro a hE
        obtain ⟨cs64, hl65, hR66, hat67⟩ := h0.at hx59
        subst hR66
        refine QL.v hE (runs_plain rfl) (Gives.idx hE k54 rfl rfl sl23 rfl hlt58 (h0.aok hlt58)) rfl ?_; clear hE a; intro a hE
        refine QL.v hE (runs_plain rfl) (Gives.load1 hE rfl (fun w h => hat67 w _ h) ty3) rfl ?_; clear hE a; intro a hE
        refine QL.v hE (runs_plain rfl) (Gives.p hE rfl) rfl ?_; clear hE a; intro a hE
        refine QL.v hE (runs_plain rfl) (Gives.p hE rfl) rfl ?_; clear hE a; intro a hE
        obtain ⟨x68, hx69, hq52⟩ := bindS hq52
        obtain ⟨hi70, hlt71, hy72⟩ := gx_some hx69
        obtain ⟨cs73, hl74, hR75, hat76⟩ := h1.at hy72
        subst hR75
        refine QL.v hE (runs_plain rfl) (Gives.idx hE (((k54 : Nat) : Int)).toNat rfl rfl sl23 hi70 hlt71 (h1.aok hlt71)) rfl ?_; clear hE a; intro a hE
        refine QL.v hE (runs_plain rfl) (Gives.load1 hE rfl (fun w h => hat76 w _ h) ty3) rfl ?_; clear hE a; intro a hE
        refine QL.v hE (runs_plain rfl) (Gives.p hE rfl) rfl ?_; clear hE a; intro a hE
        refine QL.nil ?_; clear hS w; intro w hS
        refine W.cond hE rfl (fun hc77 => ?_) (fun hc77 => ?_)
        · replace hq52 := iteT hc77 hq52
          refine W.seq ?_
          refine W.region ?_
          refine WL.vS hS hE (runs_plain rfl) (Gives.p hE rfl) rfl ?_; clear hE a; intro a hE
          refine WL.nil ?_
          refine W.ret ?_
          subst hK63
          rw [← Option.some.inj hq52] at hr
          dsimp only at hr
          refine finG (fn := Tryd.f11) (rs := [.tmp 4]) (vs := [_]) hE rfl ⟨rfl, trivial⟩ ?_
          obtain rfl := Option.some.inj hr
          exact ⟨rfl, hS⟩
        · replace hq52 := iteF hc77 hq52
          refine W.skip ?_
          refine W.region ?_
          refine WL.vS hS hE (runs_plain rfl) (Gives.inc hE rfl (by have := h0.small; omega)) rfl ?_; clear hE a; intro a hE
          refine WL.vS hS hE (runs_plain rfl) (Gives.p hE rfl) rfl ?_; clear hE a; intro a hE
          refine WL.nil ?_
          subst hK63
          exact ⟨rest56.length, Nat.lt_succ_self _, rest56, k54 + 1, rfl, hd57, hq52, hE.pick _ ⟨rfl, rfl, rfl, rfl, trivial⟩, hS⟩
    · clear hE hS a w; rintro a w ⟨rfl, hE, hS⟩
      dsimp only at hr
      refine W.seq ?_
      refine W.region ?_
      refine WL.vS hS hE (runs_plain rfl) (Gives.p hE rfl) rfl ?_; clear hE a; intro a hE
      refine WL.nil ?_
      refine W.ret ?_
      refine finG (fn := Tryd.f11) (rs := [.tmp 4]) (vs := [_]) hE rfl ⟨rfl, trivial⟩ ?_
      obtain rfl := Option.some.inj hr
      exact ⟨rfl, hS⟩
set_option maxHeartbeats 8000000 in
theorem SlicesEqualFuncLLint_v1_ok  {w : World} {s : Sg} {R : List HP} {x0 : List (List Int)} {a0 : Option Addr} {c0 : Nat} {x1 : List (List Int)} {a1 : Option Addr} {c1 : Nat} (hS : St w s (R)) (h0 : Sl 1 (RL 1 (RI .i64)) s a0 c0 x0) (h1 : Sl 1 (RL 1 (RI .i64)) s a1 c1 x1) {r : Bool} (hr : SlicesEqualFuncLLint_v1 x0 x1 = some r) :
    Calls Tryd.prog 46 [.slice a0 x0.length c0, .slice a1 x1.length c1, .func (.func 11) #[] #[]].toArray w (fun e w => e = .returned (.bool r) ∧ St w s (R)) := by
  refine enter Tryd.func46 rfl rfl rfl fun a hE => ?_
  rw [SlicesEqualFuncLLint_v1] at hr
  refine W.seq ?_
  refine W.region ?_
  refine WL.vS hS hE (runs_plain rfl) (Gives.p hE rfl) rfl ?_; clear hE a; intro a hE
  refine WL.nil ?_
  refine W.seq ?_
  refine W.seq ?_
  refine W.region ?_
  refine WL.vS hS hE (runs_plain rfl) (Gives.p hE rfl) rfl ?_; clear hE a; intro a hE
  refine WL.vS hS hE (runs_plain rfl) (Gives.len hE rfl sl31) rfl ?_; clear hE a; intro a hE
  refine WL.vS hS hE (runs_plain rfl) (Gives.p hE rfl) rfl ?_; clear hE a; intro a hE
  refine WL.vS hS hE (runs_plain rfl) (Gives.len hE rfl sl31) rfl ?_; clear hE a; intro a hE
  refine WL.vS hS hE (runs_plain rfl) (Gives.p hE rfl) rfl ?_; clear hE a; intro a hE
  refine WL.nil ?_
  refine W.cond hE rfl (fun hc51 => ?_) (fun hc51 => ?_)
  · replace hr := iteT hc51 hr
    refine W.seq ?_
    refine W.region ?_
    refine WL.vS hS hE (runs_plain rfl) (Gives.p hE rfl) rfl ?_; clear hE a; intro a hE
    refine WL.nil ?_
    refine W.ret ?_
    refine finG (fn := Tryd.f46) (rs := [.tmp 6]) (vs := [_]) hE rfl ⟨rfl, trivial⟩ ?_
    obtain rfl := Option.some.inj hr
    exact ⟨rfl, hS⟩
  · replace hr := iteF hc51 hr
    refine W.skip ?_
    refine W.seq ?_
    refine W.seq ?_
    refine W.region ?_
    refine WL.vS hS hE (runs_plain rfl) (Gives.p hE rfl) rfl ?_; clear hE a; intro a hE
    refine WL.vS hS hE (runs_plain rfl) (Gives.len hE rfl sl31) rfl ?_; clear hE a; intro a hE
    refine WL.vS hS hE (runs_plain rfl) (Gives.p hE rfl) rfl ?_; clear hE a; intro a hE
    refine WL.nil ?_
    obtain ⟨q53, hq52, hr⟩ := bindS hr
    refine W.cut (fun a w => (.next ()) = q53 ∧ Rep a 32 [] ∧ St w s (R)) ?_ ?_
    · refine W.block ?_
      refine W.loop (fun m a w => ∃ (rest56 : List (List Int)) (k54 : Nat), rest56.length = m ∧ x0.drop k54 = rest56 ∧ SlicesEqualFuncLLint_v1.loop1 x1 rest56 k54 = some q53 ∧ Rep a 32 [(1, .slice a1 x1.length c1), (2, .func (.func 11) #[] #[]), (15, .slice a0 x0.length c0), (16, .int .i64 ((x0).length : Int)), (17, .int .i64 ((k54 : Nat) : Int))] ∧ St w s (R)) (m := x0.length) ⟨x0, 0, rfl, rfl, hq52, hE.pick _ ⟨rfl, rfl, rfl, rfl, rfl, trivial⟩, hS⟩ ?_
      clear hE hS a w hq52; rintro m60 a w ⟨rest56, k54, rfl, hd57, hq52, hE, hS⟩
      refine W.gen fun K63 hK63 => ?_
      rcases rest56 with _ | ⟨x55, rest56⟩
      · have hlt58 := drop_nil hd57
        refine W.seq ?_
        refine W.region ?_
        refine WL.vS hS hE (runs_plain rfl) (Gives.p hE rfl) rfl ?_; clear hE a; intro a hE
        refine WL.nil ?_
        refine W.seq ?_
        refine W.condF hE rfl (decide_eq_false (by omega)) ?_
        subst hK63
        refine W.exit rfl ?_
        exact ⟨Option.some.inj hq52, hE.pick _ trivial, hS⟩
      · obtain ⟨hlt58, hx59, hd57⟩ := drop_cons hd57
        rw [SlicesEqualFuncLLint_v1.loop1] at hq52
        refine W.seq ?_
        refine W.region ?_
        refine WL.vS hS hE (runs_plain rfl) (Gives.p hE rfl) rfl ?_; clear hE a; intro a hE
        refine WL.nil ?_
        refine W.seq ?_
        refine W.condT hE rfl (decide_eq_true (by omega)) ?_
        refine W.skip ?_
        refine W.seq ?_
        refine W.block ?_
        refine W.seq ?_
        refine W.region ?_
        refine WL.vS hS hE (runs_plain rfl) (Gives.p hE rfl) rfl ?_; clear hE a; intro a hE
        obtain ⟨cs64, hl65, hR66, hat67⟩ := h0.at hx59
        obtain ⟨a68, c69, rfl, h70⟩ := hR66
        refine WL.vS hS hE (runs_plain rfl) (Gives.idx hE k54 rfl rfl sl31 rfl hlt58 (h0.aok hlt58)) rfl ?_; clear hE a; intro a hE
        refine WL.vS hS hE (runs_plain rfl) (Gives.load1 hE rfl (fun w h => hat67 w _ h) ty23) rfl ?_; clear hE a; intro a hE
        refine WL.vS hS hE (runs_plain rfl) (Gives.p hE rfl) rfl ?_; clear hE a; intro a hE
        refine WL.vS hS hE (runs_plain rfl) (Gives.p hE rfl) rfl ?_; clear hE a; intro a hE
        refine WL.nil ?_
        refine W.seq ?_
        refine W.region ?_
        refine WL.vS hS hE (runs_plain rfl) (Gives.p hE rfl) rfl ?_; clear hE a; intro a hE
        refine WL.vS hS hE (runs_plain rfl) (Gives.p hE rfl) rfl ?_; clear hE a; intro a hE
        obtain ⟨x71, hx72, hq52⟩ := bindS hq52
        obtain ⟨hi73, hlt74, hy75⟩ := gx_some hx72
        obtain ⟨cs76, hl77, hR78, hat79⟩ := h1.at hy75
        obtain ⟨a80, c81, rfl, h82⟩ := hR78
        refine WL.vS hS hE (runs_plain rfl) (Gives.idx hE (((k54 : Nat) : Int)).toNat rfl rfl sl31 hi73 hlt74 (h1.aok hlt74)) rfl ?_; clear hE a; intro a hE
        refine WL.vS hS hE (runs_plain rfl) (Gives.load1 hE rfl (fun w h => hat79 w _ h) ty23) rfl ?_; clear hE a; intro a hE
        refine WL.vS hS hE (runs_plain rfl) (Gives.p hE rfl) rfl ?_; clear hE a; intro a hE
        refine WL.nil ?_
        refine W.seq ?_
        refine W.region ?_
        refine WL.vS hS hE (runs_plain rfl) (Gives.p hE rfl) rfl ?_; clear hE a; intro a hE
        refine WL.vS hS hE (runs_plain rfl) (Gives.p hE rfl) rfl ?_; clear hE a; intro a hE
        refine WL.vS hS hE (runs_plain rfl) (Gives.p hE rfl) rfl ?_; clear hE a; intro a hE
        obtain ⟨q83, hq84, hq52⟩ := bindS hq52
        have hc_ := SlicesEqualLint_ok hS h70 h82 hq84
        refine WL.fnw hE (hc_) rfl (runs_plain rfl) bd11 rfl rfl rfl ?_
        clear hE hS hc_; rintro e w ⟨rfl, hS⟩; refine ⟨_, rfl, ?_⟩; clear a; intro a hE
        refine WL.vS hS hE (runs_plain rfl) (Gives.p hE rfl) rfl ?_; clear hE a; intro a hE
        refine WL.nil ?_
        refine W.cond hE rfl (fun hc85 => ?_) (fun hc85 => ?_)
        · replace hq52 := iteT hc85 hq52
          refine W.seq ?_
          refine W.region ?_
          refine WL.vS hS hE (runs_plain rfl) (Gives.p hE rfl) rfl ?_; clear hE a; intro a hE
          refine WL.nil ?_
          refine W.ret ?_
          subst hK63
          rw [← Option.some.inj hq52] at hr
          dsimp only at hr
          refine finG (fn := Tryd.f46) (rs := [.tmp 6]) (vs := [_]) hE rfl ⟨rfl, trivial⟩ ?_
          obtain rfl := Option.some.inj hr
          exact ⟨rfl, hS⟩
        · replace hq52 := iteF hc85 hq52
          refine W.skip ?_
          refine W.region ?_
          refine WL.vS hS hE (runs_plain rfl) (Gives.inc hE rfl (by have := h0.small; omega)) rfl ?_; clear hE a; intro a hE
          refine WL.vS hS hE (runs_plain rfl) (Gives.p hE rfl) rfl ?_; clear hE a; intro a hE
          refine WL.nil ?_
          subst hK63
          exact ⟨rest56.length, Nat.lt_succ_self _, rest56, k54 + 1, rfl, hd57, hq52, hE.pick _ ⟨rfl, rfl, rfl, rfl, rfl, trivial⟩, hS⟩
    · clear hE hS a w; rintro a w ⟨rfl, hE, hS⟩
      dsimp only at hr
      refine W.seq ?_
      refine W.region ?_
      refine WL.vS hS hE (runs_plain rfl) (Gives.p hE rfl) rfl ?_; clear hE a; intro a hE
      refine WL.nil ?_
      refine W.ret ?_
      refine finG (fn := Tryd.f46) (rs := [.tmp 6]) (vs := [_]) hE rfl ⟨rfl, trivial⟩ ?_
      obtain rfl := Option.some.inj hr
      exact ⟨rfl, hS⟩
set_option maxHeartbeats 8000000 in
theorem Fishref2SameTrain_ok  {w : World} {s : Sg} {R : List HP} {x0 : ApiTrain} {a0_0 : Option Addr} {c0_0 : Nat} {a0_1 : Option Addr} {c0_1 : Nat} {x1 : ApiTrain} {a1_0 : Option Addr} {c1_0 : Nat} {a1_1 : Option Addr} {c1_1 : Nat} (hS : St w s (R)) (h0_0 : Sl 4 RApiStop s a0_0 c0_0 x0.Stops) (h0_1 : Sl 1 (RL 1 (RI .i64)) s a0_1 c0_1 x0.Legs) (h1_0 : Sl 4 RApiStop s a1_0 c1_0 x1.Stops) (h1_1 : Sl 1 (RL 1 (RI .i64)) s a1_1 c1_1 x1.Legs) {r : Bool} (hr : Fishref2SameTrain x0 x1 = some r) :
    Calls Tryd.prog 45 [.agg (List.toArray [.int .i64 x0.No, .int .i64 x0.Stock, .slice a0_0 x0.Stops.length c0_0, .slice a0_1 x0.Legs.length c0_1]), .agg (List.toArray [.int .i64 x1.No, .int .i64 x1.Stock, .slice a1_0 x1.Stops.length c1_0, .slice a1_1 x1.Legs.length c1_1])].toArray w (fun e w => e = .returned (.bool r) ∧ St w s (R)) := by
  refine enter Tryd.func45 rfl rfl rfl fun a hE => ?_
  rw [Fishref2SameTrain] at hr
  refine W.seq ?_
  refine W.region ?_
  refine WL.box hE hS (runs_plain rfl) rfl rfl rfl ?_; clear hE hS a w; intro b51 a w hE hS
  refine WL.box hE hS (runs_plain rfl) rfl rfl rfl ?_; clear hE hS a w; intro b52 a w hE hS
  refine WL.vS hS hE (runs_plain rfl) (Gives.p hE rfl) rfl ?_; clear hE a; intro a hE
  refine WL.nil ?_
  refine W.seq ?_
  obtain ⟨q54, hq53, hr⟩ := bindS hr
  refine W.cut (fun a w => ∃ (q57 : Bool), q57 = q54 ∧ Rep a 31 [(4, .bool q57)] ∧ St w s (pt b52 (.cells #[.int .i64 x1.No, .int .i64 x1.Stock, .slice a1_0 x1.Stops.length c1_0, .slice a1_1 x1.Legs.length c1_1] 67 (0, 0)) :: pt b51 (.cells #[.int .i64 x0.No, .int .i64 x0.Stock, .slice a0_0 x0.Stops.length c0_0, .slice a0_1 x0.Legs.length c0_1] 67 (0, 0)) :: R)) ?_ ?_
  · refine W.gen fun K58 hK58 => ?_
    refine W.region ?_
    refine WL.vS hS hE (runs_plain rfl) (Gives.fld hE rfl fl67_0) rfl ?_; clear hE a; intro a hE
    refine WL.vS hS hE (runs_plain rfl) (Gives.loadB hE 1 rfl rfl rfl ty3) rfl ?_; clear hE a; intro a hE
    refine WL.vS hS hE (runs_plain rfl) (Gives.fld hE rfl fl67_0) rfl ?_; clear hE a; intro a hE
    refine WL.vS hS hE (runs_plain rfl) (Gives.loadB hE 0 rfl rfl rfl ty3) rfl ?_; clear hE a; intro a hE
    refine WL.vS hS hE (runs_plain rfl) (Gives.p hE rfl) rfl ?_; clear hE a; intro a hE
    refine WL.vS hS hE (runs_plain rfl) (Gives.p hE rfl) rfl ?_; clear hE a; intro a hE
    rcases Bool.eq_false_or_eq_true (x0.No == x1.No) with hg59 | hg59
    · replace hq53 := iteT hg59 hq53
      refine WL.vS hS hE (runs_if hE rfl rfl rfl hg59) (Gives.fld hE rfl fl67_1) rfl ?_; clear hE a; intro a hE
      refine WL.vS hS hE (runs_if hE rfl rfl rfl hg59) (Gives.loadB hE 1 rfl rfl rfl ty3) rfl ?_; clear hE a; intro a hE
      refine WL.vS hS hE (runs_if hE rfl rfl rfl hg59) (Gives.fld hE rfl fl67_1) rfl ?_; clear hE a; intro a hE
      refine WL.vS hS hE (runs_if hE rfl rfl rfl hg59) (Gives.loadB hE 0 rfl rfl rfl ty3) rfl ?_; clear hE a; intro a hE
      refine WL.vS hS hE (runs_if hE rfl rfl rfl hg59) (Gives.p hE rfl) rfl ?_; clear hE a; intro a hE
      refine WL.vS hS hE (runs_plain rfl) (Gives.pickT hE rfl hg59 rfl) rfl ?_; clear hE a; intro a hE
      refine WL.vS hS hE (runs_plain rfl) (Gives.p hE rfl) rfl ?_; clear hE a; intro a hE
      rcases Bool.eq_false_or_eq_true (x0.Stock == x1.Stock) with hg60 | hg60
      · replace hq53 := iteT hg60 hq53
        refine WL.vS hS hE (runs_if hE rfl rfl rfl hg60) (Gives.fld hE rfl fl67_2) rfl ?_; clear hE a; intro a hE
        refine WL.vS hS hE (runs_if hE rfl rfl rfl hg60) (Gives.loadB hE 1 rfl rfl rfl ty65) rfl ?_; clear hE a; intro a hE
        refine WL.vS hS hE (runs_if hE rfl rfl rfl hg60) (Gives.fld hE rfl fl67_2) rfl ?_; clear hE a; intro a hE
        refine WL.vS hS hE (runs_if hE rfl rfl rfl hg60) (Gives.loadB hE 0 rfl rfl rfl ty65) rfl ?_; clear hE a; intro a hE
        obtain ⟨q61, hq62, hq53⟩ := bindS hq53
        have hc_ := SlicesEqualLapiStop_ok hS h0_0 h1_0 hq62
        refine WL.fnq hE (hc_) (runs_if hE rfl rfl rfl hg60) bd72 rfl rfl rfl ?_
        clear hE hS hc_; rintro e w ⟨rfl, hS⟩; refine ⟨_, rfl, ?_⟩; clear a; intro a hE
        refine WL.vS hS hE (runs_plain rfl) (Gives.pickT hE rfl hg60 rfl) rfl ?_; clear hE a; intro a hE
        refine WL.vS hS hE (runs_plain rfl) (Gives.p hE rfl) rfl ?_; clear hE a; intro a hE
        rcases Bool.eq_false_or_eq_true q61 with hg63 | hg63
        · replace hq53 := iteT hg63 hq53
          refine WL.vS hS hE (runs_if hE rfl rfl rfl hg63) (Gives.fld hE rfl fl67_3) rfl ?_; clear hE a; intro a hE
          refine WL.vS hS hE (runs_if hE rfl rfl rfl hg63) (Gives.loadB hE 1 rfl rfl rfl ty31) rfl ?_; clear hE a; intro a hE
          refine WL.vS hS hE (runs_if hE rfl rfl rfl hg63) (Gives.fld hE rfl fl67_3) rfl ?_; clear hE a; intro a hE
          refine WL.vS hS hE (runs_if hE rfl rfl rfl hg63) (Gives.loadB hE 0 rfl rfl rfl ty31) rfl ?_; clear hE a; intro a hE
          obtain ⟨q64, hq65, hq53⟩ := bindS hq53
          have hc_ := SlicesEqualFuncLLint_v1_ok hS h0_1 h1_1 hq65
          refine WL.fnq hE (hc_) (runs_if hE rfl rfl rfl hg63) bd46 rfl rfl rfl ?_
          clear hE hS hc_; rintro e w ⟨rfl, hS⟩; refine ⟨_, rfl, ?_⟩; clear a; intro a hE
          refine WL.vS hS hE (runs_plain rfl) (Gives.pickT hE rfl hg63 rfl) rfl ?_; clear hE a; intro a hE
          refine WL.vS hS hE (runs_plain rfl) (Gives.p hE rfl) rfl ?_; clear hE a; intro a hE
          refine WL.nil ?_
          subst hK58
          exact ⟨q64, Option.some.inj hq53, hE.pick _ ⟨rfl, trivial⟩, hS⟩
        · replace hq53 := iteF hg63 hq53
          refine WL.no hE (runs_not hE rfl rfl rfl (by rw [hg63]; decide)) rfl ?_; clear hE a; intro a hE
          refine WL.no hE (runs_not hE rfl rfl rfl (by rw [hg63]; decide)) rfl ?_; clear hE a; intro a hE
          refine WL.no hE (runs_not hE rfl rfl rfl (by rw [hg63]; decide)) rfl ?_; clear hE a; intro a hE
          refine WL.no hE (runs_not hE rfl rfl rfl (by rw [hg63]; decide)) rfl ?_; clear hE a; intro a hE
          refine WL.no hE (runs_not hE rfl rfl rfl (by rw [hg63]; decide)) rfl ?_; clear hE a; intro a hE
          refine WL.vS hS hE (runs_plain rfl) (Gives.pickF hE rfl hg63 rfl) rfl ?_; clear hE a; intro a hE
          refine WL.vS hS hE (runs_plain rfl) (Gives.p hE rfl) rfl ?_; clear hE a; intro a hE
          refine WL.nil ?_
          subst hK58
          exact ⟨false, Option.some.inj hq53, hE.pick _ ⟨rfl, trivial⟩, hS⟩
      · replace hq53 := iteF hg60 hq53
        refine WL.no hE (runs_not hE rfl rfl rfl (by rw [hg60]; decide)) rfl ?_; clear hE a; intro a hE
        refine WL.no hE (runs_not hE rfl rfl rfl (by rw [hg60]; decide)) rfl ?_; clear hE a; intro a hE
        refine WL.no hE (runs_not hE rfl rfl rfl (by rw [hg60]; decide)) rfl ?_; clear hE a; intro a hE
        refine WL.no hE (runs_not hE rfl rfl rfl (by rw [hg60]; decide)) rfl ?_; clear hE a; intro a hE
        refine WL.no hE (runs_not hE rfl rfl rfl (by rw [hg60]; decide)) rfl ?_; clear hE a; intro a hE
        refine WL.vS hS hE (runs_plain rfl) (Gives.pickF hE rfl hg60 rfl) rfl ?_; clear hE a; intro a hE
        refine WL.vS hS hE (runs_plain rfl) (Gives.p hE rfl) rfl ?_; clear hE a; intro a hE
        refine WL.no hE (runs_not hE rfl rfl rfl (by decide)) rfl ?_; clear hE a; intro a hE
        refine WL.no hE (runs_not hE rfl rfl rfl (by decide)) rfl ?_; clear hE a; intro a hE
        refine WL.no hE (runs_not hE rfl rfl rfl (by decide)) rfl ?_; clear hE a; intro a hE
        refine WL.no hE (runs_not hE rfl rfl rfl (by decide)) rfl ?_; clear hE a; intro a hE
        refine WL.no hE (runs_not hE rfl rfl rfl (by decide)) rfl ?_; clear hE a; intro a hE
        refine WL.vS hS hE (runs_plain rfl) (Gives.pickF hE rfl rfl rfl) rfl ?_; clear hE a; intro a hE
        refine WL.vS hS hE (runs_plain rfl) (Gives.p hE rfl) rfl ?_; clear hE a; intro a hE
        refine WL.nil ?_
        subst hK58
        exact ⟨false, Option.some.inj hq53, hE.pick _ ⟨rfl, trivial⟩, hS⟩
    · replace hq53 := iteF hg59 hq53
      refine WL.no hE (runs_not hE rfl rfl rfl (by rw [hg59]; decide)) rfl ?_; clear hE a; intro a hE
      refine WL.no hE (runs_not hE rfl rfl rfl (by rw [hg59]; decide)) rfl ?_; clear hE a; intro a hE
      refine WL.no hE (runs_not hE rfl rfl rfl (by rw [hg59]; decide)) rfl ?_; clear hE a; intro a hE
      refine WL.no hE (runs_not hE rfl rfl rfl (by rw [hg59]; decide)) rfl ?_; clear hE a; intro a hE
      refine WL.no hE (runs_not hE rfl rfl rfl (by rw [hg59]; decide)) rfl ?_; clear hE a; intro a hE
      refine WL.vS hS hE (runs_plain rfl) (Gives.pickF hE rfl hg59 rfl) rfl ?_; clear hE a; intro a hE
      refine WL.vS hS hE (runs_plain rfl) (Gives.p hE rfl) rfl ?_; clear hE a; intro a hE
      refine WL.no hE (runs_not hE rfl rfl rfl (by decide)) rfl ?_; clear hE a; intro a hE
      refine WL.no hE (runs_not hE rfl rfl rfl (by decide)) rfl ?_; clear hE a; intro a hE
      refine WL.no hE (runs_not hE rfl rfl rfl (by decide)) rfl ?_; clear hE a; intro a hE
      refine WL.no hE (runs_not hE rfl rfl rfl (by decide)) rfl ?_; clear hE a; intro a hE
      refine WL.no hE (runs_not hE rfl rfl rfl (by decide)) rfl ?_; clear hE a; intro a hE
      refine WL.vS hS hE (runs_plain rfl) (Gives.pickF hE rfl rfl rfl) rfl ?_; clear hE a; intro a hE
      refine WL.vS hS hE (runs_plain rfl) (Gives.p hE rfl) rfl ?_; clear hE a; intro a hE
      refine WL.no hE (runs_not hE rfl rfl rfl (by decide)) rfl ?_; clear hE a; intro a hE
      refine WL.no hE (runs_not hE rfl rfl rfl (by decide)) rfl ?_; clear hE a; intro a hE
      refine WL.no hE (runs_not hE rfl rfl rfl (by decide)) rfl ?_; clear hE a; intro a hE
      refine WL.no hE (runs_not hE rfl rfl rfl (by decide)) rfl ?_; clear hE a; intro a hE
      refine WL.no hE (runs_not hE rfl rfl rfl (by decide)) rfl ?_; clear hE a; intro a hE
      refine WL.vS hS hE (runs_plain rfl) (Gives.pickF hE rfl rfl rfl) rfl ?_; clear hE a; intro a hE
      refine WL.vS hS hE (runs_plain rfl) (Gives.p hE rfl) rfl ?_; clear hE a; intro a hE
      refine WL.nil ?_
      subst hK58
      exact ⟨false, Option.some.inj hq53, hE.pick _ ⟨rfl, trivial⟩, hS⟩
  · clear hE hS a w; rintro a w ⟨q57, rfl, hE, hS⟩
    refine W.ret ?_
    refine finG (fn := Tryd.f45) (rs := [.tmp 4]) (vs := [_]) hE rfl ⟨rfl, trivial⟩ ?_
    obtain rfl := Option.some.inj hr
    replace hS := hS.tail
    replace hS := hS.tail
    exact ⟨rfl, hS⟩
set_option maxHeartbeats 8000000 in
theorem SlicesEqualFuncLapiTrain_v1_ok  {w : World} {s : Sg} {R : List HP} {x0 : List ApiTrain} {a0 : Option Addr} {c0 : Nat} {x1 : List ApiTrain} {a1 : Option Addr} {c1 : Nat} (hS : St w s (R)) (h0 : Sl 4 RApiTrain s a0 c0 x0) (h1 : Sl 4 RApiTrain s a1 c1 x1) {r : Bool} (hr : SlicesEqualFuncLapiTrain_v1 x0 x1 = some r) :
    Calls Tryd.prog 44 [.slice a0 x0.length c0, .slice a1 x1.length c1, .func (.func 45) #[] #[]].toArray w (fun e w => e = .returned (.bool r) ∧ St w s (R)) := by
  refine enter Tryd.func44 rfl rfl rfl fun a hE => ?_
  rw [SlicesEqualFuncLapiTrain_v1] at hr
  refine W.seq ?_
  refine W.region ?_
  refine WL.vS hS hE (runs_plain rfl) (Gives.p hE rfl) rfl ?_; clear hE a; intro a hE
  refine WL.nil ?_
  refine W.seq ?_
  refine W.seq ?_
  refine W.region ?_
  refine WL.vS hS hE (runs_plain rfl) (Gives.p hE rfl) rfl ?_; clear hE a; intro a hE
  refine WL.vS hS hE (runs_plain rfl) (Gives.len hE rfl sl30) rfl ?_; clear hE a; intro a hE
  refine WL.vS hS hE (runs_plain rfl) (Gives.p hE rfl) rfl ?_; clear hE a; intro a hE
  refine WL.vS hS hE (runs_plain rfl) (Gives.len hE rfl sl30) rfl ?_; clear hE a; intro a hE
  refine WL.vS hS hE (runs_plain rfl) (Gives.p hE rfl) rfl ?_; clear hE a; intro a hE
  refine WL.nil ?_
  refine W.cond hE rfl (fun hc51 => ?_) (fun hc51 => ?_)
  · replace hr := iteT hc51 hr
    refine W.seq ?_
    refine W.region ?_
    refine WL.vS hS hE (runs_plain rfl) (Gives.p hE rfl) rfl ?_; clear hE a; intro a hE
    refine WL.nil ?_
    refine W.ret ?_
    refine finG (fn := Tryd.f44) (rs := [.tmp 6]) (vs := [_]) hE rfl ⟨rfl, trivial⟩ ?_
    obtain rfl := Option.some.inj hr
    exact ⟨rfl, hS⟩
  · replace hr := iteF hc51 hr
    refine W.skip ?_
    refine W.seq ?_
    refine W.seq ?_
    refine W.region ?_
    refine WL.vS hS hE (runs_plain rfl) (Gives.p hE rfl) rfl ?_; clear hE a; intro a hE
    refine WL.vS hS hE (runs_plain rfl) (Gives.len hE rfl sl30) rfl ?_; clear hE a; intro a hE
    refine WL.vS hS hE (runs_plain rfl) (Gives.p hE rfl) rfl ?_; clear hE a; intro a hE
    refine WL.nil ?_
    obtain ⟨q53, hq52, hr⟩ := bindS hr
    refine W.cut (fun a w => (.next ()) = q53 ∧ Rep a 32 [] ∧ St w s (R)) ?_ ?_
    · refine W.block ?_
      refine W.loop (fun m a w => ∃ (rest56 : List ApiTrain) (k54 : Nat), rest56.length = m ∧ x0.drop k54 = rest56 ∧ SlicesEqualFuncLapiTrain_v1.loop1 x1 rest56 k54 = some q53 ∧ Rep a 32 [(1, .slice a1 x1.length c1), (2, .func (.func 45) #[] #[]), (15, .slice a0 x0.length c0), (16, .int .i64 ((x0).length : Int)), (17, .int .i64 ((k54 : Nat) : Int))] ∧ St w s (R)) (m := x0.length) ⟨x0, 0, rfl, rfl, hq52, hE.pick _ ⟨rfl, rfl, rfl, rfl, rfl, trivial⟩, hS⟩ ?_
      clear hE hS a w hq52; rintro m60 a w ⟨rest56, k54, rfl, hd57, hq52, hE, hS⟩
      refine W.gen fun K63 hK63 => ?_
      rcases rest56 with _ | ⟨x55, rest56⟩
      · have hlt58 := drop_nil hd57
        refine W.seq ?_
        refine W.region ?_
        refine WL.vS hS hE (runs_plain rfl) (Gives.p hE rfl) rfl ?_; clear hE a; intro a hE
        refine WL.nil ?_
        refine W.seq ?_
        refine W.condF hE rfl (decide_eq_false (by omega)) ?_
        subst hK63
        refine W.exit rfl ?_
        exact ⟨Option.some.inj hq52, hE.pick _ trivial, hS⟩
      · obtain ⟨hlt58, hx59, hd57⟩ := drop_cons hd57
        rw [SlicesEqualFuncLapiTrain_v1.loop1] at hq52
        refine W.seq ?_
        refine W.region ?_
        refine WL.vS hS hE (runs_plain rfl) (Gives.p hE rfl) rfl ?_; clear hE a; intro a hE
        refine WL.nil ?_
        refine W.seq ?_
        refine W.condT hE rfl (decide_eq_true (by omega)) ?_
        refine W.skip ?_
        refine W.seq ?_
        refine W.block ?_
        refine W.seq ?_
        refine W.region ?_
        refine WL.vS hS hE (runs_plain rfl) (Gives.p hE rfl) rfl ?_; clear hE a; intro a hE
        obtain ⟨cs64, hl65, hR66, hat67⟩ := h0.at hx59
        obtain ⟨a68, c69, a71, c72, rfl, h70, h73⟩ := hR66
        refine WL.vS hS hE (runs_plain rfl) (Gives.idx hE k54 rfl rfl sl30 rfl hlt58 (h0.aok hlt58)) rfl ?_; clear hE a; intro a hE
        refine WL.vS hS hE (runs_plain rfl) (Gives.loadA hE rfl (fun w h => hat67 w _ h) ty67) rfl ?_; clear hE a; intro a hE
        refine WL.alloc hE hS (runs_plain rfl) zr67 rfl ?_; clear hE hS a w; intro b74 a w hE hS
        refine WL.vS hS hE (runs_plain rfl) (Gives.p hE rfl) rfl ?_; clear hE a; intro a hE
        refine WL.storeI hE hS 0 rfl [.int .i64 x55.No, .int .i64 x55.Stock, .slice a68 x55.Stops.length c69, .slice a71 x55.Legs.length c72] (runs_plain rfl) rfl rfl rfl ty67 rfl rfl rfl rfl ?_; clear hE hS a w; intro a w hE hS
        refine WL.nil ?_
        refine W.seq ?_
        refine W.region ?_
        refine WL.vS hS hE (runs_plain rfl) (Gives.p hE rfl) rfl ?_; clear hE a; intro a hE
        refine WL.vS hS hE (runs_plain rfl) (Gives.p hE rfl) rfl ?_; clear hE a; intro a hE
        obtain ⟨x75, hx76, hq52⟩ := bindS hq52
        obtain ⟨hi77, hlt78, hy79⟩ := gx_some hx76
        obtain ⟨cs80, hl81, hR82, hat83⟩ := h1.at hy79
        obtain ⟨a84, c85, a87, c88, rfl, h86, h89⟩ := hR82
        refine WL.vS hS hE (runs_plain rfl) (Gives.idx hE (((k54 : Nat) : Int)).toNat rfl rfl sl30 hi77 hlt78 (h1.aok hlt78)) rfl ?_; clear hE a; intro a hE
        refine WL.vS hS hE (runs_plain rfl) (Gives.loadA hE rfl (fun w h => hat83 w _ h) ty67) rfl ?_; clear hE a; intro a hE
        refine WL.alloc hE hS (runs_plain rfl) zr67 rfl ?_; clear hE hS a w; intro b90 a w hE hS
        refine WL.storeI hE hS 0 rfl [.int .i64 x75.No, .int .i64 x75.Stock, .slice a84 x75.Stops.length c85, .slice a87 x75.Legs.length c88] (runs_plain rfl) rfl rfl rfl ty67 rfl rfl rfl rfl ?_; clear hE hS a w; intro a w hE hS
        refine WL.nil ?_
        refine W.seq ?_
        refine W.region ?_
        refine WL.vS hS hE (runs_plain rfl) (Gives.p hE rfl) rfl ?_; clear hE a; intro a hE
        refine WL.vS hS hE (runs_plain rfl) (Gives.loadBA hE 1 rfl rfl ty67) rfl ?_; clear hE a; intro a hE
        refine WL.vS hS hE (runs_plain rfl) (Gives.loadBA hE 0 rfl rfl ty67) rfl ?_; clear hE a; intro a hE
        obtain ⟨q91, hq92, hq52⟩ := bindS hq52
        have hc_ := Fishref2SameTrain_ok hS h70 h73 h86 h89 hq92
        refine WL.fnw hE (hc_) rfl (runs_plain rfl) bd45 rfl rfl rfl ?_
        clear hE hS hc_; rintro e w ⟨rfl, hS⟩; refine ⟨_, rfl, ?_⟩; clear a; intro a hE
        refine WL.vS hS hE (runs_plain rfl) (Gives.p hE rfl) rfl ?_; clear hE a; intro a hE
        refine WL.nil ?_
        refine W.cond hE rfl (fun hc93 => ?_) (fun hc93 => ?_)
        · replace hq52 := iteT hc93 hq52
          refine W.seq ?_
          refine W.region ?_
          refine WL.vS hS hE (runs_plain rfl) (Gives.p hE rfl) rfl ?_; clear hE a; intro a hE
          refine WL.nil ?_
          refine W.ret ?_
          subst hK63
          rw [← Option.some.inj hq52] at hr
          dsimp only at hr
          refine finG (fn := Tryd.f44) (rs := [.tmp 6]) (vs := [_]) hE rfl ⟨rfl, trivial⟩ ?_
          obtain rfl := Option.some.inj hr
          replace hS := hS.tail
          replace hS := hS.tail
          exact ⟨rfl, hS⟩
        · replace hq52 := iteF hc93 hq52
          refine W.skip ?_
          refine W.region ?_
          refine WL.vS hS hE (runs_plain rfl) (Gives.inc hE rfl (by have := h0.small; omega)) rfl ?_; clear hE a; intro a hE
          refine WL.vS hS hE (runs_plain rfl) (Gives.p hE rfl) rfl ?_; clear hE a; intro a hE
          refine WL.nil ?_
          replace hS := hS.tail
          replace hS := hS.tail
          subst hK63
          exact ⟨rest56.length, Nat.lt_succ_self _, rest56, k54 + 1, rfl, hd57, hq52, hE.pick _ ⟨rfl, rfl, rfl, rfl, rfl, trivial⟩, hS⟩
    · clear hE hS a w; rintro a w ⟨rfl, hE, hS⟩
      dsimp only at hr
      refine W.seq ?_
      refine W.region ?_
      refine WL.vS hS hE (runs_plain rfl) (Gives.p hE rfl) rfl ?_; clear hE a; intro a hE
      refine WL.nil ?_
      refine W.ret ?_
      refine finG (fn := Tryd.f44) (rs := [.tmp 6]) (vs := [_]) hE rfl ⟨rfl, trivial⟩ ?_
      obtain rfl := Option.some.inj hr
      exact ⟨rfl, hS⟩
set_option maxHeartbeats 8000000 in
theorem Fishref2SameDay_ok  {w : World} {s : Sg} {R : List HP} {x0 : ApiDay} {a0_0 : Option Addr} {c0_0 : Nat} {a0_1 : Option Addr} {c0_1 : Nat} {x1 : ApiDay} {a1_0 : Option Addr} {c1_0 : Nat} {a1_1 : Option Addr} {c1_1 : Nat} (hS : St w s (R)) (h0_0 : Sl 4 RApiTrain s a0_0 c0_0 x0.Trains) (h0_1 : Sl 1 (RL 1 (RI .i64)) s a0_1 c0_1 x0.Turns) (h1_0 : Sl 4 RApiTrain s a1_0 c1_0 x1.Trains) (h1_1 : Sl 1 (RL 1 (RI .i64)) s a1_1 c1_1 x1.Turns) {r : Bool} (hr : Fishref2SameDay x0 x1 = some r) :
    Calls Tryd.prog 16 [.agg (List.toArray [.slice a0_0 x0.Trains.length c0_0, .slice a0_1 x0.Turns.length c0_1]), .agg (List.toArray [.slice a1_0 x1.Trains.length c1_0, .slice a1_1 x1.Turns.length c1_1])].toArray w (fun e w => e = .returned (.bool r) ∧ St w s (R)) := by
  refine enter Tryd.func16 rfl rfl rfl fun a hE => ?_
  rw [Fishref2SameDay] at hr
  refine W.seq ?_
  refine W.region ?_
  refine WL.box hE hS (runs_plain rfl) rfl rfl rfl ?_; clear hE hS a w; intro b51 a w hE hS
  refine WL.box hE hS (runs_plain rfl) rfl rfl rfl ?_; clear hE hS a w; intro b52 a w hE hS
  refine WL.vS hS hE (runs_plain rfl) (Gives.p hE rfl) rfl ?_; clear hE a; intro a hE
  refine WL.nil ?_
  refine W.seq ?_
  obtain ⟨q54, hq53, hr⟩ := bindS hr
  refine W.cut (fun a w => ∃ (q57 : Bool), q57 = q54 ∧ Rep a 17 [(4, .bool q57)] ∧ St w s (pt b52 (.cells #[.slice a1_0 x1.Trains.length c1_0, .slice a1_1 x1.Turns.length c1_1] 33 (0, 0)) :: pt b51 (.cells #[.slice a0_0 x0.Trains.length c0_0, .slice a0_1 x0.Turns.length c0_1] 33 (0, 0)) :: R)) ?_ ?_
  · refine W.gen fun K58 hK58 => ?_
    refine W.region ?_
    refine WL.vS hS hE (runs_plain rfl) (Gives.fld hE rfl fl33_0) rfl ?_; clear hE a; intro a hE
    refine WL.vS hS hE (runs_plain rfl) (Gives.loadB hE 1 rfl rfl rfl ty30) rfl ?_; clear hE a; intro a hE
    refine WL.vS hS hE (runs_plain rfl) (Gives.fld hE rfl fl33_0) rfl ?_; clear hE a; intro a hE
    refine WL.vS hS hE (runs_plain rfl) (Gives.loadB hE 0 rfl rfl rfl ty30) rfl ?_; clear hE a; intro a hE
    obtain ⟨q59, hq60, hq53⟩ := bindS hq53
    have hc_ := SlicesEqualFuncLapiTrain_v1_ok hS h0_0 h1_0 hq60
    refine WL.fnq hE (hc_) (runs_plain rfl) bd44 rfl rfl rfl ?_
    clear hE hS hc_; rintro e w ⟨rfl, hS⟩; refine ⟨_, rfl, ?_⟩; clear a; intro a hE
    refine WL.vS hS hE (runs_plain rfl) (Gives.p hE rfl) rfl ?_; clear hE a; intro a hE
    rcases Bool.eq_false_or_eq_true q59 with hg61 | hg61
    · replace hq53 := iteT hg61 hq53
      refine WL.vS hS hE (runs_if hE rfl rfl rfl hg61) (Gives.fld hE rfl fl33_1) rfl ?_; clear hE a; intro a hE
      refine WL.vS hS hE (runs_if hE rfl rfl rfl hg61) (Gives.loadB hE 1 rfl rfl rfl ty31) rfl ?_; clear hE a; intro a hE
      refine WL.vS hS hE (runs_if hE rfl rfl rfl hg61) (Gives.fld hE rfl fl33_1) rfl ?_; clear hE a; intro a hE
      refine WL.vS hS hE (runs_if hE rfl rfl rfl hg61) (Gives.loadB hE 0 rfl rfl rfl ty31) rfl ?_; clear hE a; intro a hE
      obtain ⟨q62, hq63, hq53⟩ := bindS hq53
      have hc_ := SlicesEqualFuncLLint_v1_ok hS h0_1 h1_1 hq63
      refine WL.fnq hE (hc_) (runs_if hE rfl rfl rfl hg61) bd46 rfl rfl rfl ?_
      clear hE hS hc_; rintro e w ⟨rfl, hS⟩; refine ⟨_, rfl, ?_⟩; clear a; intro a hE
      refine WL.vS hS hE (runs_plain rfl) (Gives.pickT hE rfl hg61 rfl) rfl ?_; clear hE a; intro a hE
      refine WL.vS hS hE (runs_plain rfl) (Gives.p hE rfl) rfl ?_; clear hE a; intro a hE
      refine WL.nil ?_
      subst hK58
      exact ⟨q62, Option.some.inj hq53, hE.pick _ ⟨rfl, trivial⟩, hS⟩
    · replace hq53 := iteF hg61 hq53
      refine WL.no hE (runs_not hE rfl rfl rfl (by rw [hg61]; decide)) rfl ?_; clear hE a; intro a hE
      refine WL.no hE (runs_not hE rfl rfl rfl (by rw [hg61]; decide)) rfl ?_; clear hE a; intro a hE
      refine WL.no hE (runs_not hE rfl rfl rfl (by rw [hg61]; decide)) rfl ?_; clear hE a; intro a hE
      refine WL.no hE (runs_not hE rfl rfl rfl (by rw [hg61]; decide)) rfl ?_; clear hE a; intro a hE
      refine WL.no hE (runs_not hE rfl rfl rfl (by rw [hg61]; decide)) rfl ?_; clear hE a; intro a hE
      refine WL.vS hS hE (runs_plain rfl) (Gives.pickF hE rfl hg61 rfl) rfl ?_; clear hE a; intro a hE
      refine WL.vS hS hE (runs_plain rfl) (Gives.p hE rfl) rfl ?_; clear hE a; intro a hE
      refine WL.nil ?_
      subst hK58
      exact ⟨false, Option.some.inj hq53, hE.pick _ ⟨rfl, trivial⟩, hS⟩
  · clear hE hS a w; rintro a w ⟨q57, rfl, hE, hS⟩
    refine W.ret ?_
    refine finG (fn := Tryd.f16) (rs := [.tmp 4]) (vs := [_]) hE rfl ⟨rfl, trivial⟩ ?_
    obtain rfl := Option.some.inj hr
    replace hS := hS.tail
    replace hS := hS.tail
    exact ⟨rfl, hS⟩
set_option maxHeartbeats 8000000 in
theorem Fishlaw2PlanTexts_ok  {w : World} {s : Sg} {R : List HP} {x0 : ApiDay} {a0_0 : Option Addr} {c0_0 : Nat} {a0_1 : Option Addr} {c0_1 : Nat} (hS : St w s (R)) (hTab : TabX s) (h0_0 : Sl 4 RApiTrain s a0_0 c0_0 x0.Trains) (h0_1 : Sl 1 (RL 1 (RI .i64)) s a0_1 c0_1 x0.Turns) {r : Bool} (hr : Fishlaw2PlanTexts x0 = some r) :
    Calls Tryd.prog 4 [.agg (List.toArray [.slice a0_0 x0.Trains.length c0_0, .slice a0_1 x0.Turns.length c0_1])].toArray w (fun e w => e = .returned (.bool r) ∧ St w s (R)) := by
  refine enter Tryd.func4 rfl rfl rfl fun a hE => ?_
  rw [Fishlaw2PlanTexts] at hr
  refine W.seq ?_
  refine W.region ?_
  refine WL.box hE hS (runs_plain rfl) rfl rfl rfl ?_; clear hE hS a w; intro b51 a w hE hS
  refine WL.vS hS hE (runs_plain rfl) (Gives.p hE rfl) rfl ?_; clear hE a; intro a hE
  refine WL.nil ?_
  refine W.seq ?_
  refine W.region ?_
  refine WL.vS hS hE (runs_plain rfl) (Gives.loadBA hE 0 rfl rfl ty33) rfl ?_; clear hE a; intro a hE
  obtain ⟨q52, hq53, hr⟩ := bindS hr
  have hc_ := PlanText_ok hS (TabG.mono (Sg.Le.refl _) hTab) h0_0 h0_1 hq53
  refine WL.fnq hE (hc_) (runs_plain rfl) bd12 rfl rfl rfl ?_
  clear hE hS hc_; rintro e w ⟨rfl, hS⟩; refine ⟨_, rfl, ?_⟩; clear a; intro a hE
  refine WL.vS hS hE (runs_plain rfl) (Gives.p hE rfl) rfl ?_; clear hE a; intro a hE
  refine WL.vS hS hE (runs_plain rfl) (Gives.p hE rfl) rfl ?_; clear hE a; intro a hE
  refine WL.vS hS hE (runs_plain rfl) (Gives.p hE rfl) rfl ?_; clear hE a; intro a hE
  refine WL.vS hS hE (runs_plain rfl) (Gives.p hE rfl) rfl ?_; clear hE a; intro a hE
  refine WL.vS hS hE (runs_plain rfl) (Gives.p hE rfl) rfl ?_; clear hE a; intro a hE
  refine WL.nil ?_
  refine W.seq ?_
  refine W.seq ?_
  refine W.region ?_
  refine WL.vS hS hE (runs_plain rfl) (Gives.loadBA hE 0 rfl rfl ty33) rfl ?_; clear hE a; intro a hE
  obtain ⟨q54, hq55, hr⟩ := bindS hr
  have hc_ := Fishref2TextFault_ok hS h0_0 h0_1 hq55
  refine WL.fnq hE (hc_) (runs_plain rfl) bd13 rfl rfl rfl ?_
  clear hE hS hc_; rintro e w ⟨rfl, hS⟩; refine ⟨_, rfl, ?_⟩; clear a; intro a hE
  refine WL.vS hS hE (runs_plain rfl) (Gives.p hE rfl) rfl ?_; clear hE a; intro a hE
  refine WL.nil ?_
  refine W.seq ?_
  refine W.region ?_
  refine WL.vS hS hE (runs_plain rfl) (Gives.p hE rfl) rfl ?_; clear hE a; intro a hE
  refine WL.vS hS hE (runs_plain rfl) (Gives.p hE rfl) rfl ?_; clear hE a; intro a hE
  refine WL.nil ?_
  refine W.cond hE rfl (fun hc56 => ?_) (fun hc56 => ?_)
  · replace hr := iteT hc56 hr
    refine W.seq ?_
    obtain ⟨q58, hq57, hr⟩ := bindS hr
    refine W.cut (fun a w => ∃ (q61 : Bool), q61 = q58 ∧ Rep a 52 [(2, .bool q61)] ∧ St w s (pt b51 (.cells #[.slice a0_0 x0.Trains.length c0_0, .slice a0_1 x0.Turns.length c0_1] 33 (0, 0)) :: R)) ?_ ?_
    · refine W.gen fun K62 hK62 => ?_
      refine W.region ?_
      obtain ⟨q63, hq64, hq57⟩ := bindS hq57
      have hc_ := Fishlaw2plans_ok hS (TabG.mono (Sg.Le.refl _) hTab) hq64
      refine WL.fnq hE (hc_) (runs_plain rfl) bd10 rfl rfl rfl ?_
      clear hE hS hc_; rintro e w ⟨rfl, hS⟩; refine ⟨_, rfl, ?_⟩; clear a; intro a hE
      refine WL.vS hS hE (runs_plain rfl) (Gives.p hE rfl) rfl ?_; clear hE a; intro a hE
      rcases Bool.eq_false_or_eq_true q63 with hg65 | hg65
      · replace hq57 := iteT hg65 hq57
        refine WL.vS hS hE (runs_if hE rfl rfl rfl hg65) (Gives.p hE rfl) rfl ?_; clear hE a; intro a hE
        refine WL.vS hS hE (runs_if hE rfl rfl rfl hg65) (Gives.p hE rfl) rfl ?_; clear hE a; intro a hE
        refine WL.vS hS hE (runs_if hE rfl rfl rfl hg65) (Gives.p hE rfl) rfl ?_; clear hE a; intro a hE
        refine WL.vS hS hE (runs_plain rfl) (Gives.pickT hE rfl hg65 rfl) rfl ?_; clear hE a; intro a hE
        refine WL.vS hS hE (runs_plain rfl) (Gives.p hE rfl) rfl ?_; clear hE a; intro a hE
        rcases Bool.eq_false_or_eq_true (q52.2 == q54) with hg66 | hg66
        · replace hq57 := iteT hg66 hq57
          refine WL.vS hS hE (runs_if hE rfl rfl rfl hg66) (Gives.p hE rfl) rfl ?_; clear hE a; intro a hE
          refine WL.vS hS hE (runs_if hE rfl rfl rfl hg66) (Gives.eqSt hE rfl rfl) rfl ?_; clear hE a; intro a hE
          refine WL.vS hS hE (runs_plain rfl) (Gives.pickT hE rfl hg66 rfl) rfl ?_; clear hE a; intro a hE
          refine WL.vS hS hE (runs_plain rfl) (Gives.p hE rfl) rfl ?_; clear hE a; intro a hE
          refine WL.nil ?_
          subst hK62
          exact ⟨(seq q52.1 (str [])), Option.some.inj hq57, hE.pick _ ⟨rfl, trivial⟩, hS⟩
        · replace hq57 := iteF hg66 hq57
          refine WL.no hE (runs_not hE rfl rfl rfl (by rw [hg66]; decide)) rfl ?_; clear hE a; intro a hE
          refine WL.no hE (runs_not hE rfl rfl rfl (by rw [hg66]; decide)) rfl ?_; clear hE a; intro a hE
          refine WL.vS hS hE (runs_plain rfl) (Gives.pickF hE rfl hg66 rfl) rfl ?_; clear hE a; intro a hE
          refine WL.vS hS hE (runs_plain rfl) (Gives.p hE rfl) rfl ?_; clear hE a; intro a hE
          refine WL.nil ?_
          subst hK62
          exact ⟨false, Option.some.inj hq57, hE.pick _ ⟨rfl, trivial⟩, hS⟩
      · replace hq57 := iteF hg65 hq57
        refine WL.no hE (runs_not hE rfl rfl rfl (by rw [hg65]; decide)) rfl ?_; clear hE a; intro a hE
        refine WL.no hE (runs_not hE rfl rfl rfl (by rw [hg65]; decide)) rfl ?_; clear hE a; intro a hE
        refine WL.no hE (runs_not hE rfl rfl rfl (by rw [hg65]; decide)) rfl ?_; clear hE a; intro a hE
        refine WL.vS hS hE (runs_plain rfl) (Gives.pickF hE rfl hg65 rfl) rfl ?_; clear hE a; intro a hE
        refine WL.vS hS hE (runs_plain rfl) (Gives.p hE rfl) rfl ?_; clear hE a; intro a hE
        refine WL.no hE (runs_not hE rfl rfl rfl (by decide)) rfl ?_; clear hE a; intro a hE
        refine WL.no hE (runs_not hE rfl rfl rfl (by decide)) rfl ?_; clear hE a; intro a hE
        refine WL.vS hS hE (runs_plain rfl) (Gives.pickF hE rfl rfl rfl) rfl ?_; clear hE a; intro a hE
        refine WL.vS hS hE (runs_plain rfl) (Gives.p hE rfl) rfl ?_; clear hE a; intro a hE
        refine WL.nil ?_
        subst hK62
        exact ⟨false, Option.some.inj hq57, hE.pick _ ⟨rfl, trivial⟩, hS⟩
    · clear hE hS a w; rintro a w ⟨q61, rfl, hE, hS⟩
      refine W.ret ?_
      refine finG (fn := Tryd.f4) (rs := [.tmp 2]) (vs := [_]) hE rfl ⟨rfl, trivial⟩ ?_
      obtain rfl := Option.some.inj hr
      replace hS := hS.tail
      exact ⟨rfl, hS⟩
  · replace hr := iteF hc56 hr
    refine W.skip ?_
    refine W.seq ?_
    refine W.region ?_
    refine WL.vS hS hE (runs_plain rfl) (Gives.p hE rfl) rfl ?_; clear hE a; intro a hE
    obtain ⟨q67, hq68, hr⟩ := bindS hr
    have hc_ := PlanRead_ok hS (TabG.mono (Sg.Le.refl _) hTab) hq68
    refine WL.fnq hE (hc_) (runs_plain rfl) bd14 rfl rfl rfl ?_
    clear hE hS hc_; rintro e w ⟨cs69, s71, rfl, hle72, h70, hS⟩; refine ⟨_, rfl, ?_⟩; clear a; intro a hE
    replace h0_0 := Sl.mono RApiTrain.mono hle72 h0_0
    replace h0_1 := Sl.mono (RL.mono RI.mono) hle72 h0_1
    obtain ⟨a73, c74, a76, c77, rfl, h75, h78⟩ := h70
    refine WL.vS hS hE (runs_plain rfl) (Gives.p hE rfl) rfl ?_; clear hE a; intro a hE
    refine WL.vS hS hE (runs_plain rfl) (Gives.p hE rfl) rfl ?_; clear hE a; intro a hE
    refine WL.vS hS hE (runs_plain rfl) (Gives.p hE rfl) rfl ?_; clear hE a; intro a hE
    refine WL.alloc hE hS (runs_plain rfl) zr33 rfl ?_; clear hE hS a w; intro b79 a w hE hS
    refine WL.storeI hE hS 0 rfl [.slice a73 q67.1.Trains.length c74, .slice a76 q67.1.Turns.length c77] (runs_plain rfl) rfl rfl rfl ty33 rfl rfl rfl rfl ?_; clear hE hS a w; intro a w hE hS
    refine WL.vS hS hE (runs_plain rfl) (Gives.p hE rfl) rfl ?_; clear hE a; intro a hE
    refine WL.nil ?_
    refine W.seq ?_
    obtain ⟨q81, hq80, hr⟩ := bindS hr
    refine W.cut (fun a w => ∃ (q84 : Bool), q84 = q81 ∧ Rep a 52 [(2, .bool q84)] ∧ St w s71 (pt b79 (.cells #[.slice a73 q67.1.Trains.length c74, .slice a76 q67.1.Turns.length c77] 33 (0, 0)) :: pt b51 (.cells #[.slice a0_0 x0.Trains.length c0_0, .slice a0_1 x0.Turns.length c0_1] 33 (0, 0)) :: R)) ?_ ?_
    · refine W.gen fun K85 hK85 => ?_
      refine W.region ?_
      obtain ⟨q86, hq87, hq80⟩ := bindS hq80
      have hc_ := Fishlaw2plans_ok hS (TabG.mono hle72 hTab) hq87
      refine WL.fnq hE (hc_) (runs_plain rfl) bd10 rfl rfl rfl ?_
      clear hE hS hc_; rintro e w ⟨rfl, hS⟩; refine ⟨_, rfl, ?_⟩; clear a; intro a hE
      refine WL.vS hS hE (runs_plain rfl) (Gives.p hE rfl) rfl ?_; clear hE a; intro a hE
      rcases Bool.eq_false_or_eq_true q86 with hg88 | hg88
      · replace hq80 := iteT hg88 hq80
        refine WL.vS hS hE (runs_if hE rfl rfl rfl hg88) (Gives.p hE rfl) rfl ?_; clear hE a; intro a hE
        refine WL.vS hS hE (runs_if hE rfl rfl rfl hg88) (Gives.p hE rfl) rfl ?_; clear hE a; intro a hE
        refine WL.vS hS hE (runs_plain rfl) (Gives.pickT hE rfl hg88 rfl) rfl ?_; clear hE a; intro a hE
        refine WL.vS hS hE (runs_plain rfl) (Gives.p hE rfl) rfl ?_; clear hE a; intro a hE
        rcases Bool.eq_false_or_eq_true (q52.2 == 0) with hg89 | hg89
        · replace hq80 := iteT hg89 hq80
          refine WL.vS hS hE (runs_if hE rfl rfl rfl hg89) (Gives.p hE rfl) rfl ?_; clear hE a; intro a hE
          refine WL.vS hS hE (runs_if hE rfl rfl rfl hg89) (Gives.loadBA hE 1 rfl rfl ty33) rfl ?_; clear hE a; intro a hE
          obtain ⟨q90, hq91, hq80⟩ := bindS hq80
          have hc_ := Fishref2DayText_ok hS (TabG.mono hle72 hTab) h0_0 h0_1 hq91
          refine WL.fnq hE (hc_) (runs_if hE rfl rfl rfl hg89) bd15 rfl rfl rfl ?_
          clear hE hS hc_; rintro e w ⟨rfl, hS⟩; refine ⟨_, rfl, ?_⟩; clear a; intro a hE
          refine WL.vS hS hE (runs_if hE rfl rfl rfl hg89) (Gives.eqSt hE rfl rfl) rfl ?_; clear hE a; intro a hE
          refine WL.vS hS hE (runs_plain rfl) (Gives.pickT hE rfl hg89 rfl) rfl ?_; clear hE a; intro a hE
          refine WL.vS hS hE (runs_plain rfl) (Gives.p hE rfl) rfl ?_; clear hE a; intro a hE
          rcases Bool.eq_false_or_eq_true (seq q52.1 q90) with hg92 | hg92
          · replace hq80 := iteT hg92 hq80
            refine WL.vS hS hE (runs_if hE rfl rfl rfl hg92) (Gives.p hE rfl) rfl ?_; clear hE a; intro a hE
            refine WL.vS hS hE (runs_if hE rfl rfl rfl hg92) (Gives.p hE rfl) rfl ?_; clear hE a; intro a hE
            refine WL.vS hS hE (runs_plain rfl) (Gives.pickT hE rfl hg92 rfl) rfl ?_; clear hE a; intro a hE
            refine WL.vS hS hE (runs_plain rfl) (Gives.p hE rfl) rfl ?_; clear hE a; intro a hE
            rcases Bool.eq_false_or_eq_true (q67.2 == 0) with hg93 | hg93
            · replace hq80 := iteT hg93 hq80
              refine WL.vS hS hE (runs_if hE rfl rfl rfl hg93) (Gives.loadBA hE 0 rfl rfl ty33) rfl ?_; clear hE a; intro a hE
              refine WL.vS hS hE (runs_if hE rfl rfl rfl hg93) (Gives.loadBA hE 1 rfl rfl ty33) rfl ?_; clear hE a; intro a hE
              obtain ⟨q94, hq95, hq80⟩ := bindS hq80
              have hc_ := Fishref2SameDay_ok hS h75 h78 h0_0 h0_1 hq95
              refine WL.fnq hE (hc_) (runs_if hE rfl rfl rfl hg93) bd16 rfl rfl rfl ?_
              clear hE hS hc_; rintro e w ⟨rfl, hS⟩; refine ⟨_, rfl, ?_⟩; clear a; intro a hE
              refine WL.vS hS hE (runs_plain rfl) (Gives.pickT hE rfl hg93 rfl) rfl ?_; clear hE a; intro a hE
              refine WL.vS hS hE (runs_plain rfl) (Gives.p hE rfl) rfl ?_; clear hE a; intro a hE
              refine WL.nil ?_
              subst hK85
              exact ⟨q94, Option.some.inj hq80, hE.pick _ ⟨rfl, trivial⟩, hS⟩
            · replace hq80 := iteF hg93 hq80
              refine WL.no hE (runs_not hE rfl rfl rfl (by rw [hg93]; decide)) rfl ?_; clear hE a; intro a hE
              refine WL.no hE (runs_not hE rfl rfl rfl (by rw [hg93]; decide)) rfl ?_; clear hE a; intro a hE
              refine WL.no hE (runs_not hE rfl rfl rfl (by rw [hg93]; decide)) rfl ?_; clear hE a; intro a hE
              refine WL.vS hS hE (runs_plain rfl) (Gives.pickF hE rfl hg93 rfl) rfl ?_; clear hE a; intro a hE
              refine WL.vS hS hE (runs_plain rfl) (Gives.p hE rfl) rfl ?_; clear hE a; intro a hE
              refine WL.nil ?_
              subst hK85
              exact ⟨false, Option.some.inj hq80, hE.pick _ ⟨rfl, trivial⟩, hS⟩
          · replace hq80 := iteF hg92 hq80
            refine WL.no hE (runs_not hE rfl rfl rfl (by rw [hg92]; decide)) rfl ?_; clear hE a; intro a hE
            refine WL.no hE (runs_not hE rfl rfl rfl (by rw [hg92]; decide)) rfl ?_; clear hE a; intro a hE
            refine WL.vS hS hE (runs_plain rfl) (Gives.pickF hE rfl hg92 rfl) rfl ?_; clear hE a; intro a hE
            refine WL.vS hS hE (runs_plain rfl) (Gives.p hE rfl) rfl ?_; clear hE a; intro a hE
            refine WL.no hE (runs_not hE rfl rfl rfl (by decide)) rfl ?_; clear hE a; intro a hE
            refine WL.no hE (runs_not hE rfl rfl rfl (by decide)) rfl ?_; clear hE a; intro a hE
            refine WL.no hE (runs_not hE rfl rfl rfl (by decide)) rfl ?_; clear hE a; intro a hE
            refine WL.vS hS hE (runs_plain rfl) (Gives.pickF hE rfl rfl rfl) rfl ?_; clear hE a; intro a hE
            refine WL.vS hS hE (runs_plain rfl) (Gives.p hE rfl) rfl ?_; clear hE a; intro a hE
            refine WL.nil ?_
            subst hK85
            exact ⟨false, Option.some.inj hq80, hE.pick _ ⟨rfl, trivial⟩, hS⟩
        · replace hq80 := iteF hg89 hq80
          refine WL.no hE (runs_not hE rfl rfl rfl (by rw [hg89]; decide)) rfl ?_; clear hE a; intro a hE
          refine WL.no hE (runs_not hE rfl rfl rfl (by rw [hg89]; decide)) rfl ?_; clear hE a; intro a hE
          refine WL.no hE (runs_not hE rfl rfl rfl (by rw [hg89]; decide)) rfl ?_; clear hE a; intro a hE
          refine WL.no hE (runs_not hE rfl rfl rfl (by rw [hg89]; decide)) rfl ?_; clear hE a; intro a hE
          refine WL.vS hS hE (runs_plain rfl) (Gives.pickF hE rfl hg89 rfl) rfl ?_; clear hE a; intro a hE
          refine WL.vS hS hE (runs_plain rfl) (Gives.p hE rfl) rfl ?_; clear hE a; intro a hE
          refine WL.no hE (runs_not hE rfl rfl rfl (by decide)) rfl ?_; clear hE a; intro a hE
          refine WL.no hE (runs_not hE rfl rfl rfl (by decide)) rfl ?_; clear hE a; intro a hE
          refine WL.vS hS hE (runs_plain rfl) (Gives.pickF hE rfl rfl rfl) rfl ?_; clear hE a; intro a hE
          refine WL.vS hS hE (runs_plain rfl) (Gives.p hE rfl) rfl ?_; clear hE a; intro a hE
          refine WL.no hE (runs_not hE rfl rfl rfl (by decide)) rfl ?_; clear hE a; intro a hE
          refine WL.no hE (runs_not hE rfl rfl rfl (by decide)) rfl ?_; clear hE a; intro a hE
          refine WL.no hE (runs_not hE rfl rfl rfl (by decide)) rfl ?_; clear hE a; intro a hE
          refine WL.vS hS hE (runs_plain rfl) (Gives.pickF hE rfl rfl rfl) rfl ?_; clear hE a; intro a hE
          refine WL.vS hS hE (runs_plain rfl) (Gives.p hE rfl) rfl ?_; clear hE a; intro a hE
          refine WL.nil ?_
          subst hK85
          exact ⟨false, Option.some.inj hq80, hE.pick _ ⟨rfl, trivial⟩, hS⟩
      · replace hq80 := iteF hg88 hq80
        refine WL.no hE (runs_not hE rfl rfl rfl (by rw [hg88]; decide)) rfl ?_; clear hE a; intro a hE
        refine WL.no hE (runs_not hE rfl rfl rfl (by rw [hg88]; decide)) rfl ?_; clear hE a; intro a hE
        refine WL.vS hS hE (runs_plain rfl) (Gives.pickF hE rfl hg88 rfl) rfl ?_; clear hE a; intro a hE
        refine WL.vS hS hE (runs_plain rfl) (Gives.p hE rfl) rfl ?_; clear hE a; intro a hE
        refine WL.no hE (runs_not hE rfl rfl rfl (by decide)) rfl ?_; clear hE a; intro a hE
        refine WL.no hE (runs_not hE rfl rfl rfl (by decide)) rfl ?_; clear hE a; intro a hE
        refine WL.no hE (runs_not hE rfl rfl rfl (by decide)) rfl ?_; clear hE a; intro a hE
        refine WL.no hE (runs_not hE rfl rfl rfl (by decide)) rfl ?_; clear hE a; intro a hE
        refine WL.vS hS hE (runs_plain rfl) (Gives.pickF hE rfl rfl rfl) rfl ?_; clear hE a; intro a hE
        refine WL.vS hS hE (runs_plain rfl) (Gives.p hE rfl) rfl ?_; clear hE a; intro a hE
        refine WL.no hE (runs_not hE rfl rfl rfl (by decide)) rfl ?_; clear hE a; intro a hE
        refine WL.no hE (runs_not hE rfl rfl rfl (by decide)) rfl ?_; clear hE a; intro a hE
        refine WL.vS hS hE (runs_plain rfl) (Gives.pickF hE rfl rfl rfl) rfl ?_; clear hE a; intro a hE
        refine WL.vS hS hE (runs_plain rfl) (Gives.p hE rfl) rfl ?_; clear hE a; intro a hE
        refine WL.no hE (runs_not hE rfl rfl rfl (by decide)) rfl ?_; clear hE a; intro a hE
        refine WL.no hE (runs_not hE rfl rfl rfl (by decide)) rfl ?_; clear hE a; intro a hE
        refine WL.no hE (runs_not hE rfl rfl rfl (by decide)) rfl ?_; clear hE a; intro a hE
        refine WL.vS hS hE (runs_plain rfl) (Gives.pickF hE rfl rfl rfl) rfl ?_; clear hE a; intro a hE
        refine WL.vS hS hE (runs_plain rfl) (Gives.p hE rfl) rfl ?_; clear hE a; intro a hE
        refine WL.nil ?_
        subst hK85
        exact ⟨false, Option.some.inj hq80, hE.pick _ ⟨rfl, trivial⟩, hS⟩
    · clear hE hS a w; rintro a w ⟨q84, rfl, hE, hS⟩
      refine W.ret ?_
      refine finG (fn := Tryd.f4) (rs := [.tmp 2]) (vs := [_]) hE rfl ⟨rfl, trivial⟩ ?_
      obtain rfl := Option.some.inj hr
      replace hS := hS.tail
      replace hS := hS.tail
      exact ⟨rfl, (hS.down hle72)⟩
end Go.Proofs.YtledekclojpbbaaDoor
