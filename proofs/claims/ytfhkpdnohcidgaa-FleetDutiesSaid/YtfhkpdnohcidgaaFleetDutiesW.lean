/- The walks of the functions that FleetDuties reaches: each call comes to what its mirror says. The conditions are those of each contract. -/
import Derived.Test.YtfhkpdnohcidgaaProg
import Derived.Test.YtfhkpdnohcidgaaFleetDutiesM
import Derived.Test.YtfhkpdnohcidgaaFpMore
import Derived.Test.YtfhkpdnohcidgaaFpCalm
import Derived.Test.YtfhkpdnohcidgaaFleetDutiesW1
namespace Go.Proofs.Ytfhkpdnohcidgaa
open Go Go.Fp
set_option maxHeartbeats 8000000 in
theorem Fishref2Code_ok  {w : World} {s : Sg} {R : List HP} {x0 : List FleetTask} {a0 : Option Addr} {c0 : Nat} {x1 : List Int} {a1 : Option Addr} {c1 : Nat} {x2 : FleetLimits} (hS : St w s (R)) (h0 : Sl 6 RFleetTask s a0 c0 x0) (h1 : Sl 1 (RI .i64) s a1 c1 x1) {r : Int} (hr : Fishref2Code x0 x1 x2 = some r) :
    Calls Try.prog 83 [.slice a0 x0.length c0, .slice a1 x1.length c1, .agg (FleetLimits.cells x2).toArray].toArray w (fun e w => e = .returned (.int .i64 r) ∧ St w s (R)) := by
  refine enter Try.func83 rfl rfl rfl fun a hE => ?_
  rw [Fishref2Code] at hr
  refine W.seq ?_
  refine W.region ?_
  refine WL.box hE hS (runs_plain rfl) rfl rfl rfl ?_; clear hE hS a w; intro b51 a w hE hS
  refine WL.vS hS hE (runs_plain rfl) (Gives.p hE rfl) rfl ?_; clear hE a; intro a hE
  refine WL.nil ?_
  refine W.seq ?_
  refine W.gen fun K52 hK52 => ?_
  refine W.regionE (sel (fun w => St w s (pt b51 (.cells (FleetLimits.cells x2).toArray 24 (0, 0)) :: R)) (fun w => St w s (pt b51 (.cells (FleetLimits.cells x2).toArray 24 (0, 0)) :: R))) (fun b i => cond b ([0, 1, 2, 3, 4, 5, 6, 7, 8, 9, 10, 11, 12, 13, 14, 15, 16, 17, 18].contains i) ([0, 1, 2, 3, 4, 5, 6, 7, 8, 9, 10, 11, 12, 13, 14, 15, 16, 17, 18].contains i)) mixed ?_
  replace hS := hS.drew
  refine Rg.takeP (i := 0) hE rfl (by kernel_rfl) (runs_plain rfl) (Gives.p hE rfl) rfl (tw_sel (fun _ => hS) (fun _ => hS)) ?_; clear hE a; intro a hE
  refine Rg.takeP (i := 1) hE rfl (by kernel_rfl) (runs_plain rfl) (Gives.p hE rfl) rfl (tw_sel (fun _ => hS) (fun _ => hS)) ?_; clear hE a; intro a hE
  obtain ⟨x53, hx54, hr⟩ := bindS hr
  obtain ⟨hi55, hlt56, hy57⟩ := gx_some hx54
  obtain ⟨cs58, hl59, hR60, hat61⟩ := h1.at hy57
  subst hR60
  refine Rg.takeP (i := 2) hE rfl (by kernel_rfl) (runs_plain rfl) (Gives.idx hE ((0 : Int)).toNat rfl rfl sl44 hi55 hlt56 (h1.aok hlt56)) rfl (tw_sel (fun _ => hS) (fun _ => hS)) ?_; clear hE a; intro a hE
  have hT := tw_sel (A := fun w => St w s (pt b51 (.cells (FleetLimits.cells x2).toArray 24 (0, 0)) :: R)) (B := fun w => St w s (pt b51 (.cells (FleetLimits.cells x2).toArray 24 (0, 0)) :: R)) (w := _) (x := true) (y := true) (fun _ => hS) (fun _ => hS)
  have hF := hS; replace hS := hS
  refine Rg.take (i := 3) true rfl hE rfl (by kernel_rfl) (runs_plain rfl) (Gives.load1 hE rfl (fun w h => hat61 w _ h) ty3) rfl hT ?_; clear hE a; intro a hE
  replace hS := hF; clear hF hT
  obtain ⟨x62, hx63, hr⟩ := bindS hr
  obtain ⟨hi64, hlt65, hy66⟩ := gx_some hx63
  obtain ⟨cs67, hl68, hR69, hat70⟩ := h0.at hy66
  subst hR69
  refine Rg.takeP (i := 4) hE rfl (by kernel_rfl) (runs_plain rfl) (Gives.idx hE (x53).toNat rfl rfl sl32 hi64 hlt65 (h0.aok hlt65)) rfl (tw_sel (fun _ => hS) (fun _ => hS)) ?_; clear hE a; intro a hE
  have hT := tw_sel (A := fun w => St w s (pt b51 (.cells (FleetLimits.cells x2).toArray 24 (0, 0)) :: R)) (B := fun w => St w s (pt b51 (.cells (FleetLimits.cells x2).toArray 24 (0, 0)) :: R)) (w := _) (x := true) (y := true) (fun _ => hS) (fun _ => hS)
  have hF := hS; replace hS := hS
  refine Rg.take (i := 5) true rfl hE rfl (by kernel_rfl) (runs_plain rfl) (Gives.loadA hE rfl (fun w h => hat70 w _ h) ty78) rfl hT ?_; clear hE a; intro a hE
  replace hS := hF; clear hF hT
  refine Rg.takeP (i := 6) hE rfl (by kernel_rfl) (runs_plain rfl) (Gives.p hE rfl) rfl (tw_sel (fun _ => hS) (fun _ => hS)) ?_; clear hE a; intro a hE
  refine Rg.takeP (i := 7) hE rfl (by kernel_rfl) (runs_plain rfl) (Gives.p hE rfl) rfl (tw_sel (fun _ => hS) (fun _ => hS)) ?_; clear hE a; intro a hE
  refine Rg.takeP (i := 8) hE rfl (by kernel_rfl) (runs_plain rfl) (Gives.p hE rfl) rfl (tw_sel (fun _ => hS) (fun _ => hS)) ?_; clear hE a; intro a hE
  refine Rg.takeP (i := 9) hE rfl (by kernel_rfl) (runs_plain rfl) (Gives.len hE rfl sl44) rfl (tw_sel (fun _ => hS) (fun _ => hS)) ?_; clear hE a; intro a hE
  refine Rg.takeP (i := 10) hE rfl (by kernel_rfl) (runs_plain rfl) (Gives.p hE rfl) rfl (tw_sel (fun _ => hS) (fun _ => hS)) ?_; clear hE a; intro a hE
  obtain ⟨x71, hx72, hr⟩ := bindS hr
  obtain ⟨hi73, hlt74, hy75⟩ := gx_some hx72
  obtain ⟨cs76, hl77, hR78, hat79⟩ := h1.at hy75
  subst hR78
  refine Rg.takeP (i := 11) hE rfl (by kernel_rfl) (runs_plain rfl) (Gives.idx hE (w64 (((x1).length : Int) - 1)).toNat rfl rfl sl44 hi73 hlt74 (h1.aok hlt74)) rfl (tw_sel (fun _ => hS) (fun _ => hS)) ?_; clear hE a; intro a hE
  have hT := tw_sel (A := fun w => St w s (pt b51 (.cells (FleetLimits.cells x2).toArray 24 (0, 0)) :: R)) (B := fun w => St w s (pt b51 (.cells (FleetLimits.cells x2).toArray 24 (0, 0)) :: R)) (w := _) (x := true) (y := true) (fun _ => hS) (fun _ => hS)
  have hF := hS; replace hS := hS
  refine Rg.take (i := 12) true rfl hE rfl (by kernel_rfl) (runs_plain rfl) (Gives.load1 hE rfl (fun w h => hat79 w _ h) ty3) rfl hT ?_; clear hE a; intro a hE
  replace hS := hF; clear hF hT
  obtain ⟨x80, hx81, hr⟩ := bindS hr
  obtain ⟨hi82, hlt83, hy84⟩ := gx_some hx81
  obtain ⟨cs85, hl86, hR87, hat88⟩ := h0.at hy84
  subst hR87
  refine Rg.takeP (i := 13) hE rfl (by kernel_rfl) (runs_plain rfl) (Gives.idx hE (x71).toNat rfl rfl sl32 hi82 hlt83 (h0.aok hlt83)) rfl (tw_sel (fun _ => hS) (fun _ => hS)) ?_; clear hE a; intro a hE
  have hT := tw_sel (A := fun w => St w s (pt b51 (.cells (FleetLimits.cells x2).toArray 24 (0, 0)) :: R)) (B := fun w => St w s (pt b51 (.cells (FleetLimits.cells x2).toArray 24 (0, 0)) :: R)) (w := _) (x := true) (y := true) (fun _ => hS) (fun _ => hS)
  have hF := hS; replace hS := hS
  refine Rg.take (i := 14) true rfl hE rfl (by kernel_rfl) (runs_plain rfl) (Gives.loadA hE rfl (fun w h => hat88 w _ h) ty78) rfl hT ?_; clear hE a; intro a hE
  replace hS := hF; clear hF hT
  suffices key : ∀ b89 b90 (a : Act) (w : World), Sl 6 RFleetTask s a0 c0 x0 → Sl 1 (RI .i64) s a1 c1 x1 → Rep a 168 [(0, .slice a0 x0.length c0), (1, .slice a1 x1.length c1), (5, .pointer (some ⟨b51, 0, none⟩)), (7, .pointer (some ⟨b89, 0, none⟩)), (8, .pointer (some ⟨b90, 0, none⟩))] → St w s (pt b90 (.cells (FleetTask.cells x80).toArray 78 (0, 0)) :: pt b89 (.cells (FleetTask.cells x62).toArray 78 (0, 0)) :: pt b51 (.cells (FleetLimits.cells x2).toArray 24 (0, 0)) :: R) → K52.nor a w by
    refine Rg.many 15 [16] (by kernel_rfl) ⟨?_, ?_, trivial⟩
    · refine Br.mk (i := 15) true true rfl (by kernel_rfl) (by kernel_rfl) ?_
      refine WL.alloc hE hS (runs_plain rfl) zr78 rfl ?_; clear hE hS a w; intro b89 a w hE hS
      refine WL.nil ?_
      refine ⟨⟨fun _ => (hS.tail), fun _ => (hS.tail)⟩, ?_⟩
      refine Rg.one (i := 16) true true rfl (by kernel_rfl) (by kernel_rfl) (by kernel_rfl) ?_
      refine WL.alloc hE hS (runs_plain rfl) zr78 rfl ?_; clear hE hS a w; intro b90 a w hE hS
      refine WL.nil ?_
      refine ⟨⟨fun _ => ((hS.tail).tail), fun _ => ((hS.tail).tail)⟩, ?_⟩
      refine Rg.one (i := 17) true true rfl (by kernel_rfl) (by kernel_rfl) (by kernel_rfl) ?_
      refine WL.storeI hE hS 1 rfl (FleetTask.cells x62) (runs_plain rfl) rfl rfl rfl ty78 rfl rfl rfl rfl ?_; clear hE hS a w; intro a w hE hS
      refine WL.nil ?_
      refine ⟨⟨fun _ => ((hS.tail).tail), fun _ => ((hS.tail).tail)⟩, ?_⟩
      refine Rg.one (i := 18) true true rfl (by kernel_rfl) (by kernel_rfl) (by kernel_rfl) ?_
      refine WL.storeI hE hS 0 rfl (FleetTask.cells x80) (runs_plain rfl) rfl rfl rfl ty78 rfl rfl rfl rfl ?_; clear hE hS a w; intro a w hE hS
      refine WL.nil ?_
      refine ⟨⟨fun _ => ((hS.tail).tail), fun _ => ((hS.tail).tail)⟩, ?_⟩
      refine Rg.done (by kernel_rfl) ?_
      exact key _ _ _ _ h0 h1 (hE.pick _ ⟨rfl, rfl, rfl, rfl, rfl, trivial⟩) hS
    · refine Br.mk (i := 16) true true rfl (by kernel_rfl) (by kernel_rfl) ?_
      refine WL.alloc hE hS (runs_plain rfl) zr78 rfl ?_; clear hE hS a w; intro b90 a w hE hS
      refine WL.nil ?_
      refine ⟨⟨fun _ => (hS.tail), fun _ => (hS.tail)⟩, ?_⟩
      refine Rg.one (i := 15) true true rfl (by kernel_rfl) (by kernel_rfl) (by kernel_rfl) ?_
      refine WL.alloc hE hS (runs_plain rfl) zr78 rfl ?_; clear hE hS a w; intro b89 a w hE hS
      refine WL.nil ?_
      refine ⟨⟨fun _ => ((hS.tail).tail), fun _ => ((hS.tail).tail)⟩, ?_⟩
      refine Rg.one (i := 17) true true rfl (by kernel_rfl) (by kernel_rfl) (by kernel_rfl) ?_
      refine WL.storeI hE hS 0 rfl (FleetTask.cells x62) (runs_plain rfl) rfl rfl rfl ty78 rfl rfl rfl rfl ?_; clear hE hS a w; intro a w hE hS
      refine WL.nil ?_
      refine ⟨⟨fun _ => ((hS.tail).tail), fun _ => ((hS.tail).tail)⟩, ?_⟩
      refine Rg.one (i := 18) true true rfl (by kernel_rfl) (by kernel_rfl) (by kernel_rfl) ?_
      refine WL.storeI hE hS 1 rfl (FleetTask.cells x80) (runs_plain rfl) rfl rfl rfl ty78 rfl rfl rfl rfl ?_; clear hE hS a w; intro a w hE hS
      refine WL.nil ?_
      refine ⟨⟨fun _ => ((hS.tail).tail), fun _ => ((hS.tail).tail)⟩, ?_⟩
      refine Rg.done (by kernel_rfl) ?_
      replace hS := hS.front 2 rfl
      replace hS := hS.front 1 rfl
      replace hS := hS.front 2 rfl
      exact key _ _ _ _ h0 h1 (hE.pick _ ⟨rfl, rfl, rfl, rfl, rfl, trivial⟩) hS
  clear hE hS a w; intro b89 b90 a w h0 h1 hE hS
  subst hK52
  refine W.seq ?_
  refine W.region ?_
  refine WL.vS hS hE (runs_plain rfl) (Gives.p hE rfl) rfl ?_; clear hE a; intro a hE
  refine WL.nil ?_
  refine W.seq ?_
  refine W.seq ?_
  refine W.region ?_
  refine WL.vS hS hE (runs_plain rfl) (Gives.p hE rfl) rfl ?_; clear hE a; intro a hE
  refine WL.vS hS hE (runs_plain rfl) (Gives.len hE rfl sl44) rfl ?_; clear hE a; intro a hE
  refine WL.vS hS hE (runs_plain rfl) (Gives.p hE rfl) rfl ?_; clear hE a; intro a hE
  refine WL.nil ?_
  obtain ⟨q93, hq92, hr⟩ := bindS hr
  refine W.cut (fun a w => ∃ (q103 : Int), (.next q103) = q93 ∧ Rep a 168 [(0, .slice a0 x0.length c0), (1, .slice a1 x1.length c1), (5, .pointer (some ⟨b51, 0, none⟩)), (7, .pointer (some ⟨b89, 0, none⟩)), (8, .pointer (some ⟨b90, 0, none⟩)), (9, .int .i64 q103)] ∧ St w s (pt b90 (.cells (FleetTask.cells x80).toArray 78 (0, 0)) :: pt b89 (.cells (FleetTask.cells x62).toArray 78 (0, 0)) :: pt b51 (.cells (FleetLimits.cells x2).toArray 24 (0, 0)) :: R)) ?_ ?_
  · refine W.block ?_
    refine W.loop (fun m a w => ∃ (rest96 : List Int) (k94 : Nat), ∃ (q103 : Int), rest96.length = m ∧ x1.drop k94 = rest96 ∧ Fishref2Code.loop1 x0 x1 x2 rest96 k94 q103 = some q93 ∧ Rep a 168 [(0, .slice a0 x0.length c0), (1, .slice a1 x1.length c1), (5, .pointer (some ⟨b51, 0, none⟩)), (7, .pointer (some ⟨b89, 0, none⟩)), (8, .pointer (some ⟨b90, 0, none⟩)), (9, .int .i64 q103), (32, .slice a1 x1.length c1), (33, .int .i64 ((x1).length : Int)), (34, .int .i64 ((k94 : Nat) : Int))] ∧ St w s (pt b90 (.cells (FleetTask.cells x80).toArray 78 (0, 0)) :: pt b89 (.cells (FleetTask.cells x62).toArray 78 (0, 0)) :: pt b51 (.cells (FleetLimits.cells x2).toArray 24 (0, 0)) :: R)) (m := x1.length) ⟨x1, 0, 0, rfl, rfl, hq92, hE.pick _ ⟨rfl, rfl, rfl, rfl, rfl, rfl, rfl, rfl, rfl, trivial⟩, hS⟩ ?_
    clear hE hS a w hq92; rintro m100 a w ⟨rest96, k94, q103, rfl, hd97, hq92, hE, hS⟩
    refine W.gen fun K104 hK104 => ?_
    rcases rest96 with _ | ⟨x95, rest96⟩
    · have hlt98 := drop_nil hd97
      refine W.seq ?_
      refine W.region ?_
      refine WL.vS hS hE (runs_plain rfl) (Gives.p hE rfl) rfl ?_; clear hE a; intro a hE
      refine WL.nil ?_
      refine W.seq ?_
      refine W.condF hE rfl (decide_eq_false (by omega)) ?_
      subst hK104
      refine W.exit rfl ?_
      exact ⟨q103, Option.some.inj hq92, hE.pick _ ⟨rfl, rfl, rfl, rfl, rfl, rfl, trivial⟩, hS⟩
    · obtain ⟨hlt98, hx99, hd97⟩ := drop_cons hd97
      rw [Fishref2Code.loop1] at hq92
      refine W.seq ?_
      refine W.region ?_
      refine WL.vS hS hE (runs_plain rfl) (Gives.p hE rfl) rfl ?_; clear hE a; intro a hE
      refine WL.nil ?_
      refine W.seq ?_
      refine W.condT hE rfl (decide_eq_true (by omega)) ?_
      refine W.skip ?_
      refine W.seq ?_
      refine W.block ?_
      refine W.seq ?_
      refine W.region ?_
      refine WL.vS hS hE (runs_plain rfl) (Gives.p hE rfl) rfl ?_; clear hE a; intro a hE
      obtain ⟨cs105, hl106, hR107, hat108⟩ := h1.at hx99
      subst hR107
      refine WL.vS hS hE (runs_plain rfl) (Gives.idx hE k94 rfl rfl sl44 rfl hlt98 (h1.aok hlt98)) rfl ?_; clear hE a; intro a hE
      refine WL.vS hS hE (runs_plain rfl) (Gives.load1 hE rfl (fun w h => hat108 w _ h) ty3) rfl ?_; clear hE a; intro a hE
      refine WL.vS hS hE (runs_plain rfl) (Gives.p hE rfl) rfl ?_; clear hE a; intro a hE
      refine WL.vS hS hE (runs_plain rfl) (Gives.p hE rfl) rfl ?_; clear hE a; intro a hE
      refine WL.nil ?_
      refine W.seq ?_
      refine W.regionQ (C := fun w => St w s (pt b90 (.cells (FleetTask.cells x80).toArray 78 (0, 0)) :: pt b89 (.cells (FleetTask.cells x62).toArray 78 (0, 0)) :: pt b51 (.cells (FleetLimits.cells x2).toArray 24 (0, 0)) :: R)) mixed (by kernel_rfl) hS.drew ?_
      refine QL.v hE (runs_plain rfl) (Gives.p hE rfl) rfl ?_; clear hE a; intro a hE
      refine QL.v hE (runs_plain rfl) (Gives.p hE rfl) rfl ?_; clear hE a; intro a hE
      refine QL.v hE (runs_plain rfl) (Gives.p hE rfl) rfl ?_; clear hE a; intro a hE
      obtain ⟨x109, hx110, hq92⟩ := bindS hq92
      obtain ⟨hi111, hlt112, hy113⟩ := gx_some hx110
      obtain ⟨cs114, hl115, hR116, hat117⟩ := h0.at hy113
      subst hR116
      refine QL.v hE (runs_plain rfl) (Gives.idx hE (x95).toNat rfl rfl sl32 hi111 hlt112 (h0.aok hlt112)) rfl ?_; clear hE a; intro a hE
      refine QL.v hE (runs_plain rfl) (Gives.fld hE rfl fl78_3) rfl ?_; clear hE a; intro a hE
      refine QL.v hE (runs_plain rfl) (Gives.load1 hE rfl (fun w h => (hat117 w _ h).one rfl) ty3) rfl ?_; clear hE a; intro a hE
      refine QL.v hE (runs_plain rfl) (Gives.p hE rfl) rfl ?_; clear hE a; intro a hE
      refine QL.v hE (runs_plain rfl) (Gives.p hE rfl) rfl ?_; clear hE a; intro a hE
      obtain ⟨x118, hx119, hq92⟩ := bindS hq92
      obtain ⟨hi120, hlt121, hy122⟩ := gx_some hx119
      obtain ⟨cs123, hl124, hR125, hat126⟩ := h0.at hy122
      subst hR125
      refine QL.v hE (runs_plain rfl) (Gives.idx hE (x95).toNat rfl rfl sl32 hi120 hlt121 (h0.aok hlt121)) rfl ?_; clear hE a; intro a hE
      refine QL.v hE (runs_plain rfl) (Gives.fld hE rfl fl78_2) rfl ?_; clear hE a; intro a hE
      refine QL.v hE (runs_plain rfl) (Gives.load1 hE rfl (fun w h => (hat126 w _ h).one rfl) ty3) rfl ?_; clear hE a; intro a hE
      refine QL.v hE (runs_plain rfl) (Gives.p hE rfl) rfl ?_; clear hE a; intro a hE
      refine QL.v hE (runs_plain rfl) (Gives.p hE rfl) rfl ?_; clear hE a; intro a hE
      refine QL.v hE (runs_plain rfl) (Gives.p hE rfl) rfl ?_; clear hE a; intro a hE
      refine QL.nil ?_; clear hS w; intro w hS
      refine W.seq ?_
      refine W.region ?_
      refine WL.vS hS hE (runs_plain rfl) (Gives.p hE rfl) rfl ?_; clear hE a; intro a hE
      refine WL.vS hS hE (runs_plain rfl) (Gives.p hE rfl) rfl ?_; clear hE a; intro a hE
      refine WL.nil ?_
      obtain ⟨q128, hq127, hq92⟩ := bindS hq92
      refine W.cut (fun a w => .next () = q128 ∧ Rep a 168 [(0, .slice a0 x0.length c0), (1, .slice a1 x1.length c1), (5, .pointer (some ⟨b51, 0, none⟩)), (7, .pointer (some ⟨b89, 0, none⟩)), (8, .pointer (some ⟨b90, 0, none⟩)), (9, .int .i64 (w64 (q103 + (w64 (x109.Arr - x118.Dep))))), (32, .slice a1 x1.length c1), (33, .int .i64 ((x1).length : Int)), (34, .int .i64 ((k94 : Nat) : Int))] ∧ St w s (pt b90 (.cells (FleetTask.cells x80).toArray 78 (0, 0)) :: pt b89 (.cells (FleetTask.cells x62).toArray 78 (0, 0)) :: pt b51 (.cells (FleetLimits.cells x2).toArray 24 (0, 0)) :: R)) ?_ ?_
      · refine W.gen fun K131 hK131 => ?_
        refine W.cond hE rfl (fun hc132 => ?_) (fun hc132 => ?_)
        · replace hq127 := iteT hc132 hq127
          refine W.seq ?_
          refine W.region ?_
          refine WL.vS hS hE (runs_plain rfl) (Gives.p hE rfl) rfl ?_; clear hE a; intro a hE
          refine WL.vS hS hE (runs_plain rfl) (Gives.p hE rfl) rfl ?_; clear hE a; intro a hE
          refine WL.vS hS hE (runs_plain rfl) (Gives.p hE rfl) rfl ?_; clear hE a; intro a hE
          refine WL.vS hS hE (runs_plain rfl) (Gives.p hE rfl) rfl ?_; clear hE a; intro a hE
          obtain ⟨x133, hx134, hq127⟩ := bindS hq127
          obtain ⟨hi135, hlt136, hy137⟩ := gx_some hx134
          obtain ⟨cs138, hl139, hR140, hat141⟩ := h1.at hy137
          subst hR140
          refine WL.vS hS hE (runs_plain rfl) (Gives.idx hE (w64 (((k94 : Nat) : Int) - 1)).toNat rfl rfl sl44 hi135 hlt136 (h1.aok hlt136)) rfl ?_; clear hE a; intro a hE
          refine WL.vS hS hE (runs_plain rfl) (Gives.load1 hE rfl (fun w h => hat141 w _ h) ty3) rfl ?_; clear hE a; intro a hE
          obtain ⟨x142, hx143, hq127⟩ := bindS hq127
          obtain ⟨hi144, hlt145, hy146⟩ := gx_some hx143
          obtain ⟨cs147, hl148, hR149, hat150⟩ := h0.at hy146
          subst hR149
          refine WL.vS hS hE (runs_plain rfl) (Gives.idx hE (x133).toNat rfl rfl sl32 hi144 hlt145 (h0.aok hlt145)) rfl ?_; clear hE a; intro a hE
          refine WL.vS hS hE (runs_plain rfl) (Gives.loadA hE rfl (fun w h => hat150 w _ h) ty78) rfl ?_; clear hE a; intro a hE
          refine WL.alloc hE hS (runs_plain rfl) zr78 rfl ?_; clear hE hS a w; intro b151 a w hE hS
          refine WL.storeI hE hS 0 rfl (FleetTask.cells x142) (runs_plain rfl) rfl rfl rfl ty78 rfl rfl rfl rfl ?_; clear hE hS a w; intro a w hE hS
          refine WL.nil ?_
          refine W.seq ?_
          obtain ⟨q153, hq152, hq127⟩ := bindS hq127
          refine W.cut (fun a w => ∃ (q156 : Bool), q156 = q153 ∧ Rep a 168 [(0, .slice a0 x0.length c0), (1, .slice a1 x1.length c1), (5, .pointer (some ⟨b51, 0, none⟩)), (7, .pointer (some ⟨b89, 0, none⟩)), (8, .pointer (some ⟨b90, 0, none⟩)), (9, .int .i64 (w64 (q103 + (w64 (x109.Arr - x118.Dep))))), (32, .slice a1 x1.length c1), (33, .int .i64 ((x1).length : Int)), (34, .int .i64 ((k94 : Nat) : Int)), (82, .bool q156)] ∧ St w s (pt b151 (.cells (FleetTask.cells x142).toArray 78 (0, 0)) :: pt b90 (.cells (FleetTask.cells x80).toArray 78 (0, 0)) :: pt b89 (.cells (FleetTask.cells x62).toArray 78 (0, 0)) :: pt b51 (.cells (FleetLimits.cells x2).toArray 24 (0, 0)) :: R)) ?_ ?_
          · refine W.gen fun K157 hK157 => ?_
            refine W.regionQ (C := fun w => St w s (pt b151 (.cells (FleetTask.cells x142).toArray 78 (0, 0)) :: pt b90 (.cells (FleetTask.cells x80).toArray 78 (0, 0)) :: pt b89 (.cells (FleetTask.cells x62).toArray 78 (0, 0)) :: pt b51 (.cells (FleetLimits.cells x2).toArray 24 (0, 0)) :: R)) mixed (by kernel_rfl) hS.drew ?_
            refine QL.v hE (runs_plain rfl) (Gives.fld hE rfl fl78_1) rfl ?_; clear hE a; intro a hE
            refine QL.v hE (runs_plain rfl) (Gives.loadB hE 0 rfl rfl rfl ty3) rfl ?_; clear hE a; intro a hE
            refine QL.v hE (runs_plain rfl) (Gives.p hE rfl) rfl ?_; clear hE a; intro a hE
            refine QL.v hE (runs_plain rfl) (Gives.p hE rfl) rfl ?_; clear hE a; intro a hE
            obtain ⟨x158, hx159, hq152⟩ := bindS hq152
            obtain ⟨hi160, hlt161, hy162⟩ := gx_some hx159
            obtain ⟨cs163, hl164, hR165, hat166⟩ := h0.at hy162
            subst hR165
            refine QL.v hE (runs_plain rfl) (Gives.idx hE (x95).toNat rfl rfl sl32 hi160 hlt161 (h0.aok hlt161)) rfl ?_; clear hE a; intro a hE
            refine QL.v hE (runs_plain rfl) (Gives.fld hE rfl fl78_0) rfl ?_; clear hE a; intro a hE
            refine QL.v hE (runs_plain rfl) (Gives.load1 hE rfl (fun w h => (hat166 w _ h).one rfl) ty3) rfl ?_; clear hE a; intro a hE
            refine QL.v hE (runs_plain rfl) (Gives.p hE rfl) rfl ?_; clear hE a; intro a hE
            refine QL.v hE (runs_plain rfl) (Gives.p hE rfl) rfl ?_; clear hE a; intro a hE
            rcases Bool.eq_false_or_eq_true (x142.To != x158.From) with hg167 | hg167
            · replace hq152 := iteT hg167 hq152
              refine QL.no hE (runs_not hE rfl rfl rfl (by rw [hg167]; decide)) rfl ?_; clear hE a; intro a hE
              refine QL.no hE (runs_not hE rfl rfl rfl (by rw [hg167]; decide)) rfl ?_; clear hE a; intro a hE
              refine QL.no hE (runs_not hE rfl rfl rfl (by rw [hg167]; decide)) rfl ?_; clear hE a; intro a hE
              refine QL.no hE (runs_not hE rfl rfl rfl (by rw [hg167]; decide)) rfl ?_; clear hE a; intro a hE
              refine QL.no hE (runs_not hE rfl rfl rfl (by rw [hg167]; decide)) rfl ?_; clear hE a; intro a hE
              refine QL.no hE (runs_not hE rfl rfl rfl (by rw [hg167]; decide)) rfl ?_; clear hE a; intro a hE
              refine QL.no hE (runs_not hE rfl rfl rfl (by rw [hg167]; decide)) rfl ?_; clear hE a; intro a hE
              refine QL.no hE (runs_not hE rfl rfl rfl (by rw [hg167]; decide)) rfl ?_; clear hE a; intro a hE
              refine QL.no hE (runs_not hE rfl rfl rfl (by rw [hg167]; decide)) rfl ?_; clear hE a; intro a hE
              refine QL.no hE (runs_not hE rfl rfl rfl (by rw [hg167]; decide)) rfl ?_; clear hE a; intro a hE
              refine QL.no hE (runs_not hE rfl rfl rfl (by rw [hg167]; decide)) rfl ?_; clear hE a; intro a hE
              refine QL.v hE (runs_plain rfl) (Gives.pickT hE rfl hg167 rfl) rfl ?_; clear hE a; intro a hE
              refine QL.nil ?_; clear hS w; intro w hS
              subst hK157
              exact ⟨true, Option.some.inj hq152, hE.pick _ ⟨rfl, rfl, rfl, rfl, rfl, rfl, rfl, rfl, rfl, rfl, trivial⟩, hS⟩
            · replace hq152 := iteF hg167 hq152
              refine QL.v hE (runs_if hE rfl rfl rfl hg167) (Gives.p hE rfl) rfl ?_; clear hE a; intro a hE
              refine QL.v hE (runs_if hE rfl rfl rfl hg167) (Gives.p hE rfl) rfl ?_; clear hE a; intro a hE
              obtain ⟨x168, hx169, hq152⟩ := bindS hq152
              obtain ⟨hi170, hlt171, hy172⟩ := gx_some hx169
              obtain ⟨cs173, hl174, hR175, hat176⟩ := h0.at hy172
              subst hR175
              refine QL.v hE (runs_if hE rfl rfl rfl hg167) (Gives.idx hE (x95).toNat rfl rfl sl32 hi170 hlt171 (h0.aok hlt171)) rfl ?_; clear hE a; intro a hE
              refine QL.v hE (runs_if hE rfl rfl rfl hg167) (Gives.fld hE rfl fl78_2) rfl ?_; clear hE a; intro a hE
              refine QL.v hE (runs_if hE rfl rfl rfl hg167) (Gives.load1 hE rfl (fun w h => (hat176 w _ h).one rfl) ty3) rfl ?_; clear hE a; intro a hE
              refine QL.v hE (runs_if hE rfl rfl rfl hg167) (Gives.fld hE rfl fl78_3) rfl ?_; clear hE a; intro a hE
              refine QL.v hE (runs_if hE rfl rfl rfl hg167) (Gives.loadB hE 0 rfl rfl rfl ty3) rfl ?_; clear hE a; intro a hE
              refine QL.v hE (runs_if hE rfl rfl rfl hg167) (Gives.fld hE rfl fl24_0) rfl ?_; clear hE a; intro a hE
              refine QL.v hE (runs_if hE rfl rfl rfl hg167) (Gives.loadB hE 3 rfl rfl rfl ty3) rfl ?_; clear hE a; intro a hE
              refine QL.v hE (runs_if hE rfl rfl rfl hg167) (Gives.p hE rfl) rfl ?_; clear hE a; intro a hE
              refine QL.v hE (runs_if hE rfl rfl rfl hg167) (Gives.p hE rfl) rfl ?_; clear hE a; intro a hE
              refine QL.v hE (runs_plain rfl) (Gives.pickF hE rfl hg167 rfl) rfl ?_; clear hE a; intro a hE
              refine QL.nil ?_; clear hS w; intro w hS
              subst hK157
              exact ⟨decide (x168.Dep < (w64 (x142.Arr + x2.Change))), Option.some.inj hq152, hE.pick _ ⟨rfl, rfl, rfl, rfl, rfl, rfl, rfl, rfl, rfl, rfl, trivial⟩, hS⟩
          · clear hE hS a w; rintro a w ⟨q156, rfl, hE, hS⟩
            refine W.cond hE rfl (fun hc177 => ?_) (fun hc177 => ?_)
            · replace hq127 := iteT hc177 hq127
              refine W.seq ?_
              refine W.region ?_
              refine WL.vS hS hE (runs_plain rfl) (Gives.p hE rfl) rfl ?_; clear hE a; intro a hE
              refine WL.nil ?_
              refine W.ret ?_
              subst hK131
              subst hK104
              rw [← Option.some.inj hq127] at hq92
              dsimp only at hq92
              rw [← Option.some.inj hq92] at hr
              dsimp only at hr
              refine finG (fn := Try.f83) (rs := [.tmp 6]) (vs := [_]) hE rfl ⟨rfl, trivial⟩ ?_
              obtain rfl := Option.some.inj hr
              replace hS := hS.tail
              replace hS := hS.tail
              replace hS := hS.tail
              replace hS := hS.tail
              exact ⟨rfl, hS⟩
            · replace hq127 := iteF hc177 hq127
              refine W.skip ?_
              replace hS := hS.tail
              subst hK131
              exact ⟨Option.some.inj hq127, hE.pick _ ⟨rfl, rfl, rfl, rfl, rfl, rfl, rfl, rfl, rfl, trivial⟩, hS⟩
        · replace hq127 := iteF hc132 hq127
          refine W.skip ?_
          subst hK131
          exact ⟨Option.some.inj hq127, hE.pick _ ⟨rfl, rfl, rfl, rfl, rfl, rfl, rfl, rfl, rfl, trivial⟩, hS⟩
      · clear hE hS a w; rintro a w ⟨rfl, hE, hS⟩
        dsimp only at hq92
        refine W.region ?_
        refine WL.vS hS hE (runs_plain rfl) (Gives.inc hE rfl (by have := h1.small; omega)) rfl ?_; clear hE a; intro a hE
        refine WL.vS hS hE (runs_plain rfl) (Gives.p hE rfl) rfl ?_; clear hE a; intro a hE
        refine WL.nil ?_
        subst hK104
        exact ⟨rest96.length, Nat.lt_succ_self _, rest96, k94 + 1, (w64 (q103 + (w64 (x109.Arr - x118.Dep)))), rfl, hd97, hq92, hE.pick _ ⟨rfl, rfl, rfl, rfl, rfl, rfl, rfl, rfl, rfl, trivial⟩, hS⟩
  · clear hE hS a w; rintro a w ⟨q103, rfl, hE, hS⟩
    dsimp only at hr
    refine W.seq ?_
    refine W.block ?_
    refine W.seq ?_
    refine W.region ?_
    refine WL.vS hS hE (runs_plain rfl) (Gives.fld hE rfl fl78_3) rfl ?_; clear hE a; intro a hE
    refine WL.vS hS hE (runs_plain rfl) (Gives.loadB hE 0 rfl rfl rfl ty3) rfl ?_; clear hE a; intro a hE
    refine WL.vS hS hE (runs_plain rfl) (Gives.fld hE rfl fl78_2) rfl ?_; clear hE a; intro a hE
    refine WL.vS hS hE (runs_plain rfl) (Gives.loadB hE 1 rfl rfl rfl ty3) rfl ?_; clear hE a; intro a hE
    refine WL.vS hS hE (runs_plain rfl) (Gives.p hE rfl) rfl ?_; clear hE a; intro a hE
    refine WL.vS hS hE (runs_plain rfl) (Gives.fld hE rfl fl24_1) rfl ?_; clear hE a; intro a hE
    refine WL.vS hS hE (runs_plain rfl) (Gives.loadB hE 2 rfl rfl rfl ty3) rfl ?_; clear hE a; intro a hE
    refine WL.vS hS hE (runs_plain rfl) (Gives.p hE rfl) rfl ?_; clear hE a; intro a hE
    refine WL.vS hS hE (runs_plain rfl) (Gives.p hE rfl) rfl ?_; clear hE a; intro a hE
    refine WL.nil ?_
    refine W.cond hE rfl (fun hc178 => ?_) (fun hc178 => ?_)
    · replace hr := iteT hc178 hr
      refine W.seq ?_
      refine W.region ?_
      refine WL.vS hS hE (runs_plain rfl) (Gives.p hE rfl) rfl ?_; clear hE a; intro a hE
      refine WL.nil ?_
      refine W.ret ?_
      refine finG (fn := Try.f83) (rs := [.tmp 6]) (vs := [_]) hE rfl ⟨rfl, trivial⟩ ?_
      obtain rfl := Option.some.inj hr
      replace hS := hS.tail
      replace hS := hS.tail
      replace hS := hS.tail
      exact ⟨rfl, hS⟩
    · replace hr := iteF hc178 hr
      refine W.seq ?_
      refine W.region ?_
      refine WL.vS hS hE (runs_plain rfl) (Gives.p hE rfl) rfl ?_; clear hE a; intro a hE
      refine WL.vS hS hE (runs_plain rfl) (Gives.fld hE rfl fl24_2) rfl ?_; clear hE a; intro a hE
      refine WL.vS hS hE (runs_plain rfl) (Gives.loadB hE 2 rfl rfl rfl ty3) rfl ?_; clear hE a; intro a hE
      refine WL.vS hS hE (runs_plain rfl) (Gives.p hE rfl) rfl ?_; clear hE a; intro a hE
      refine WL.vS hS hE (runs_plain rfl) (Gives.p hE rfl) rfl ?_; clear hE a; intro a hE
      refine WL.nil ?_
      refine W.cond hE rfl (fun hc179 => ?_) (fun hc179 => ?_)
      · replace hr := iteT hc179 hr
        refine W.seq ?_
        refine W.region ?_
        refine WL.vS hS hE (runs_plain rfl) (Gives.p hE rfl) rfl ?_; clear hE a; intro a hE
        refine WL.nil ?_
        refine W.ret ?_
        refine finG (fn := Try.f83) (rs := [.tmp 6]) (vs := [_]) hE rfl ⟨rfl, trivial⟩ ?_
        obtain rfl := Option.some.inj hr
        replace hS := hS.tail
        replace hS := hS.tail
        replace hS := hS.tail
        exact ⟨rfl, hS⟩
      · replace hr := iteF hc179 hr
        refine W.skip ?_
        refine W.seq ?_
        refine W.region ?_
        refine WL.vS hS hE (runs_plain rfl) (Gives.fld hE rfl fl78_2) rfl ?_; clear hE a; intro a hE
        refine WL.vS hS hE (runs_plain rfl) (Gives.loadB hE 1 rfl rfl rfl ty3) rfl ?_; clear hE a; intro a hE
        refine WL.vS hS hE (runs_plain rfl) (Gives.p hE rfl) rfl ?_; clear hE a; intro a hE
        refine WL.nil ?_
        refine W.seq ?_
        refine W.seq ?_
        refine W.region ?_
        refine WL.vS hS hE (runs_plain rfl) (Gives.p hE rfl) rfl ?_; clear hE a; intro a hE
        refine WL.vS hS hE (runs_plain rfl) (Gives.len hE rfl sl44) rfl ?_; clear hE a; intro a hE
        refine WL.vS hS hE (runs_plain rfl) (Gives.p hE rfl) rfl ?_; clear hE a; intro a hE
        refine WL.nil ?_
        obtain ⟨q181, hq180, hr⟩ := bindS hr
        refine W.cut (fun a w => ∃ (q191 : Int), (.next q191) = q181 ∧ Rep a 168 [(7, .pointer (some ⟨b89, 0, none⟩)), (8, .pointer (some ⟨b90, 0, none⟩))] ∧ St w s (pt b90 (.cells (FleetTask.cells x80).toArray 78 (0, 0)) :: pt b89 (.cells (FleetTask.cells x62).toArray 78 (0, 0)) :: pt b51 (.cells (FleetLimits.cells x2).toArray 24 (0, 0)) :: R)) ?_ ?_
        · refine W.block ?_
          refine W.loop (fun m a w => ∃ (rest184 : List Int) (k182 : Nat), ∃ (q191 : Int), rest184.length = m ∧ x1.drop k182 = rest184 ∧ Fishref2Code.loop2 x0 x1 x2 rest184 k182 q191 = some q181 ∧ Rep a 168 [(0, .slice a0 x0.length c0), (1, .slice a1 x1.length c1), (5, .pointer (some ⟨b51, 0, none⟩)), (7, .pointer (some ⟨b89, 0, none⟩)), (8, .pointer (some ⟨b90, 0, none⟩)), (13, .int .i64 q191), (100, .slice a1 x1.length c1), (101, .int .i64 ((x1).length : Int)), (102, .int .i64 ((k182 : Nat) : Int))] ∧ St w s (pt b90 (.cells (FleetTask.cells x80).toArray 78 (0, 0)) :: pt b89 (.cells (FleetTask.cells x62).toArray 78 (0, 0)) :: pt b51 (.cells (FleetLimits.cells x2).toArray 24 (0, 0)) :: R)) (m := x1.length) ⟨x1, 0, x62.Dep, rfl, rfl, hq180, hE.pick _ ⟨rfl, rfl, rfl, rfl, rfl, rfl, rfl, rfl, rfl, trivial⟩, hS⟩ ?_
          clear hE hS a w hq180; rintro m188 a w ⟨rest184, k182, q191, rfl, hd185, hq180, hE, hS⟩
          refine W.gen fun K192 hK192 => ?_
          rcases rest184 with _ | ⟨x183, rest184⟩
          · have hlt186 := drop_nil hd185
            refine W.seq ?_
            refine W.region ?_
            refine WL.vS hS hE (runs_plain rfl) (Gives.p hE rfl) rfl ?_; clear hE a; intro a hE
            refine WL.nil ?_
            refine W.seq ?_
            refine W.condF hE rfl (decide_eq_false (by omega)) ?_
            subst hK192
            refine W.exit rfl ?_
            exact ⟨q191, Option.some.inj hq180, hE.pick _ ⟨rfl, rfl, trivial⟩, hS⟩
          · obtain ⟨hlt186, hx187, hd185⟩ := drop_cons hd185
            rw [Fishref2Code.loop2] at hq180
            refine W.seq ?_
            refine W.region ?_
            refine WL.vS hS hE (runs_plain rfl) (Gives.p hE rfl) rfl ?_; clear hE a; intro a hE
            refine WL.nil ?_
            refine W.seq ?_
            refine W.condT hE rfl (decide_eq_true (by omega)) ?_
            refine W.skip ?_
            refine W.seq ?_
            refine W.block ?_
            refine W.seq ?_
            refine W.region ?_
            refine WL.vS hS hE (runs_plain rfl) (Gives.p hE rfl) rfl ?_; clear hE a; intro a hE
            obtain ⟨cs193, hl194, hR195, hat196⟩ := h1.at hx187
            subst hR195
            refine WL.vS hS hE (runs_plain rfl) (Gives.idx hE k182 rfl rfl sl44 rfl hlt186 (h1.aok hlt186)) rfl ?_; clear hE a; intro a hE
            refine WL.vS hS hE (runs_plain rfl) (Gives.load1 hE rfl (fun w h => hat196 w _ h) ty3) rfl ?_; clear hE a; intro a hE
            refine WL.vS hS hE (runs_plain rfl) (Gives.p hE rfl) rfl ?_; clear hE a; intro a hE
            refine WL.vS hS hE (runs_plain rfl) (Gives.p hE rfl) rfl ?_; clear hE a; intro a hE
            refine WL.nil ?_
            refine W.seq ?_
            obtain ⟨q198, hq197, hq180⟩ := bindS hq180
            refine W.cut (fun a w => ∃ (q201 : Bool), q201 = q198 ∧ Rep a 168 [(0, .slice a0 x0.length c0), (1, .slice a1 x1.length c1), (5, .pointer (some ⟨b51, 0, none⟩)), (7, .pointer (some ⟨b89, 0, none⟩)), (8, .pointer (some ⟨b90, 0, none⟩)), (13, .int .i64 q191), (14, .int .i64 ((k182 : Nat) : Int)), (15, .int .i64 x183), (16, .bool q201), (100, .slice a1 x1.length c1), (101, .int .i64 ((x1).length : Int)), (102, .int .i64 ((k182 : Nat) : Int))] ∧ St w s (pt b90 (.cells (FleetTask.cells x80).toArray 78 (0, 0)) :: pt b89 (.cells (FleetTask.cells x62).toArray 78 (0, 0)) :: pt b51 (.cells (FleetLimits.cells x2).toArray 24 (0, 0)) :: R)) ?_ ?_
            · refine W.gen fun K202 hK202 => ?_
              refine W.regionQ (C := fun w => St w s (pt b90 (.cells (FleetTask.cells x80).toArray 78 (0, 0)) :: pt b89 (.cells (FleetTask.cells x62).toArray 78 (0, 0)) :: pt b51 (.cells (FleetLimits.cells x2).toArray 24 (0, 0)) :: R)) mixed (by kernel_rfl) hS.drew ?_
              refine QL.v hE (runs_plain rfl) (Gives.p hE rfl) rfl ?_; clear hE a; intro a hE
              refine QL.v hE (runs_plain rfl) (Gives.inc hE rfl (by have := h1.small; omega)) rfl ?_; clear hE a; intro a hE
              refine QL.v hE (runs_plain rfl) (Gives.p hE rfl) rfl ?_; clear hE a; intro a hE
              refine QL.v hE (runs_plain rfl) (Gives.len hE rfl sl44) rfl ?_; clear hE a; intro a hE
              refine QL.v hE (runs_plain rfl) (Gives.p hE rfl) rfl ?_; clear hE a; intro a hE
              refine QL.v hE (runs_plain rfl) (Gives.p hE rfl) rfl ?_; clear hE a; intro a hE
              rcases Bool.eq_false_or_eq_true (decide (((k182 + 1 : Nat) : Int) < ((x1).length : Int))) with hg203 | hg203
              · replace hq197 := iteT hg203 hq197
                refine QL.v hE (runs_if hE rfl rfl rfl hg203) (Gives.p hE rfl) rfl ?_; clear hE a; intro a hE
                refine QL.v hE (runs_if hE rfl rfl rfl hg203) (Gives.p hE rfl) rfl ?_; clear hE a; intro a hE
                refine QL.v hE (runs_if hE rfl rfl rfl hg203) (Gives.p hE rfl) rfl ?_; clear hE a; intro a hE
                refine QL.v hE (runs_if hE rfl rfl rfl hg203) (Gives.inc hE rfl (by have := h1.small; omega)) rfl ?_; clear hE a; intro a hE
                obtain ⟨x204, hx205, hq197⟩ := bindS hq197
                obtain ⟨hi206, hlt207, hy208⟩ := gx_some hx205
                obtain ⟨cs209, hl210, hR211, hat212⟩ := h1.at hy208
                subst hR211
                refine QL.v hE (runs_if hE rfl rfl rfl hg203) (Gives.idx hE (((k182 + 1 : Nat) : Int)).toNat rfl rfl sl44 hi206 hlt207 (h1.aok hlt207)) rfl ?_; clear hE a; intro a hE
                refine QL.v hE (runs_if hE rfl rfl rfl hg203) (Gives.load1 hE rfl (fun w h => hat212 w _ h) ty3) rfl ?_; clear hE a; intro a hE
                obtain ⟨x213, hx214, hq197⟩ := bindS hq197
                obtain ⟨hi215, hlt216, hy217⟩ := gx_some hx214
                obtain ⟨cs218, hl219, hR220, hat221⟩ := h0.at hy217
                subst hR220
                refine QL.v hE (runs_if hE rfl rfl rfl hg203) (Gives.idx hE (x204).toNat rfl rfl sl32 hi215 hlt216 (h0.aok hlt216)) rfl ?_; clear hE a; intro a hE
                refine QL.v hE (runs_if hE rfl rfl rfl hg203) (Gives.fld hE rfl fl78_2) rfl ?_; clear hE a; intro a hE
                refine QL.v hE (runs_if hE rfl rfl rfl hg203) (Gives.load1 hE rfl (fun w h => (hat221 w _ h).one rfl) ty3) rfl ?_; clear hE a; intro a hE
                refine QL.v hE (runs_if hE rfl rfl rfl hg203) (Gives.p hE rfl) rfl ?_; clear hE a; intro a hE
                refine QL.v hE (runs_if hE rfl rfl rfl hg203) (Gives.p hE rfl) rfl ?_; clear hE a; intro a hE
                obtain ⟨x222, hx223, hq197⟩ := bindS hq197
                obtain ⟨hi224, hlt225, hy226⟩ := gx_some hx223
                obtain ⟨cs227, hl228, hR229, hat230⟩ := h0.at hy226
                subst hR229
                refine QL.v hE (runs_if hE rfl rfl rfl hg203) (Gives.idx hE (x183).toNat rfl rfl sl32 hi224 hlt225 (h0.aok hlt225)) rfl ?_; clear hE a; intro a hE
                refine QL.v hE (runs_if hE rfl rfl rfl hg203) (Gives.fld hE rfl fl78_3) rfl ?_; clear hE a; intro a hE
                refine QL.v hE (runs_if hE rfl rfl rfl hg203) (Gives.load1 hE rfl (fun w h => (hat230 w _ h).one rfl) ty3) rfl ?_; clear hE a; intro a hE
                refine QL.v hE (runs_if hE rfl rfl rfl hg203) (Gives.p hE rfl) rfl ?_; clear hE a; intro a hE
                refine QL.v hE (runs_if hE rfl rfl rfl hg203) (Gives.fld hE rfl fl24_4) rfl ?_; clear hE a; intro a hE
                refine QL.v hE (runs_if hE rfl rfl rfl hg203) (Gives.loadB hE 2 rfl rfl rfl ty3) rfl ?_; clear hE a; intro a hE
                refine QL.v hE (runs_if hE rfl rfl rfl hg203) (Gives.p hE rfl) rfl ?_; clear hE a; intro a hE
                refine QL.v hE (runs_plain rfl) (Gives.pickT hE rfl hg203 rfl) rfl ?_; clear hE a; intro a hE
                refine QL.v hE (runs_plain rfl) (Gives.p hE rfl) rfl ?_; clear hE a; intro a hE
                refine QL.nil ?_; clear hS w; intro w hS
                subst hK202
                exact ⟨decide ((w64 (x213.Dep - x222.Arr)) ≥ x2.Break), Option.some.inj hq197, hE.pick _ ⟨rfl, rfl, rfl, rfl, rfl, rfl, rfl, rfl, rfl, rfl, rfl, rfl, trivial⟩, hS⟩
              · replace hq197 := iteF hg203 hq197
                refine QL.no hE (runs_not hE rfl rfl rfl (by rw [hg203]; decide)) rfl ?_; clear hE a; intro a hE
                refine QL.no hE (runs_not hE rfl rfl rfl (by rw [hg203]; decide)) rfl ?_; clear hE a; intro a hE
                refine QL.no hE (runs_not hE rfl rfl rfl (by rw [hg203]; decide)) rfl ?_; clear hE a; intro a hE
                refine QL.no hE (runs_not hE rfl rfl rfl (by rw [hg203]; decide)) rfl ?_; clear hE a; intro a hE
                refine QL.no hE (runs_not hE rfl rfl rfl (by rw [hg203]; decide)) rfl ?_; clear hE a; intro a hE
                refine QL.no hE (runs_not hE rfl rfl rfl (by rw [hg203]; decide)) rfl ?_; clear hE a; intro a hE
                refine QL.no hE (runs_not hE rfl rfl rfl (by rw [hg203]; decide)) rfl ?_; clear hE a; intro a hE
                refine QL.no hE (runs_not hE rfl rfl rfl (by rw [hg203]; decide)) rfl ?_; clear hE a; intro a hE
                refine QL.no hE (runs_not hE rfl rfl rfl (by rw [hg203]; decide)) rfl ?_; clear hE a; intro a hE
                refine QL.no hE (runs_not hE rfl rfl rfl (by rw [hg203]; decide)) rfl ?_; clear hE a; intro a hE
                refine QL.no hE (runs_not hE rfl rfl rfl (by rw [hg203]; decide)) rfl ?_; clear hE a; intro a hE
                refine QL.no hE (runs_not hE rfl rfl rfl (by rw [hg203]; decide)) rfl ?_; clear hE a; intro a hE
                refine QL.no hE (runs_not hE rfl rfl rfl (by rw [hg203]; decide)) rfl ?_; clear hE a; intro a hE
                refine QL.no hE (runs_not hE rfl rfl rfl (by rw [hg203]; decide)) rfl ?_; clear hE a; intro a hE
                refine QL.no hE (runs_not hE rfl rfl rfl (by rw [hg203]; decide)) rfl ?_; clear hE a; intro a hE
                refine QL.no hE (runs_not hE rfl rfl rfl (by rw [hg203]; decide)) rfl ?_; clear hE a; intro a hE
                refine QL.no hE (runs_not hE rfl rfl rfl (by rw [hg203]; decide)) rfl ?_; clear hE a; intro a hE
                refine QL.no hE (runs_not hE rfl rfl rfl (by rw [hg203]; decide)) rfl ?_; clear hE a; intro a hE
                refine QL.v hE (runs_plain rfl) (Gives.pickF hE rfl hg203 rfl) rfl ?_; clear hE a; intro a hE
                refine QL.v hE (runs_plain rfl) (Gives.p hE rfl) rfl ?_; clear hE a; intro a hE
                refine QL.nil ?_; clear hS w; intro w hS
                subst hK202
                exact ⟨false, Option.some.inj hq197, hE.pick _ ⟨rfl, rfl, rfl, rfl, rfl, rfl, rfl, rfl, rfl, rfl, rfl, rfl, trivial⟩, hS⟩
            · clear hE hS a w; rintro a w ⟨q201, rfl, hE, hS⟩
              refine W.seq ?_
              refine W.seq ?_
              obtain ⟨q232, hq231, hq180⟩ := bindS hq180
              refine W.cut (fun a w => ∃ (q235 : Bool), q235 = q232 ∧ Rep a 168 [(0, .slice a0 x0.length c0), (1, .slice a1 x1.length c1), (5, .pointer (some ⟨b51, 0, none⟩)), (7, .pointer (some ⟨b89, 0, none⟩)), (8, .pointer (some ⟨b90, 0, none⟩)), (13, .int .i64 q191), (14, .int .i64 ((k182 : Nat) : Int)), (16, .bool q201), (100, .slice a1 x1.length c1), (101, .int .i64 ((x1).length : Int)), (102, .int .i64 ((k182 : Nat) : Int)), (151, .bool q235)] ∧ St w s (pt b90 (.cells (FleetTask.cells x80).toArray 78 (0, 0)) :: pt b89 (.cells (FleetTask.cells x62).toArray 78 (0, 0)) :: pt b51 (.cells (FleetLimits.cells x2).toArray 24 (0, 0)) :: R)) ?_ ?_
              · refine W.gen fun K236 hK236 => ?_
                refine W.regionQ (C := fun w => St w s (pt b90 (.cells (FleetTask.cells x80).toArray 78 (0, 0)) :: pt b89 (.cells (FleetTask.cells x62).toArray 78 (0, 0)) :: pt b51 (.cells (FleetLimits.cells x2).toArray 24 (0, 0)) :: R)) mixed (by kernel_rfl) hS.drew ?_
                refine QL.v hE (runs_plain rfl) (Gives.p hE rfl) rfl ?_; clear hE a; intro a hE
                refine QL.v hE (runs_plain rfl) (Gives.p hE rfl) rfl ?_; clear hE a; intro a hE
                rcases Bool.eq_false_or_eq_true q201 with hg237 | hg237
                · replace hq231 := iteT hg237 hq231
                  refine QL.no hE (runs_not hE rfl rfl rfl (by rw [hg237]; decide)) rfl ?_; clear hE a; intro a hE
                  refine QL.no hE (runs_not hE rfl rfl rfl (by rw [hg237]; decide)) rfl ?_; clear hE a; intro a hE
                  refine QL.no hE (runs_not hE rfl rfl rfl (by rw [hg237]; decide)) rfl ?_; clear hE a; intro a hE
                  refine QL.no hE (runs_not hE rfl rfl rfl (by rw [hg237]; decide)) rfl ?_; clear hE a; intro a hE
                  refine QL.no hE (runs_not hE rfl rfl rfl (by rw [hg237]; decide)) rfl ?_; clear hE a; intro a hE
                  refine QL.v hE (runs_plain rfl) (Gives.pickT hE rfl hg237 rfl) rfl ?_; clear hE a; intro a hE
                  refine QL.v hE (runs_plain rfl) (Gives.p hE rfl) rfl ?_; clear hE a; intro a hE
                  refine QL.v hE (runs_if hE rfl rfl rfl rfl) (Gives.p hE rfl) rfl ?_; clear hE a; intro a hE
                  refine QL.v hE (runs_if hE rfl rfl rfl rfl) (Gives.p hE rfl) rfl ?_; clear hE a; intro a hE
                  obtain ⟨x238, hx239, hq231⟩ := bindS hq231
                  obtain ⟨hi240, hlt241, hy242⟩ := gx_some hx239
                  obtain ⟨cs243, hl244, hR245, hat246⟩ := h0.at hy242
                  subst hR245
                  refine QL.v hE (runs_if hE rfl rfl rfl rfl) (Gives.idx hE (x183).toNat rfl rfl sl32 hi240 hlt241 (h0.aok hlt241)) rfl ?_; clear hE a; intro a hE
                  refine QL.v hE (runs_if hE rfl rfl rfl rfl) (Gives.fld hE rfl fl78_3) rfl ?_; clear hE a; intro a hE
                  refine QL.v hE (runs_if hE rfl rfl rfl rfl) (Gives.load1 hE rfl (fun w h => (hat246 w _ h).one rfl) ty3) rfl ?_; clear hE a; intro a hE
                  refine QL.v hE (runs_if hE rfl rfl rfl rfl) (Gives.p hE rfl) rfl ?_; clear hE a; intro a hE
                  refine QL.v hE (runs_if hE rfl rfl rfl rfl) (Gives.p hE rfl) rfl ?_; clear hE a; intro a hE
                  refine QL.v hE (runs_if hE rfl rfl rfl rfl) (Gives.fld hE rfl fl24_3) rfl ?_; clear hE a; intro a hE
                  refine QL.v hE (runs_if hE rfl rfl rfl rfl) (Gives.loadB hE 2 rfl rfl rfl ty3) rfl ?_; clear hE a; intro a hE
                  refine QL.v hE (runs_if hE rfl rfl rfl rfl) (Gives.p hE rfl) rfl ?_; clear hE a; intro a hE
                  refine QL.v hE (runs_plain rfl) (Gives.pickT hE rfl rfl rfl) rfl ?_; clear hE a; intro a hE
                  refine QL.nil ?_; clear hS w; intro w hS
                  subst hK236
                  exact ⟨decide ((w64 (x238.Arr - q191)) > x2.After), Option.some.inj hq231, hE.pick _ ⟨rfl, rfl, rfl, rfl, rfl, rfl, rfl, rfl, rfl, rfl, rfl, rfl, trivial⟩, hS⟩
                · replace hq231 := iteF hg237 hq231
                  refine QL.v hE (runs_if hE rfl rfl rfl hg237) (Gives.p hE rfl) rfl ?_; clear hE a; intro a hE
                  refine QL.v hE (runs_if hE rfl rfl rfl hg237) (Gives.inc hE rfl (by have := h1.small; omega)) rfl ?_; clear hE a; intro a hE
                  refine QL.v hE (runs_if hE rfl rfl rfl hg237) (Gives.p hE rfl) rfl ?_; clear hE a; intro a hE
                  refine QL.v hE (runs_if hE rfl rfl rfl hg237) (Gives.len hE rfl sl44) rfl ?_; clear hE a; intro a hE
                  refine QL.v hE (runs_if hE rfl rfl rfl hg237) (Gives.p hE rfl) rfl ?_; clear hE a; intro a hE
                  refine QL.v hE (runs_plain rfl) (Gives.pickF hE rfl hg237 rfl) rfl ?_; clear hE a; intro a hE
                  refine QL.v hE (runs_plain rfl) (Gives.p hE rfl) rfl ?_; clear hE a; intro a hE
                  rcases Bool.eq_false_or_eq_true (((k182 + 1 : Nat) : Int) == ((x1).length : Int)) with hg247 | hg247
                  · replace hq231 := iteT hg247 hq231
                    refine QL.v hE (runs_if hE rfl rfl rfl hg247) (Gives.p hE rfl) rfl ?_; clear hE a; intro a hE
                    refine QL.v hE (runs_if hE rfl rfl rfl hg247) (Gives.p hE rfl) rfl ?_; clear hE a; intro a hE
                    obtain ⟨x248, hx249, hq231⟩ := bindS hq231
                    obtain ⟨hi250, hlt251, hy252⟩ := gx_some hx249
                    obtain ⟨cs253, hl254, hR255, hat256⟩ := h0.at hy252
                    subst hR255
                    refine QL.v hE (runs_if hE rfl rfl rfl hg247) (Gives.idx hE (x183).toNat rfl rfl sl32 hi250 hlt251 (h0.aok hlt251)) rfl ?_; clear hE a; intro a hE
                    refine QL.v hE (runs_if hE rfl rfl rfl hg247) (Gives.fld hE rfl fl78_3) rfl ?_; clear hE a; intro a hE
                    refine QL.v hE (runs_if hE rfl rfl rfl hg247) (Gives.load1 hE rfl (fun w h => (hat256 w _ h).one rfl) ty3) rfl ?_; clear hE a; intro a hE
                    refine QL.v hE (runs_if hE rfl rfl rfl hg247) (Gives.p hE rfl) rfl ?_; clear hE a; intro a hE
                    refine QL.v hE (runs_if hE rfl rfl rfl hg247) (Gives.p hE rfl) rfl ?_; clear hE a; intro a hE
                    refine QL.v hE (runs_if hE rfl rfl rfl hg247) (Gives.fld hE rfl fl24_3) rfl ?_; clear hE a; intro a hE
                    refine QL.v hE (runs_if hE rfl rfl rfl hg247) (Gives.loadB hE 2 rfl rfl rfl ty3) rfl ?_; clear hE a; intro a hE
                    refine QL.v hE (runs_if hE rfl rfl rfl hg247) (Gives.p hE rfl) rfl ?_; clear hE a; intro a hE
                    refine QL.v hE (runs_plain rfl) (Gives.pickT hE rfl hg247 rfl) rfl ?_; clear hE a; intro a hE
                    refine QL.nil ?_; clear hS w; intro w hS
                    subst hK236
                    exact ⟨decide ((w64 (x248.Arr - q191)) > x2.After), Option.some.inj hq231, hE.pick _ ⟨rfl, rfl, rfl, rfl, rfl, rfl, rfl, rfl, rfl, rfl, rfl, rfl, trivial⟩, hS⟩
                  · replace hq231 := iteF hg247 hq231
                    refine QL.no hE (runs_not hE rfl rfl rfl (by rw [hg247]; decide)) rfl ?_; clear hE a; intro a hE
                    refine QL.no hE (runs_not hE rfl rfl rfl (by rw [hg247]; decide)) rfl ?_; clear hE a; intro a hE
                    refine QL.no hE (runs_not hE rfl rfl rfl (by rw [hg247]; decide)) rfl ?_; clear hE a; intro a hE
                    refine QL.no hE (runs_not hE rfl rfl rfl (by rw [hg247]; decide)) rfl ?_; clear hE a; intro a hE
                    refine QL.no hE (runs_not hE rfl rfl rfl (by rw [hg247]; decide)) rfl ?_; clear hE a; intro a hE
                    refine QL.no hE (runs_not hE rfl rfl rfl (by rw [hg247]; decide)) rfl ?_; clear hE a; intro a hE
                    refine QL.no hE (runs_not hE rfl rfl rfl (by rw [hg247]; decide)) rfl ?_; clear hE a; intro a hE
                    refine QL.no hE (runs_not hE rfl rfl rfl (by rw [hg247]; decide)) rfl ?_; clear hE a; intro a hE
                    refine QL.no hE (runs_not hE rfl rfl rfl (by rw [hg247]; decide)) rfl ?_; clear hE a; intro a hE
                    refine QL.no hE (runs_not hE rfl rfl rfl (by rw [hg247]; decide)) rfl ?_; clear hE a; intro a hE
                    refine QL.v hE (runs_plain rfl) (Gives.pickF hE rfl hg247 rfl) rfl ?_; clear hE a; intro a hE
                    refine QL.nil ?_; clear hS w; intro w hS
                    subst hK236
                    exact ⟨false, Option.some.inj hq231, hE.pick _ ⟨rfl, rfl, rfl, rfl, rfl, rfl, rfl, rfl, rfl, rfl, rfl, rfl, trivial⟩, hS⟩
              · clear hE hS a w; rintro a w ⟨q235, rfl, hE, hS⟩
                refine W.cond hE rfl (fun hc257 => ?_) (fun hc257 => ?_)
                · replace hq180 := iteT hc257 hq180
                  refine W.seq ?_
                  refine W.region ?_
                  refine WL.vS hS hE (runs_plain rfl) (Gives.p hE rfl) rfl ?_; clear hE a; intro a hE
                  refine WL.nil ?_
                  refine W.ret ?_
                  subst hK192
                  rw [← Option.some.inj hq180] at hr
                  dsimp only at hr
                  refine finG (fn := Try.f83) (rs := [.tmp 6]) (vs := [_]) hE rfl ⟨rfl, trivial⟩ ?_
                  obtain rfl := Option.some.inj hr
                  replace hS := hS.tail
                  replace hS := hS.tail
                  replace hS := hS.tail
                  exact ⟨rfl, hS⟩
                · replace hq180 := iteF hc257 hq180
                  refine W.skip ?_
                  refine W.seq ?_
                  refine W.region ?_
                  refine WL.vS hS hE (runs_plain rfl) (Gives.p hE rfl) rfl ?_; clear hE a; intro a hE
                  refine WL.nil ?_
                  obtain ⟨q259, hq258, hq180⟩ := bindS hq180
                  refine W.cut (fun a w => ∃ (q262 : Int), q262 = q259 ∧ Rep a 168 [(0, .slice a0 x0.length c0), (1, .slice a1 x1.length c1), (5, .pointer (some ⟨b51, 0, none⟩)), (7, .pointer (some ⟨b89, 0, none⟩)), (8, .pointer (some ⟨b90, 0, none⟩)), (13, .int .i64 q262), (100, .slice a1 x1.length c1), (101, .int .i64 ((x1).length : Int)), (102, .int .i64 ((k182 : Nat) : Int))] ∧ St w s (pt b90 (.cells (FleetTask.cells x80).toArray 78 (0, 0)) :: pt b89 (.cells (FleetTask.cells x62).toArray 78 (0, 0)) :: pt b51 (.cells (FleetLimits.cells x2).toArray 24 (0, 0)) :: R)) ?_ ?_
                  · refine W.gen fun K263 hK263 => ?_
                    refine W.cond hE rfl (fun hc264 => ?_) (fun hc264 => ?_)
                    · replace hq258 := iteT hc264 hq258
                      refine W.region ?_
                      refine WL.vS hS hE (runs_plain rfl) (Gives.p hE rfl) rfl ?_; clear hE a; intro a hE
                      refine WL.vS hS hE (runs_plain rfl) (Gives.p hE rfl) rfl ?_; clear hE a; intro a hE
                      refine WL.vS hS hE (runs_plain rfl) (Gives.p hE rfl) rfl ?_; clear hE a; intro a hE
                      refine WL.vS hS hE (runs_plain rfl) (Gives.inc hE rfl (by have := h1.small; omega)) rfl ?_; clear hE a; intro a hE
                      obtain ⟨x265, hx266, hq258⟩ := bindS hq258
                      obtain ⟨hi267, hlt268, hy269⟩ := gx_some hx266
                      obtain ⟨cs270, hl271, hR272, hat273⟩ := h1.at hy269
                      subst hR272
                      refine WL.vS hS hE (runs_plain rfl) (Gives.idx hE (((k182 + 1 : Nat) : Int)).toNat rfl rfl sl44 hi267 hlt268 (h1.aok hlt268)) rfl ?_; clear hE a; intro a hE
                      refine WL.vS hS hE (runs_plain rfl) (Gives.load1 hE rfl (fun w h => hat273 w _ h) ty3) rfl ?_; clear hE a; intro a hE
                      obtain ⟨x274, hx275, hq258⟩ := bindS hq258
                      obtain ⟨hi276, hlt277, hy278⟩ := gx_some hx275
                      obtain ⟨cs279, hl280, hR281, hat282⟩ := h0.at hy278
                      subst hR281
                      refine WL.vS hS hE (runs_plain rfl) (Gives.idx hE (x265).toNat rfl rfl sl32 hi276 hlt277 (h0.aok hlt277)) rfl ?_; clear hE a; intro a hE
                      refine WL.vS hS hE (runs_plain rfl) (Gives.fld hE rfl fl78_2) rfl ?_; clear hE a; intro a hE
                      refine WL.vS hS hE (runs_plain rfl) (Gives.load1 hE rfl (fun w h => (hat282 w _ h).one rfl) ty3) rfl ?_; clear hE a; intro a hE
                      refine WL.vS hS hE (runs_plain rfl) (Gives.p hE rfl) rfl ?_; clear hE a; intro a hE
                      refine WL.nil ?_
                      subst hK263
                      exact ⟨x274.Dep, Option.some.inj hq258, hE.pick _ ⟨rfl, rfl, rfl, rfl, rfl, rfl, rfl, rfl, rfl, trivial⟩, hS⟩
                    · replace hq258 := iteF hc264 hq258
                      refine W.skip ?_
                      subst hK263
                      exact ⟨q191, Option.some.inj hq258, hE.pick _ ⟨rfl, rfl, rfl, rfl, rfl, rfl, rfl, rfl, rfl, trivial⟩, hS⟩
                  · clear hE hS a w; rintro a w ⟨q262, rfl, hE, hS⟩
                    refine W.region ?_
                    refine WL.vS hS hE (runs_plain rfl) (Gives.inc hE rfl (by have := h1.small; omega)) rfl ?_; clear hE a; intro a hE
                    refine WL.vS hS hE (runs_plain rfl) (Gives.p hE rfl) rfl ?_; clear hE a; intro a hE
                    refine WL.nil ?_
                    subst hK192
                    exact ⟨rest184.length, Nat.lt_succ_self _, rest184, k182 + 1, q262, rfl, hd185, hq180, hE.pick _ ⟨rfl, rfl, rfl, rfl, rfl, rfl, rfl, rfl, rfl, trivial⟩, hS⟩
        · clear hE hS a w; rintro a w ⟨q191, rfl, hE, hS⟩
          dsimp only at hr
          refine W.seq ?_
          refine W.seq ?_
          refine W.region ?_
          refine WL.vS hS hE (runs_plain rfl) (Gives.fld hE rfl fl78_1) rfl ?_; clear hE a; intro a hE
          refine WL.vS hS hE (runs_plain rfl) (Gives.loadB hE 0 rfl rfl rfl ty3) rfl ?_; clear hE a; intro a hE
          refine WL.vS hS hE (runs_plain rfl) (Gives.fld hE rfl fl78_0) rfl ?_; clear hE a; intro a hE
          refine WL.vS hS hE (runs_plain rfl) (Gives.loadB hE 1 rfl rfl rfl ty3) rfl ?_; clear hE a; intro a hE
          refine WL.vS hS hE (runs_plain rfl) (Gives.p hE rfl) rfl ?_; clear hE a; intro a hE
          refine WL.nil ?_
          refine W.cond hE rfl (fun hc283 => ?_) (fun hc283 => ?_)
          · replace hr := iteT hc283 hr
            refine W.seq ?_
            refine W.region ?_
            refine WL.vS hS hE (runs_plain rfl) (Gives.p hE rfl) rfl ?_; clear hE a; intro a hE
            refine WL.nil ?_
            refine W.ret ?_
            refine finG (fn := Try.f83) (rs := [.tmp 6]) (vs := [_]) hE rfl ⟨rfl, trivial⟩ ?_
            obtain rfl := Option.some.inj hr
            replace hS := hS.tail
            replace hS := hS.tail
            replace hS := hS.tail
            exact ⟨rfl, hS⟩
          · replace hr := iteF hc283 hr
            refine W.skip ?_
            refine W.seq ?_
            refine W.region ?_
            refine WL.vS hS hE (runs_plain rfl) (Gives.p hE rfl) rfl ?_; clear hE a; intro a hE
            refine WL.nil ?_
            refine W.ret ?_
            refine finG (fn := Try.f83) (rs := [.tmp 6]) (vs := [_]) hE rfl ⟨rfl, trivial⟩ ?_
            obtain rfl := Option.some.inj hr
            replace hS := hS.tail
            replace hS := hS.tail
            replace hS := hS.tail
            exact ⟨rfl, hS⟩
set_option maxHeartbeats 8000000 in
theorem MathBitsLen64_ok  {w : World} {s : Sg} {R : List HP} {x0 : Int} (hS : St w s (R))  {r : Int} (hr : MathBitsLen64 x0 = some r) :
    Calls Try.prog 146 [.int .u64 x0].toArray w (fun e w => e = .returned (.int .i64 r) ∧ St w s (R)) := by
  refine enter Try.func146 rfl rfl rfl fun a hE => ?_
  rw [MathBitsLen64] at hr
  refine W.seq ?_
  refine W.region ?_
  refine WL.vS hS hE (runs_plain rfl) (Gives.p hE rfl) rfl ?_; clear hE a; intro a hE
  refine WL.nil ?_
  refine W.seq ?_
  refine W.seq ?_
  refine W.region ?_
  refine WL.vS hS hE (runs_plain rfl) (Gives.p hE rfl) rfl ?_; clear hE a; intro a hE
  refine WL.vS hS hE (runs_plain rfl) (Gives.p hE rfl) rfl ?_; clear hE a; intro a hE
  refine WL.nil ?_
  obtain ⟨q52, hq51, hr⟩ := bndS hr
  refine W.cut (fun a w => ∃ (q55 : Int), ∃ (q56 : Int), (q55, q56) = q52 ∧ Rep a 25 [(0, .int .u64 q55), (2, .int .i64 q56)] ∧ St w s (R)) ?_ ?_
  · refine W.gen fun K57 hK57 => ?_
    refine W.cond hE rfl (fun hc58 => ?_) (fun hc58 => ?_)
    · replace hq51 := iteT hc58 hq51
      refine W.seq ?_
      refine W.region ?_
      refine WL.vS hS hE (runs_plain rfl) (Gives.p hE rfl) rfl ?_; clear hE a; intro a hE
      refine WL.vS hS hE (runs_plain rfl) (Gives.shr hE rfl rfl (by decide)) rfl ?_; clear hE a; intro a hE
      refine WL.vS hS hE (runs_plain rfl) (Gives.p hE rfl) rfl ?_; clear hE a; intro a hE
      refine WL.nil ?_
      refine W.region ?_
      refine WL.vS hS hE (runs_plain rfl) (Gives.p hE rfl) rfl ?_; clear hE a; intro a hE
      refine WL.nil ?_
      subst hK57
      exact ⟨Int.fdiv x0 (2 ^ (min (Int.toNat 32) (IntKind.bits .u64))), 32, hq51, hE.pick _ ⟨rfl, rfl, trivial⟩, hS⟩
    · replace hq51 := iteF hc58 hq51
      refine W.skip ?_
      subst hK57
      exact ⟨x0, 0, hq51, hE.pick _ ⟨rfl, rfl, trivial⟩, hS⟩
  · clear hE hS a w; rintro a w ⟨q55, q56, rfl, hE, hS⟩
    dsimp only at hr
    refine W.seq ?_
    refine W.seq ?_
    refine W.region ?_
    refine WL.vS hS hE (runs_plain rfl) (Gives.p hE rfl) rfl ?_; clear hE a; intro a hE
    refine WL.vS hS hE (runs_plain rfl) (Gives.p hE rfl) rfl ?_; clear hE a; intro a hE
    refine WL.nil ?_
    obtain ⟨q60, hq59, hr⟩ := bndS hr
    refine W.cut (fun a w => ∃ (q63 : Int), ∃ (q64 : Int), (q63, q64) = q60 ∧ Rep a 25 [(0, .int .u64 q63), (2, .int .i64 q64)] ∧ St w s (R)) ?_ ?_
    · refine W.gen fun K65 hK65 => ?_
      refine W.cond hE rfl (fun hc66 => ?_) (fun hc66 => ?_)
      · replace hq59 := iteT hc66 hq59
        refine W.seq ?_
        refine W.region ?_
        refine WL.vS hS hE (runs_plain rfl) (Gives.p hE rfl) rfl ?_; clear hE a; intro a hE
        refine WL.vS hS hE (runs_plain rfl) (Gives.shr hE rfl rfl (by decide)) rfl ?_; clear hE a; intro a hE
        refine WL.vS hS hE (runs_plain rfl) (Gives.p hE rfl) rfl ?_; clear hE a; intro a hE
        refine WL.nil ?_
        refine W.region ?_
        refine WL.vS hS hE (runs_plain rfl) (Gives.p hE rfl) rfl ?_; clear hE a; intro a hE
        refine WL.vS hS hE (runs_plain rfl) (Gives.p hE rfl) rfl ?_; clear hE a; intro a hE
        refine WL.vS hS hE (runs_plain rfl) (Gives.p hE rfl) rfl ?_; clear hE a; intro a hE
        refine WL.nil ?_
        subst hK65
        exact ⟨Int.fdiv q55 (2 ^ (min (Int.toNat 16) (IntKind.bits .u64))), w64 (q56 + 16), hq59, hE.pick _ ⟨rfl, rfl, trivial⟩, hS⟩
      · replace hq59 := iteF hc66 hq59
        refine W.skip ?_
        subst hK65
        exact ⟨q55, q56, hq59, hE.pick _ ⟨rfl, rfl, trivial⟩, hS⟩
    · clear hE hS a w; rintro a w ⟨q63, q64, rfl, hE, hS⟩
      dsimp only at hr
      refine W.seq ?_
      refine W.seq ?_
      refine W.region ?_
      refine WL.vS hS hE (runs_plain rfl) (Gives.p hE rfl) rfl ?_; clear hE a; intro a hE
      refine WL.vS hS hE (runs_plain rfl) (Gives.p hE rfl) rfl ?_; clear hE a; intro a hE
      refine WL.nil ?_
      obtain ⟨q68, hq67, hr⟩ := bndS hr
      refine W.cut (fun a w => ∃ (q71 : Int), ∃ (q72 : Int), (q71, q72) = q68 ∧ Rep a 25 [(0, .int .u64 q71), (2, .int .i64 q72)] ∧ St w s (R)) ?_ ?_
      · refine W.gen fun K73 hK73 => ?_
        refine W.cond hE rfl (fun hc74 => ?_) (fun hc74 => ?_)
        · replace hq67 := iteT hc74 hq67
          refine W.seq ?_
          refine W.region ?_
          refine WL.vS hS hE (runs_plain rfl) (Gives.p hE rfl) rfl ?_; clear hE a; intro a hE
          refine WL.vS hS hE (runs_plain rfl) (Gives.shr hE rfl rfl (by decide)) rfl ?_; clear hE a; intro a hE
          refine WL.vS hS hE (runs_plain rfl) (Gives.p hE rfl) rfl ?_; clear hE a; intro a hE
          refine WL.nil ?_
          refine W.region ?_
          refine WL.vS hS hE (runs_plain rfl) (Gives.p hE rfl) rfl ?_; clear hE a; intro a hE
          refine WL.vS hS hE (runs_plain rfl) (Gives.p hE rfl) rfl ?_; clear hE a; intro a hE
          refine WL.vS hS hE (runs_plain rfl) (Gives.p hE rfl) rfl ?_; clear hE a; intro a hE
          refine WL.nil ?_
          subst hK73
          exact ⟨Int.fdiv q63 (2 ^ (min (Int.toNat 8) (IntKind.bits .u64))), w64 (q64 + 8), hq67, hE.pick _ ⟨rfl, rfl, trivial⟩, hS⟩
        · replace hq67 := iteF hc74 hq67
          refine W.skip ?_
          subst hK73
          exact ⟨q63, q64, hq67, hE.pick _ ⟨rfl, rfl, trivial⟩, hS⟩
      · clear hE hS a w; rintro a w ⟨q71, q72, rfl, hE, hS⟩
        dsimp only at hr
        refine W.seq ?_
        refine W.region ?_
        refine WL.vS hS hE (runs_plain rfl) (Gives.p hE rfl) rfl ?_; clear hE a; intro a hE
        refine WL.vS hS hE (runs_plain rfl) (Gives.p hE rfl) rfl ?_; clear hE a; intro a hE
        refine WL.vS hS hE (runs_plain rfl) (Gives.conv hE rfl hu187 ui5) rfl ?_; clear hE a; intro a hE
        obtain ⟨x75, hx76, hr⟩ := bindS hr
        refine WL.vS hS hE (runs_plain rfl) (Gives.idxS hE st9 rfl rfl hx76) rfl ?_; clear hE a; intro a hE
        refine WL.vS hS hE (runs_plain rfl) (Gives.conv hE rfl hu5 ui3) rfl ?_; clear hE a; intro a hE
        refine WL.vS hS hE (runs_plain rfl) (Gives.p hE rfl) rfl ?_; clear hE a; intro a hE
        refine WL.vS hS hE (runs_plain rfl) (Gives.p hE rfl) rfl ?_; clear hE a; intro a hE
        refine WL.nil ?_
        refine W.ret ?_
        refine finG (fn := Try.f146) (rs := [.tmp 2]) (vs := [_]) hE rfl ⟨rfl, trivial⟩ ?_
        obtain rfl := Option.some.inj hr
        exact ⟨rfl, hS⟩
set_option maxHeartbeats 8000000 in
theorem MathBitsLen_ok  {w : World} {s : Sg} {R : List HP} {x0 : Int} (hS : St w s (R))  {r : Int} (hr : MathBitsLen x0 = some r) :
    Calls Try.prog 122 [.int .u64 x0].toArray w (fun e w => e = .returned (.int .i64 r) ∧ St w s (R)) := by
  refine enter Try.func122 rfl rfl rfl fun a hE => ?_
  rw [MathBitsLen] at hr
  refine W.seq ?_
  refine W.region ?_
  refine WL.vS hS hE (runs_plain rfl) (Gives.p hE rfl) rfl ?_; clear hE a; intro a hE
  refine WL.nil ?_
  refine W.seq ?_
  refine W.condF hE rfl rfl ?_
  refine W.skip ?_
  refine W.seq ?_
  refine W.region ?_
  refine WL.vS hS hE (runs_plain rfl) (Gives.p hE rfl) rfl ?_; clear hE a; intro a hE
  obtain ⟨q51, hq52, hr⟩ := bindS hr
  have hc_ := MathBitsLen64_ok hS  hq52
  refine WL.fnq hE (hc_) (runs_plain rfl) bd146 rfl rfl rfl ?_
  clear hE hS hc_; rintro e w ⟨rfl, hS⟩; refine ⟨_, rfl, ?_⟩; clear a; intro a hE
  refine WL.vS hS hE (runs_plain rfl) (Gives.p hE rfl) rfl ?_; clear hE a; intro a hE
  refine WL.nil ?_
  refine W.ret ?_
  refine finG (fn := Try.f122) (rs := [.tmp 2]) (vs := [_]) hE rfl ⟨rfl, trivial⟩ ?_
  obtain rfl := Option.some.inj hr
  exact ⟨rfl, hS⟩
set_option maxHeartbeats 8000000 in
theorem CmpisNaNint_ok  {w : World} {s : Sg} {R : List HP} {x0 : Int} (hS : St w s (R))  {r : Bool} (hr : CmpisNaNint x0 = r) :
    Calls Try.prog 130 [.int .i64 x0].toArray w (fun e w => e = .returned (.bool r) ∧ St w s (R)) := by
  refine enter Try.func130 rfl rfl rfl fun a hE => ?_
  rw [CmpisNaNint] at hr
  refine W.seq ?_
  refine W.region ?_
  refine WL.vS hS hE (runs_plain rfl) (Gives.p hE rfl) rfl ?_; clear hE a; intro a hE
  refine WL.nil ?_
  refine W.seq ?_
  refine W.region ?_
  refine WL.vS hS hE (runs_plain rfl) (Gives.p hE rfl) rfl ?_; clear hE a; intro a hE
  refine WL.vS hS hE (runs_plain rfl) (Gives.p hE rfl) rfl ?_; clear hE a; intro a hE
  refine WL.vS hS hE (runs_plain rfl) (Gives.p hE rfl) rfl ?_; clear hE a; intro a hE
  refine WL.vS hS hE (runs_plain rfl) (Gives.p hE rfl) rfl ?_; clear hE a; intro a hE
  refine WL.nil ?_
  refine W.ret ?_
  refine finG (fn := Try.f130) (rs := [.tmp 2]) (vs := [_]) hE rfl ⟨rfl, trivial⟩ ?_
  subst hr
  exact ⟨rfl, hS⟩
set_option maxHeartbeats 8000000 in
theorem CmpCompareint_ok  {w : World} {s : Sg} {R : List HP} {x0 : Int} {x1 : Int} (hS : St w s (R))  {r : Int} (hr : CmpCompareint x0 x1 = r) :
    Calls Try.prog 105 [.int .i64 x0, .int .i64 x1].toArray w (fun e w => e = .returned (.int .i64 r) ∧ St w s (R)) := by
  refine enter Try.func105 rfl rfl rfl fun a hE => ?_
  rw [CmpCompareint] at hr
  refine W.seq ?_
  refine W.region ?_
  refine WL.vS hS hE (runs_plain rfl) (Gives.p hE rfl) rfl ?_; clear hE a; intro a hE
  refine WL.nil ?_
  refine W.seq ?_
  refine W.region ?_
  refine WL.vS hS hE (runs_plain rfl) (Gives.p hE rfl) rfl ?_; clear hE a; intro a hE
  refine WL.fnq hE (CmpisNaNint_ok hS  rfl (r := CmpisNaNint x0)) (runs_plain rfl) bd130 rfl rfl rfl ?_
  clear hE hS; rintro e w ⟨rfl, hS⟩; refine ⟨_, rfl, ?_⟩; clear a; intro a hE
  refine WL.vS hS hE (runs_plain rfl) (Gives.p hE rfl) rfl ?_; clear hE a; intro a hE
  refine WL.nil ?_
  refine W.seq ?_
  refine W.region ?_
  refine WL.vS hS hE (runs_plain rfl) (Gives.p hE rfl) rfl ?_; clear hE a; intro a hE
  refine WL.fnq hE (CmpisNaNint_ok hS  rfl (r := CmpisNaNint x1)) (runs_plain rfl) bd130 rfl rfl rfl ?_
  clear hE hS; rintro e w ⟨rfl, hS⟩; refine ⟨_, rfl, ?_⟩; clear a; intro a hE
  refine WL.vS hS hE (runs_plain rfl) (Gives.p hE rfl) rfl ?_; clear hE a; intro a hE
  refine WL.nil ?_
  refine W.seq ?_
  refine W.seq ?_
  refine W.region ?_
  refine WL.vS hS hE (runs_plain rfl) (Gives.p hE rfl) rfl ?_; clear hE a; intro a hE
  refine WL.nil ?_
  refine W.cond hE rfl (fun hc51 => ?_) (fun hc51 => ?_)
  · replace hr := iteT hc51 hr
    refine W.seq ?_
    refine W.seq ?_
    refine W.region ?_
    refine WL.vS hS hE (runs_plain rfl) (Gives.p hE rfl) rfl ?_; clear hE a; intro a hE
    refine WL.nil ?_
    refine W.cond hE rfl (fun hc52 => ?_) (fun hc52 => ?_)
    · replace hr := iteT hc52 hr
      refine W.seq ?_
      refine W.region ?_
      refine WL.vS hS hE (runs_plain rfl) (Gives.p hE rfl) rfl ?_; clear hE a; intro a hE
      refine WL.nil ?_
      refine W.ret ?_
      refine finG (fn := Try.f105) (rs := [.tmp 4]) (vs := [_]) hE rfl ⟨rfl, trivial⟩ ?_
      subst hr
      exact ⟨rfl, hS⟩
    · replace hr := iteF hc52 hr
      refine W.skip ?_
      refine W.seq ?_
      refine W.region ?_
      refine WL.vS hS hE (runs_plain rfl) (Gives.p hE rfl) rfl ?_; clear hE a; intro a hE
      refine WL.nil ?_
      refine W.ret ?_
      refine finG (fn := Try.f105) (rs := [.tmp 4]) (vs := [_]) hE rfl ⟨rfl, trivial⟩ ?_
      subst hr
      exact ⟨rfl, hS⟩
  · replace hr := iteF hc51 hr
    refine W.skip ?_
    refine W.seq ?_
    refine W.seq ?_
    refine W.region ?_
    refine WL.vS hS hE (runs_plain rfl) (Gives.p hE rfl) rfl ?_; clear hE a; intro a hE
    refine WL.nil ?_
    refine W.cond hE rfl (fun hc53 => ?_) (fun hc53 => ?_)
    · replace hr := iteT hc53 hr
      refine W.seq ?_
      refine W.region ?_
      refine WL.vS hS hE (runs_plain rfl) (Gives.p hE rfl) rfl ?_; clear hE a; intro a hE
      refine WL.nil ?_
      refine W.ret ?_
      refine finG (fn := Try.f105) (rs := [.tmp 4]) (vs := [_]) hE rfl ⟨rfl, trivial⟩ ?_
      subst hr
      exact ⟨rfl, hS⟩
    · replace hr := iteF hc53 hr
      refine W.skip ?_
      refine W.seq ?_
      refine W.seq ?_
      refine W.region ?_
      refine WL.vS hS hE (runs_plain rfl) (Gives.p hE rfl) rfl ?_; clear hE a; intro a hE
      refine WL.vS hS hE (runs_plain rfl) (Gives.p hE rfl) rfl ?_; clear hE a; intro a hE
      refine WL.vS hS hE (runs_plain rfl) (Gives.p hE rfl) rfl ?_; clear hE a; intro a hE
      refine WL.nil ?_
      refine W.cond hE rfl (fun hc54 => ?_) (fun hc54 => ?_)
      · replace hr := iteT hc54 hr
        refine W.seq ?_
        refine W.region ?_
        refine WL.vS hS hE (runs_plain rfl) (Gives.p hE rfl) rfl ?_; clear hE a; intro a hE
        refine WL.nil ?_
        refine W.ret ?_
        refine finG (fn := Try.f105) (rs := [.tmp 4]) (vs := [_]) hE rfl ⟨rfl, trivial⟩ ?_
        subst hr
        exact ⟨rfl, hS⟩
      · replace hr := iteF hc54 hr
        refine W.skip ?_
        refine W.seq ?_
        refine W.seq ?_
        refine W.region ?_
        refine WL.vS hS hE (runs_plain rfl) (Gives.p hE rfl) rfl ?_; clear hE a; intro a hE
        refine WL.vS hS hE (runs_plain rfl) (Gives.p hE rfl) rfl ?_; clear hE a; intro a hE
        refine WL.vS hS hE (runs_plain rfl) (Gives.p hE rfl) rfl ?_; clear hE a; intro a hE
        refine WL.nil ?_
        refine W.cond hE rfl (fun hc55 => ?_) (fun hc55 => ?_)
        · replace hr := iteT hc55 hr
          refine W.seq ?_
          refine W.region ?_
          refine WL.vS hS hE (runs_plain rfl) (Gives.p hE rfl) rfl ?_; clear hE a; intro a hE
          refine WL.nil ?_
          refine W.ret ?_
          refine finG (fn := Try.f105) (rs := [.tmp 4]) (vs := [_]) hE rfl ⟨rfl, trivial⟩ ?_
          subst hr
          exact ⟨rfl, hS⟩
        · replace hr := iteF hc55 hr
          refine W.skip ?_
          refine W.seq ?_
          refine W.region ?_
          refine WL.vS hS hE (runs_plain rfl) (Gives.p hE rfl) rfl ?_; clear hE a; intro a hE
          refine WL.nil ?_
          refine W.ret ?_
          refine finG (fn := Try.f105) (rs := [.tmp 4]) (vs := [_]) hE rfl ⟨rfl, trivial⟩ ?_
          subst hr
          exact ⟨rfl, hS⟩
set_option maxHeartbeats 8000000 in
theorem SlicesCompareLint_ok  {w : World} {s : Sg} {R : List HP} {x0 : List Int} {a0 : Option Addr} {c0 : Nat} {x1 : List Int} {a1 : Option Addr} {c1 : Nat} (hS : St w s (R)) (h0 : Sl 1 (RI .i64) s a0 c0 x0) (h1 : Sl 1 (RI .i64) s a1 c1 x1) {r : Int} (hr : SlicesCompareLint x0 x1 = some r) :
    Calls Try.prog 85 [.slice a0 x0.length c0, .slice a1 x1.length c1].toArray w (fun e w => e = .returned (.int .i64 r) ∧ St w s (R)) := by
  refine enter Try.func85 rfl rfl rfl fun a hE => ?_
  rw [SlicesCompareLint] at hr
  refine W.seq ?_
  refine W.region ?_
  refine WL.vS hS hE (runs_plain rfl) (Gives.p hE rfl) rfl ?_; clear hE a; intro a hE
  refine WL.nil ?_
  refine W.seq ?_
  refine W.seq ?_
  refine W.region ?_
  refine WL.vS hS hE (runs_plain rfl) (Gives.p hE rfl) rfl ?_; clear hE a; intro a hE
  refine WL.vS hS hE (runs_plain rfl) (Gives.len hE rfl sl44) rfl ?_; clear hE a; intro a hE
  refine WL.vS hS hE (runs_plain rfl) (Gives.p hE rfl) rfl ?_; clear hE a; intro a hE
  refine WL.nil ?_
  obtain ⟨q52, hq51, hr⟩ := bindS hr
  refine W.cut (fun a w => (.next ()) = q52 ∧ Rep a 36 [(0, .slice a0 x0.length c0), (1, .slice a1 x1.length c1)] ∧ St w s (R)) ?_ ?_
  · refine W.block ?_
    refine W.loop (fun m a w => ∃ (rest55 : List Int) (k53 : Nat), rest55.length = m ∧ x0.drop k53 = rest55 ∧ SlicesCompareLint.loop1 x1 rest55 k53 = some q52 ∧ Rep a 36 [(0, .slice a0 x0.length c0), (1, .slice a1 x1.length c1), (9, .slice a0 x0.length c0), (10, .int .i64 ((x0).length : Int)), (11, .int .i64 ((k53 : Nat) : Int))] ∧ St w s (R)) (m := x0.length) ⟨x0, 0, rfl, rfl, hq51, hE.pick _ ⟨rfl, rfl, rfl, rfl, rfl, trivial⟩, hS⟩ ?_
    clear hE hS a w hq51; rintro m59 a w ⟨rest55, k53, rfl, hd56, hq51, hE, hS⟩
    refine W.gen fun K62 hK62 => ?_
    rcases rest55 with _ | ⟨x54, rest55⟩
    · have hlt57 := drop_nil hd56
      refine W.seq ?_
      refine W.region ?_
      refine WL.vS hS hE (runs_plain rfl) (Gives.p hE rfl) rfl ?_; clear hE a; intro a hE
      refine WL.nil ?_
      refine W.seq ?_
      refine W.condF hE rfl (decide_eq_false (by omega)) ?_
      subst hK62
      refine W.exit rfl ?_
      exact ⟨Option.some.inj hq51, hE.pick _ ⟨rfl, rfl, trivial⟩, hS⟩
    · obtain ⟨hlt57, hx58, hd56⟩ := drop_cons hd56
      rw [SlicesCompareLint.loop1] at hq51
      refine W.seq ?_
      refine W.region ?_
      refine WL.vS hS hE (runs_plain rfl) (Gives.p hE rfl) rfl ?_; clear hE a; intro a hE
      refine WL.nil ?_
      refine W.seq ?_
      refine W.condT hE rfl (decide_eq_true (by omega)) ?_
      refine W.skip ?_
      refine W.seq ?_
      refine W.block ?_
      refine W.seq ?_
      refine W.region ?_
      refine WL.vS hS hE (runs_plain rfl) (Gives.p hE rfl) rfl ?_; clear hE a; intro a hE
      obtain ⟨cs63, hl64, hR65, hat66⟩ := h0.at hx58
      subst hR65
      refine WL.vS hS hE (runs_plain rfl) (Gives.idx hE k53 rfl rfl sl44 rfl hlt57 (h0.aok hlt57)) rfl ?_; clear hE a; intro a hE
      refine WL.vS hS hE (runs_plain rfl) (Gives.load1 hE rfl (fun w h => hat66 w _ h) ty3) rfl ?_; clear hE a; intro a hE
      refine WL.vS hS hE (runs_plain rfl) (Gives.p hE rfl) rfl ?_; clear hE a; intro a hE
      refine WL.vS hS hE (runs_plain rfl) (Gives.p hE rfl) rfl ?_; clear hE a; intro a hE
      refine WL.nil ?_
      refine W.seq ?_
      refine W.seq ?_
      refine W.region ?_
      refine WL.vS hS hE (runs_plain rfl) (Gives.p hE rfl) rfl ?_; clear hE a; intro a hE
      refine WL.vS hS hE (runs_plain rfl) (Gives.p hE rfl) rfl ?_; clear hE a; intro a hE
      refine WL.vS hS hE (runs_plain rfl) (Gives.len hE rfl sl44) rfl ?_; clear hE a; intro a hE
      refine WL.vS hS hE (runs_plain rfl) (Gives.p hE rfl) rfl ?_; clear hE a; intro a hE
      refine WL.nil ?_
      refine W.cond hE rfl (fun hc67 => ?_) (fun hc67 => ?_)
      · replace hq51 := iteT hc67 hq51
        refine W.seq ?_
        refine W.region ?_
        refine WL.vS hS hE (runs_plain rfl) (Gives.p hE rfl) rfl ?_; clear hE a; intro a hE
        refine WL.nil ?_
        refine W.ret ?_
        subst hK62
        rw [← Option.some.inj hq51] at hr
        dsimp only at hr
        refine finG (fn := Try.f85) (rs := [.tmp 4]) (vs := [_]) hE rfl ⟨rfl, trivial⟩ ?_
        obtain rfl := Option.some.inj hr
        exact ⟨rfl, hS⟩
      · replace hq51 := iteF hc67 hq51
        refine W.skip ?_
        refine W.seq ?_
        refine W.region ?_
        refine WL.vS hS hE (runs_plain rfl) (Gives.p hE rfl) rfl ?_; clear hE a; intro a hE
        refine WL.vS hS hE (runs_plain rfl) (Gives.p hE rfl) rfl ?_; clear hE a; intro a hE
        obtain ⟨x68, hx69, hq51⟩ := bindS hq51
        obtain ⟨hi70, hlt71, hy72⟩ := gx_some hx69
        obtain ⟨cs73, hl74, hR75, hat76⟩ := h1.at hy72
        subst hR75
        refine WL.vS hS hE (runs_plain rfl) (Gives.idx hE (((k53 : Nat) : Int)).toNat rfl rfl sl44 hi70 hlt71 (h1.aok hlt71)) rfl ?_; clear hE a; intro a hE
        refine WL.vS hS hE (runs_plain rfl) (Gives.load1 hE rfl (fun w h => hat76 w _ h) ty3) rfl ?_; clear hE a; intro a hE
        refine WL.vS hS hE (runs_plain rfl) (Gives.p hE rfl) rfl ?_; clear hE a; intro a hE
        refine WL.nil ?_
        refine W.seq ?_
        refine W.region ?_
        refine WL.vS hS hE (runs_plain rfl) (Gives.p hE rfl) rfl ?_; clear hE a; intro a hE
        refine WL.vS hS hE (runs_plain rfl) (Gives.p hE rfl) rfl ?_; clear hE a; intro a hE
        refine WL.fnq hE (CmpCompareint_ok hS  rfl (r := CmpCompareint x54 x68)) (runs_plain rfl) bd105 rfl rfl rfl ?_
        clear hE hS; rintro e w ⟨rfl, hS⟩; refine ⟨_, rfl, ?_⟩; clear a; intro a hE
        refine WL.vS hS hE (runs_plain rfl) (Gives.p hE rfl) rfl ?_; clear hE a; intro a hE
        refine WL.nil ?_
        refine W.seq ?_
        refine W.region ?_
        refine WL.vS hS hE (runs_plain rfl) (Gives.p hE rfl) rfl ?_; clear hE a; intro a hE
        refine WL.vS hS hE (runs_plain rfl) (Gives.p hE rfl) rfl ?_; clear hE a; intro a hE
        refine WL.nil ?_
        refine W.cond hE rfl (fun hc77 => ?_) (fun hc77 => ?_)
        · replace hq51 := iteT hc77 hq51
          refine W.seq ?_
          refine W.region ?_
          refine WL.vS hS hE (runs_plain rfl) (Gives.p hE rfl) rfl ?_; clear hE a; intro a hE
          refine WL.vS hS hE (runs_plain rfl) (Gives.p hE rfl) rfl ?_; clear hE a; intro a hE
          refine WL.nil ?_
          refine W.ret ?_
          subst hK62
          rw [← Option.some.inj hq51] at hr
          dsimp only at hr
          refine finG (fn := Try.f85) (rs := [.tmp 4]) (vs := [_]) hE rfl ⟨rfl, trivial⟩ ?_
          obtain rfl := Option.some.inj hr
          exact ⟨rfl, hS⟩
        · replace hq51 := iteF hc77 hq51
          refine W.skip ?_
          refine W.region ?_
          refine WL.vS hS hE (runs_plain rfl) (Gives.inc hE rfl (by have := h0.small; omega)) rfl ?_; clear hE a; intro a hE
          refine WL.vS hS hE (runs_plain rfl) (Gives.p hE rfl) rfl ?_; clear hE a; intro a hE
          refine WL.nil ?_
          subst hK62
          exact ⟨rest55.length, Nat.lt_succ_self _, rest55, k53 + 1, rfl, hd56, hq51, hE.pick _ ⟨rfl, rfl, rfl, rfl, rfl, trivial⟩, hS⟩
  · clear hE hS a w; rintro a w ⟨rfl, hE, hS⟩
    dsimp only at hr
    refine W.seq ?_
    refine W.seq ?_
    refine W.region ?_
    refine WL.vS hS hE (runs_plain rfl) (Gives.p hE rfl) rfl ?_; clear hE a; intro a hE
    refine WL.vS hS hE (runs_plain rfl) (Gives.len hE rfl sl44) rfl ?_; clear hE a; intro a hE
    refine WL.vS hS hE (runs_plain rfl) (Gives.p hE rfl) rfl ?_; clear hE a; intro a hE
    refine WL.vS hS hE (runs_plain rfl) (Gives.len hE rfl sl44) rfl ?_; clear hE a; intro a hE
    refine WL.vS hS hE (runs_plain rfl) (Gives.p hE rfl) rfl ?_; clear hE a; intro a hE
    refine WL.nil ?_
    refine W.cond hE rfl (fun hc78 => ?_) (fun hc78 => ?_)
    · replace hr := iteT hc78 hr
      refine W.seq ?_
      refine W.region ?_
      refine WL.vS hS hE (runs_plain rfl) (Gives.p hE rfl) rfl ?_; clear hE a; intro a hE
      refine WL.nil ?_
      refine W.ret ?_
      refine finG (fn := Try.f85) (rs := [.tmp 4]) (vs := [_]) hE rfl ⟨rfl, trivial⟩ ?_
      obtain rfl := Option.some.inj hr
      exact ⟨rfl, hS⟩
    · replace hr := iteF hc78 hr
      refine W.skip ?_
      refine W.seq ?_
      refine W.region ?_
      refine WL.vS hS hE (runs_plain rfl) (Gives.p hE rfl) rfl ?_; clear hE a; intro a hE
      refine WL.nil ?_
      refine W.ret ?_
      refine finG (fn := Try.f85) (rs := [.tmp 4]) (vs := [_]) hE rfl ⟨rfl, trivial⟩ ?_
      obtain rfl := Option.some.inj hr
      exact ⟨rfl, hS⟩
set_option maxHeartbeats 8000000 in
theorem SlicesinsertionSortCmpFuncLint_v1_ok {fu : Nat}  {w : World} {s : Sg} {R : List HP} {x0 : List (List Int)} {a_v0 : Option Addr} {c_v0 n_v0 : Nat} {cs_v0 : List Value} {x1 : Int} {x2 : Int} (hS : St w s (vecC 44 1 a_v0 c_v0 n_v0 cs_v0 :: R)) (h_v0 : Ev 1 (RL 1 (RI .i64)) s cs_v0 x0) (hn_v0 : x0.length = n_v0) {r : (List (List Int))} (hr : SlicesinsertionSortCmpFuncLint_v1 fu x0 x1 x2 = some r) :
    Calls Try.prog 137 [.slice a_v0 n_v0 c_v0, .int .i64 x1, .int .i64 x2, .func (.func 85) #[] #[]].toArray w (fun e w => ∃ (cs55 : List Value), e = .returned (.tuple #[]) ∧ Ev 1 (RL 1 (RI .i64)) s cs55 r ∧ r.length = n_v0 ∧ St w s (vecC 44 1 a_v0 c_v0 n_v0 cs55 :: R)) := by
  refine enter Try.func137 rfl rfl rfl fun a hE => ?_
  rw [SlicesinsertionSortCmpFuncLint_v1] at hr
  subst hn_v0
  refine W.seq ?_
  refine W.region ?_
  refine WL.vS hS hE (runs_plain rfl) (Gives.p hE rfl) rfl ?_; clear hE a; intro a hE
  refine WL.vS hS hE (runs_plain rfl) (Gives.p hE rfl) rfl ?_; clear hE a; intro a hE
  refine WL.vS hS hE (runs_plain rfl) (Gives.p hE rfl) rfl ?_; clear hE a; intro a hE
  refine WL.nil ?_
  obtain ⟨q58, hq57, hr⟩ := bindS hr
  refine W.cut (fun a w => ∃ (q63 : Int), ∃ (q64 : List (List Int)), ∃ (cs68 : List Value), (q63, q64) = q58 ∧ Ev 1 (RL 1 (RI .i64)) s cs68 q64 ∧ q64.length = x0.length ∧ Rep a 53 [] ∧ St w s (vecC 44 1 a_v0 c_v0 x0.length cs68 :: R)) ?_ ?_
  · refine W.block ?_
    refine W.loop (fun m a w => ∃ (n59 : Nat), ∃ (q63 : Int), ∃ (q64 : List (List Int)), ∃ (cs68 : List Value), n59 = m ∧ SlicesinsertionSortCmpFuncLint_v1.loop1 x1 x2 fu n59 q63 q64 = some q58 ∧ Ev 1 (RL 1 (RI .i64)) s cs68 q64 ∧ q64.length = x0.length ∧ Rep a 53 [(0, .slice a_v0 x0.length c_v0), (1, .int .i64 x1), (2, .int .i64 x2), (3, .func (.func 85) #[] #[]), (8, .int .i64 q63)] ∧ St w s (vecC 44 1 a_v0 c_v0 x0.length cs68 :: R)) (m := fu) ⟨fu, (w64 (x1 + 1)), x0, cs_v0, rfl, hq57, h_v0, (rfl), hE.pick _ ⟨rfl, rfl, rfl, rfl, rfl, trivial⟩, hS⟩ ?_
    clear hE hS a w hq57; rintro m60 a w ⟨n59, q63, q64, cs68, rfl, hq57, h67, hn69, hE, hS⟩
    refine W.gen fun K70 hK70 => ?_
    rcases n59 with _ | n59
    · rw [SlicesinsertionSortCmpFuncLint_v1.loop1] at hq57; exact absurd hq57 (by simp)
    rw [SlicesinsertionSortCmpFuncLint_v1.loop1] at hq57
    refine W.seq ?_
    refine W.seq ?_
    refine W.region ?_
    refine WL.vS hS hE (runs_plain rfl) (Gives.p hE rfl) rfl ?_; clear hE a; intro a hE
    refine WL.vS hS hE (runs_plain rfl) (Gives.p hE rfl) rfl ?_; clear hE a; intro a hE
    refine WL.vS hS hE (runs_plain rfl) (Gives.p hE rfl) rfl ?_; clear hE a; intro a hE
    refine WL.nil ?_
    refine W.cond hE rfl (fun hc71 => ?_) (fun hc71 => ?_)
    · replace hq57 := iteT hc71 hq57
      refine W.skip ?_
      refine W.seq ?_
      refine W.block ?_
      refine W.seq ?_
      refine W.region ?_
      refine WL.vS hS hE (runs_plain rfl) (Gives.p hE rfl) rfl ?_; clear hE a; intro a hE
      refine WL.vS hS hE (runs_plain rfl) (Gives.p hE rfl) rfl ?_; clear hE a; intro a hE
      refine WL.nil ?_
      obtain ⟨q73, hq72, hq57⟩ := bindS hq57
      refine W.cut (fun a w => ∃ (q78 : Int), ∃ (q79 : List (List Int)), ∃ (cs83 : List Value), (q78, q79) = q73 ∧ Ev 1 (RL 1 (RI .i64)) s cs83 q79 ∧ q79.length = x0.length ∧ Rep a 53 [(0, .slice a_v0 x0.length c_v0), (1, .int .i64 x1), (2, .int .i64 x2), (3, .func (.func 85) #[] #[]), (8, .int .i64 q63)] ∧ St w s (vecC 44 1 a_v0 c_v0 x0.length cs83 :: R)) ?_ ?_
      · refine W.block ?_
        refine W.loop (fun m a w => ∃ (n74 : Nat), ∃ (q78 : Int), ∃ (q79 : List (List Int)), ∃ (cs83 : List Value), n74 = m ∧ SlicesinsertionSortCmpFuncLint_v1.loop2 x1 n74 q78 q79 = some q73 ∧ Ev 1 (RL 1 (RI .i64)) s cs83 q79 ∧ q79.length = x0.length ∧ Rep a 53 [(0, .slice a_v0 x0.length c_v0), (1, .int .i64 x1), (2, .int .i64 x2), (3, .func (.func 85) #[] #[]), (8, .int .i64 q63), (9, .int .i64 q78)] ∧ St w s (vecC 44 1 a_v0 c_v0 x0.length cs83 :: R)) (m := fu) ⟨fu, q63, q64, cs68, rfl, hq72, h67, hn69, hE.pick _ ⟨rfl, rfl, rfl, rfl, rfl, rfl, trivial⟩, hS⟩ ?_
        clear hE hS a w hq72; rintro m75 a w ⟨n74, q78, q79, cs83, rfl, hq72, h82, hn84, hE, hS⟩
        refine W.gen fun K85 hK85 => ?_
        rcases n74 with _ | n74
        · rw [SlicesinsertionSortCmpFuncLint_v1.loop2] at hq72; exact absurd hq72 (by simp)
        rw [SlicesinsertionSortCmpFuncLint_v1.loop2] at hq72
        refine W.seq ?_
        refine W.seq ?_
        obtain ⟨q87, hq86, hq72⟩ := bindS hq72
        refine W.cut (fun a w => ∃ (q90 : Bool), q90 = q87 ∧ Rep a 53 [(0, .slice a_v0 x0.length c_v0), (1, .int .i64 x1), (2, .int .i64 x2), (3, .func (.func 85) #[] #[]), (8, .int .i64 q63), (9, .int .i64 q78), (34, .bool q90)] ∧ St w s (vecC 44 1 a_v0 c_v0 x0.length cs83 :: R)) ?_ ?_
        · refine W.gen fun K91 hK91 => ?_
          refine W.regionQ (C := fun w => St w s (vecC 44 1 a_v0 c_v0 x0.length cs83 :: R)) mixed (by kernel_rfl) hS.drew ?_
          refine QL.v hE (runs_plain rfl) (Gives.p hE rfl) rfl ?_; clear hE a; intro a hE
          refine QL.v hE (runs_plain rfl) (Gives.p hE rfl) rfl ?_; clear hE a; intro a hE
          refine QL.v hE (runs_plain rfl) (Gives.p hE rfl) rfl ?_; clear hE a; intro a hE
          refine QL.v hE (runs_plain rfl) (Gives.p hE rfl) rfl ?_; clear hE a; intro a hE
          rcases Bool.eq_false_or_eq_true (decide (q78 > x1)) with hg92 | hg92
          · replace hq86 := iteT hg92 hq86
            refine QL.v hE (runs_if hE rfl rfl rfl hg92) (Gives.p hE rfl) rfl ?_; clear hE a; intro a hE
            refine QL.v hE (runs_if hE rfl rfl rfl hg92) (Gives.p hE rfl) rfl ?_; clear hE a; intro a hE
            refine QL.v hE (runs_if hE rfl rfl rfl hg92) (Gives.p hE rfl) rfl ?_; clear hE a; intro a hE
            obtain ⟨x93, hx94, hq86⟩ := bindS hq86
            obtain ⟨hi95, hlt96, hy97⟩ := gx_some hx94
            obtain ⟨vs98, hl99, hR100, hd101, hget102⟩ := h82.at hy97
            obtain ⟨a103, c104, rfl, h105⟩ := hR100
            refine QL.v hE (runs_if hE rfl rfl rfl hg92) (Gives.idx hE ((q78).toNat) rfl rfl sl25 hi95 (by have := hn84; omega) (hS.vecAok 0 rfl (by have := hn84; omega : (q78).toNat < x0.length))) rfl ?_; clear hE a; intro a hE
            refine QL.v hE (runs_if hE rfl rfl rfl hg92) (Gives.load1 hE rfl (fun w h => St.vecSees h 0 rfl ((q78).toNat * 1) _ hget102) ty44) rfl ?_; clear hE a; intro a hE
            refine QL.v hE (runs_if hE rfl rfl rfl hg92) (Gives.p hE rfl) rfl ?_; clear hE a; intro a hE
            refine QL.v hE (runs_if hE rfl rfl rfl hg92) (Gives.p hE rfl) rfl ?_; clear hE a; intro a hE
            refine QL.v hE (runs_if hE rfl rfl rfl hg92) (Gives.p hE rfl) rfl ?_; clear hE a; intro a hE
            obtain ⟨x106, hx107, hq86⟩ := bindS hq86
            obtain ⟨hi108, hlt109, hy110⟩ := gx_some hx107
            obtain ⟨vs111, hl112, hR113, hd114, hget115⟩ := h82.at hy110
            obtain ⟨a116, c117, rfl, h118⟩ := hR113
            refine QL.v hE (runs_if hE rfl rfl rfl hg92) (Gives.idx hE ((w64 (q78 - 1)).toNat) rfl rfl sl25 hi108 (by have := hn84; omega) (hS.vecAok 0 rfl (by have := hn84; omega : (w64 (q78 - 1)).toNat < x0.length))) rfl ?_; clear hE a; intro a hE
            refine QL.v hE (runs_if hE rfl rfl rfl hg92) (Gives.load1 hE rfl (fun w h => St.vecSees h 0 rfl ((w64 (q78 - 1)).toNat * 1) _ hget115) ty44) rfl ?_; clear hE a; intro a hE
            obtain ⟨q119, hq120, hq86⟩ := bindS hq86
            refine QL.fnw hE (fun w hS => SlicesCompareLint_ok hS h105 h118 hq120) rfl (runs_if hE rfl rfl rfl hg92) bd85 rfl rfl rfl ?_; clear hE a; intro a hE
            refine QL.v hE (runs_if hE rfl rfl rfl hg92) (Gives.p hE rfl) rfl ?_; clear hE a; intro a hE
            refine QL.v hE (runs_plain rfl) (Gives.pickT hE rfl hg92 rfl) rfl ?_; clear hE a; intro a hE
            refine QL.nil ?_; clear hS w; intro w hS
            subst hK91
            exact ⟨decide (q119 < 0), Option.some.inj hq86, hE.pick _ ⟨rfl, rfl, rfl, rfl, rfl, rfl, rfl, trivial⟩, hS⟩
          · replace hq86 := iteF hg92 hq86
            refine QL.no hE (runs_not hE rfl rfl rfl (by rw [hg92]; decide)) rfl ?_; clear hE a; intro a hE
            refine QL.no hE (runs_not hE rfl rfl rfl (by rw [hg92]; decide)) rfl ?_; clear hE a; intro a hE
            refine QL.no hE (runs_not hE rfl rfl rfl (by rw [hg92]; decide)) rfl ?_; clear hE a; intro a hE
            refine QL.no hE (runs_not hE rfl rfl rfl (by rw [hg92]; decide)) rfl ?_; clear hE a; intro a hE
            refine QL.no hE (runs_not hE rfl rfl rfl (by rw [hg92]; decide)) rfl ?_; clear hE a; intro a hE
            refine QL.no hE (runs_not hE rfl rfl rfl (by rw [hg92]; decide)) rfl ?_; clear hE a; intro a hE
            refine QL.no hE (runs_not hE rfl rfl rfl (by rw [hg92]; decide)) rfl ?_; clear hE a; intro a hE
            refine QL.no hE (runs_not hE rfl rfl rfl (by rw [hg92]; decide)) rfl ?_; clear hE a; intro a hE
            refine QL.no hE (runs_not hE rfl rfl rfl (by rw [hg92]; decide)) rfl ?_; clear hE a; intro a hE
            refine QL.no hE (runs_not hE rfl rfl rfl (by rw [hg92]; decide)) rfl ?_; clear hE a; intro a hE
            refine QL.no hE (runs_not hE rfl rfl rfl (by rw [hg92]; decide)) rfl ?_; clear hE a; intro a hE
            refine QL.no hE (runs_not hE rfl rfl rfl (by rw [hg92]; decide)) rfl ?_; clear hE a; intro a hE
            refine QL.v hE (runs_plain rfl) (Gives.pickF hE rfl hg92 rfl) rfl ?_; clear hE a; intro a hE
            refine QL.nil ?_; clear hS w; intro w hS
            subst hK91
            exact ⟨false, Option.some.inj hq86, hE.pick _ ⟨rfl, rfl, rfl, rfl, rfl, rfl, rfl, trivial⟩, hS⟩
        · clear hE hS a w; rintro a w ⟨q90, rfl, hE, hS⟩
          refine W.cond hE rfl (fun hc121 => ?_) (fun hc121 => ?_)
          · replace hq72 := iteT hc121 hq72
            refine W.skip ?_
            refine W.seq ?_
            refine W.block ?_
            refine W.gen fun K122 hK122 => ?_
            refine W.regionE (sel (fun w => St w s (vecC 44 1 a_v0 c_v0 x0.length cs83 :: R)) (fun w => St w s (R))) (fun b i => cond b ([0, 1, 2, 3, 4, 5, 6, 7, 8, 9, 10, 11, 12, 13, 14, 16].contains i) ([0, 1, 2, 3, 4, 5, 6, 7, 8, 9, 10, 11, 12, 13, 14, 15, 16, 17].contains i)) mixed ?_
            replace hS := hS.drew
            refine Rg.takeP (i := 0) hE rfl (by kernel_rfl) (runs_plain rfl) (Gives.p hE rfl) rfl (tw_sel (fun _ => hS) (fun _ => (hS.tail))) ?_; clear hE a; intro a hE
            refine Rg.takeP (i := 1) hE rfl (by kernel_rfl) (runs_plain rfl) (Gives.p hE rfl) rfl (tw_sel (fun _ => hS) (fun _ => (hS.tail))) ?_; clear hE a; intro a hE
            refine Rg.takeP (i := 2) hE rfl (by kernel_rfl) (runs_plain rfl) (Gives.p hE rfl) rfl (tw_sel (fun _ => hS) (fun _ => (hS.tail))) ?_; clear hE a; intro a hE
            refine Rg.takeP (i := 3) hE rfl (by kernel_rfl) (runs_plain rfl) (Gives.p hE rfl) rfl (tw_sel (fun _ => hS) (fun _ => (hS.tail))) ?_; clear hE a; intro a hE
            refine Rg.takeP (i := 4) hE rfl (by kernel_rfl) (runs_plain rfl) (Gives.p hE rfl) rfl (tw_sel (fun _ => hS) (fun _ => (hS.tail))) ?_; clear hE a; intro a hE
            refine Rg.takeP (i := 5) hE rfl (by kernel_rfl) (runs_plain rfl) (Gives.p hE rfl) rfl (tw_sel (fun _ => hS) (fun _ => (hS.tail))) ?_; clear hE a; intro a hE
            refine Rg.takeP (i := 6) hE rfl (by kernel_rfl) (runs_plain rfl) (Gives.p hE rfl) rfl (tw_sel (fun _ => hS) (fun _ => (hS.tail))) ?_; clear hE a; intro a hE
            refine Rg.takeP (i := 7) hE rfl (by kernel_rfl) (runs_plain rfl) (Gives.p hE rfl) rfl (tw_sel (fun _ => hS) (fun _ => (hS.tail))) ?_; clear hE a; intro a hE
            obtain ⟨x123, hx124, hq72⟩ := bindS hq72
            obtain ⟨hi125, hlt126, hy127⟩ := gx_some hx124
            obtain ⟨vs128, hl129, hR130, hd131, hget132⟩ := h82.at hy127
            obtain ⟨a133, c134, rfl, h135⟩ := hR130
            refine Rg.takeP (i := 8) hE rfl (by kernel_rfl) (runs_plain rfl) (Gives.idx hE ((w64 (q78 - 1)).toNat) rfl rfl sl25 hi125 (by have := hn84; omega) (hS.vecAok 0 rfl (by have := hn84; omega : (w64 (q78 - 1)).toNat < x0.length))) rfl (tw_sel (fun _ => hS) (fun _ => (hS.tail))) ?_; clear hE a; intro a hE
            have hT := tw_sel (A := fun w => St w s (vecC 44 1 a_v0 c_v0 x0.length cs83 :: R)) (B := fun w => St w s (R)) (w := _) (x := true) (y := true) (fun _ => hS) (fun _ => (hS.tail))
            have hF := hS; replace hS := hS
            refine Rg.take (i := 9) true rfl hE rfl (by kernel_rfl) (runs_plain rfl) (Gives.load1 hE rfl (fun w h => St.vecSees h 0 rfl ((w64 (q78 - 1)).toNat * 1) _ hget132) ty44) rfl hT ?_; clear hE a; intro a hE
            replace hS := hF; clear hF hT
            refine Rg.takeP (i := 10) hE rfl (by kernel_rfl) (runs_plain rfl) (Gives.p hE rfl) rfl (tw_sel (fun _ => hS) (fun _ => (hS.tail))) ?_; clear hE a; intro a hE
            refine Rg.takeP (i := 11) hE rfl (by kernel_rfl) (runs_plain rfl) (Gives.p hE rfl) rfl (tw_sel (fun _ => hS) (fun _ => (hS.tail))) ?_; clear hE a; intro a hE
            obtain ⟨x136, hx137, hq72⟩ := bindS hq72
            obtain ⟨hi138, hlt139, hy140⟩ := gx_some hx137
            obtain ⟨vs141, hl142, hR143, hd144, hget145⟩ := h82.at hy140
            obtain ⟨a146, c147, rfl, h148⟩ := hR143
            refine Rg.takeP (i := 12) hE rfl (by kernel_rfl) (runs_plain rfl) (Gives.idx hE ((q78).toNat) rfl rfl sl25 hi138 (by have := hn84; omega) (hS.vecAok 0 rfl (by have := hn84; omega : (q78).toNat < x0.length))) rfl (tw_sel (fun _ => hS) (fun _ => (hS.tail))) ?_; clear hE a; intro a hE
            have hT := tw_sel (A := fun w => St w s (vecC 44 1 a_v0 c_v0 x0.length cs83 :: R)) (B := fun w => St w s (R)) (w := _) (x := true) (y := true) (fun _ => hS) (fun _ => (hS.tail))
            have hF := hS; replace hS := hS
            refine Rg.take (i := 13) true rfl hE rfl (by kernel_rfl) (runs_plain rfl) (Gives.load1 hE rfl (fun w h => St.vecSees h 0 rfl ((q78).toNat * 1) _ hget145) ty44) rfl hT ?_; clear hE a; intro a hE
            replace hS := hF; clear hF hT
            obtain ⟨_, hx150, hq72⟩ := bindS hq72
            obtain ⟨h151, h152⟩ := ix_some hx150
            refine Rg.takeP (i := 14) hE rfl (by kernel_rfl) (runs_plain rfl) (Gives.idx hE ((q78).toNat) rfl rfl sl25 h151 (by have := hn84; omega) (hS.vecAok 0 rfl (by have := hn84; omega : (q78).toNat < x0.length))) rfl (tw_sel (fun _ => hS) (fun _ => (hS.tail))) ?_; clear hE a; intro a hE
            refine Rg.one (i := 15) false true rfl (by kernel_rfl) (by kernel_rfl) (by kernel_rfl) ?_
            obtain ⟨x154, hx155, hq72⟩ := bindS hq72
            refine WL.setD hE hS 0 rfl (runs_plain rfl) rfl rfl (vs := [.slice a133 x123.length c134]) rfl ty44 rfl rfl rfl h82 hn84 (sx_some hx155).1 hx155 ⟨_, _, rfl, h135⟩ rfl ?_; clear hE hS a w; intro cs156 a w h157 hn158 hE hS
            refine WL.nil ?_
            refine ⟨⟨fun h => absurd h (by decide), fun _ => (hS.tail)⟩, ?_⟩
            obtain ⟨_, hx160, hq72⟩ := bindS hq72
            obtain ⟨h161, h162⟩ := ix_some hx160
            refine Rg.takeP (i := 16) hE rfl (by kernel_rfl) (runs_plain rfl) (Gives.idx hE ((w64 (q78 - 1)).toNat) rfl rfl sl25 h161 (by have := hn158; omega) (hS.vecAok 0 rfl (by have := hn158; omega : (w64 (q78 - 1)).toNat < x0.length))) rfl (tw_sel (fun h => absurd h (by decide)) (fun _ => (hS.tail))) ?_; clear hE a; intro a hE
            refine Rg.one (i := 17) false true rfl (by kernel_rfl) (by kernel_rfl) (by kernel_rfl) ?_
            obtain ⟨x164, hx165, hq72⟩ := bindS hq72
            refine WL.setD hE hS 0 rfl (runs_plain rfl) rfl rfl (vs := [.slice a146 x136.length c147]) rfl ty44 rfl rfl rfl h157 hn158 (sx_some hx165).1 hx165 ⟨_, _, rfl, h148⟩ rfl ?_; clear hE hS a w; intro cs166 a w h167 hn168 hE hS
            refine WL.nil ?_
            refine ⟨⟨fun h => absurd h (by decide), fun _ => (hS.tail)⟩, ?_⟩
            refine Rg.done (by kernel_rfl) ?_
            subst hK122
            refine W.region ?_
            refine WL.vS hS hE (runs_plain rfl) (Gives.p hE rfl) rfl ?_; clear hE a; intro a hE
            refine WL.vS hS hE (runs_plain rfl) (Gives.p hE rfl) rfl ?_; clear hE a; intro a hE
            refine WL.vS hS hE (runs_plain rfl) (Gives.p hE rfl) rfl ?_; clear hE a; intro a hE
            refine WL.nil ?_
            subst hK85
            exact ⟨n74, Nat.lt_succ_self _, n74, (w64 (q78 - 1)), x164, cs166, rfl, hq72, h167, hn168, hE.pick _ ⟨rfl, rfl, rfl, rfl, rfl, rfl, trivial⟩, hS⟩
          · replace hq72 := iteF hc121 hq72
            subst hK85
            refine W.exit rfl ?_
            exact ⟨q78, q79, cs83, Option.some.inj hq72, h82, hn84, hE.pick _ ⟨rfl, rfl, rfl, rfl, rfl, trivial⟩, hS⟩
      · clear hE hS a w; rintro a w ⟨q78, q79, cs83, rfl, h82, hn84, hE, hS⟩
        dsimp only at hq57
        refine W.region ?_
        refine WL.vS hS hE (runs_plain rfl) (Gives.p hE rfl) rfl ?_; clear hE a; intro a hE
        refine WL.vS hS hE (runs_plain rfl) (Gives.p hE rfl) rfl ?_; clear hE a; intro a hE
        refine WL.vS hS hE (runs_plain rfl) (Gives.p hE rfl) rfl ?_; clear hE a; intro a hE
        refine WL.nil ?_
        subst hK70
        exact ⟨n59, Nat.lt_succ_self _, n59, (w64 (q63 + 1)), q79, cs83, rfl, hq57, h82, hn84, hE.pick _ ⟨rfl, rfl, rfl, rfl, rfl, trivial⟩, hS⟩
    · replace hq57 := iteF hc71 hq57
      subst hK70
      refine W.exit rfl ?_
      exact ⟨q63, q64, cs68, Option.some.inj hq57, h67, hn69, hE.pick _ trivial, hS⟩
  · clear hE hS a w; rintro a w ⟨q63, q64, cs68, rfl, h67, hn69, hE, hS⟩
    dsimp only at hr
    refine finG (fn := Try.f137) (rs := []) (vs := []) hE rfl trivial ?_
    obtain rfl := Option.some.inj hr
    exact ⟨cs68, rfl, h67, hn69, hS⟩
set_option maxHeartbeats 8000000 in
theorem SlicespdqsortCmpFuncLint_v1_ok {fu : Nat}  {w : World} {s : Sg} {R : List HP} {x0 : List (List Int)} {a_v0 : Option Addr} {c_v0 n_v0 : Nat} {cs_v0 : List Value} {x1 : Int} {x2 : Int} {x3 : Int} (hS : St w s (vecC 44 1 a_v0 c_v0 n_v0 cs_v0 :: R)) (h_v0 : Ev 1 (RL 1 (RI .i64)) s cs_v0 x0) (hn_v0 : x0.length = n_v0) {r : (List (List Int))} (hr : SlicespdqsortCmpFuncLint_v1 fu x0 x1 x2 x3 = some r) :
    Calls Try.prog 121 [.slice a_v0 n_v0 c_v0, .int .i64 x1, .int .i64 x2, .int .i64 x3, .func (.func 85) #[] #[]].toArray w (fun e w => ∃ (cs55 : List Value), e = .returned (.tuple #[]) ∧ Ev 1 (RL 1 (RI .i64)) s cs55 r ∧ r.length = n_v0 ∧ St w s (vecC 44 1 a_v0 c_v0 n_v0 cs55 :: R)) := by
  refine enter Try.func121 rfl rfl rfl fun a hE => ?_
  rw [SlicespdqsortCmpFuncLint_v1] at hr
  subst hn_v0
  refine W.seq ?_
  refine W.region ?_
  refine WL.vS hS hE (runs_plain rfl) (Gives.p hE rfl) rfl ?_; clear hE a; intro a hE
  refine WL.nil ?_
  refine W.seq ?_
  refine W.region ?_
  refine WL.vS hS hE (runs_plain rfl) (Gives.p hE rfl) rfl ?_; clear hE a; intro a hE
  refine WL.nil ?_
  obtain ⟨q58, hq57, hr⟩ := bindS hr
  refine W.cut (fun _ _ => False) ?_ ?_
  · refine W.block ?_
    refine W.loop (fun m a w => ∃ (n59 : Nat), ∃ (q63 : Int), ∃ (q64 : Int), ∃ (q65 : Int), ∃ (q66 : Bool), ∃ (q67 : Bool), ∃ (q68 : List (List Int)), ∃ (cs72 : List Value), n59 = m ∧ SlicespdqsortCmpFuncLint_v1.loop1 fu n59 q63 q64 q65 q66 q67 q68 = some q58 ∧ Ev 1 (RL 1 (RI .i64)) s cs72 q68 ∧ q68.length = x0.length ∧ Rep a 148 [(0, .slice a_v0 x0.length c_v0), (1, .int .i64 q63), (2, .int .i64 q64), (3, .int .i64 q65), (4, .func (.func 85) #[] #[]), (10, .bool q66), (11, .bool q67)] ∧ St w s (vecC 44 1 a_v0 c_v0 x0.length cs72 :: R)) (m := fu) ⟨fu, x1, x2, x3, true, true, x0, cs_v0, rfl, hq57, h_v0, (rfl), hE.pick _ ⟨rfl, rfl, rfl, rfl, rfl, rfl, rfl, trivial⟩, hS⟩ ?_
    clear hE hS a w hq57; rintro m60 a w ⟨n59, q63, q64, q65, q66, q67, q68, cs72, rfl, hq57, h71, hn73, hE, hS⟩
    refine W.gen fun K74 hK74 => ?_
    rcases n59 with _ | n59
    · rw [SlicespdqsortCmpFuncLint_v1.loop1] at hq57; exact absurd hq57 (by simp)
    rw [SlicespdqsortCmpFuncLint_v1.loop1] at hq57
    refine W.block ?_
    refine W.seq ?_
    refine W.region ?_
    refine WL.vS hS hE (runs_plain rfl) (Gives.p hE rfl) rfl ?_; clear hE a; intro a hE
    refine WL.vS hS hE (runs_plain rfl) (Gives.p hE rfl) rfl ?_; clear hE a; intro a hE
    refine WL.vS hS hE (runs_plain rfl) (Gives.p hE rfl) rfl ?_; clear hE a; intro a hE
    refine WL.vS hS hE (runs_plain rfl) (Gives.p hE rfl) rfl ?_; clear hE a; intro a hE
    refine WL.nil ?_
    refine W.seq ?_
    refine W.seq ?_
    refine W.region ?_
    refine WL.vS hS hE (runs_plain rfl) (Gives.p hE rfl) rfl ?_; clear hE a; intro a hE
    refine WL.vS hS hE (runs_plain rfl) (Gives.p hE rfl) rfl ?_; clear hE a; intro a hE
    refine WL.nil ?_
    refine W.cond hE rfl (fun hc75 => ?_) (fun hc75 => ?_)
    · replace hq57 := iteT hc75 hq57
      refine W.seq ?_
      refine W.region ?_
      refine WL.vS hS hE (runs_plain rfl) (Gives.p hE rfl) rfl ?_; clear hE a; intro a hE
      refine WL.vS hS hE (runs_plain rfl) (Gives.p hE rfl) rfl ?_; clear hE a; intro a hE
      refine WL.vS hS hE (runs_plain rfl) (Gives.p hE rfl) rfl ?_; clear hE a; intro a hE
      refine WL.vS hS hE (runs_plain rfl) (Gives.p hE rfl) rfl ?_; clear hE a; intro a hE
      obtain ⟨q76, hq77, hq57⟩ := bindS hq57
      have hc_ := SlicesinsertionSortCmpFuncLint_v1_ok hS h71 hn73 hq77
      refine WL.fnq hE (hc_) (runs_plain rfl) bd137 rfl rfl rfl ?_
      clear hE hS hc_; rintro e w ⟨cs78, rfl, h79, hn80, hS⟩; refine ⟨_, rfl, ?_⟩; clear a; intro a hE
      refine WL.nil ?_
      refine W.ret ?_
      subst hK74
      rw [← Option.some.inj hq57] at hr
      dsimp only at hr
      refine finG (fn := Try.f121) (rs := []) (vs := []) hE rfl trivial ?_
      obtain rfl := Option.some.inj hr
      exact ⟨cs78, rfl, h79, hn80, hS⟩
    · replace hq57 := iteF hc75 hq57
      refine W.skip ?_
      refine W.seq ?_
      refine W.seq ?_
      refine W.region ?_
      refine WL.vS hS hE (runs_plain rfl) (Gives.p hE rfl) rfl ?_; clear hE a; intro a hE
      refine WL.vS hS hE (runs_plain rfl) (Gives.p hE rfl) rfl ?_; clear hE a; intro a hE
      refine WL.nil ?_
      refine W.cond hE rfl (fun hc81 => ?_) (fun hc81 => ?_)
      · replace hq57 := iteT hc81 hq57
        refine W.seq ?_
        refine W.region ?_
        refine WL.vS hS hE (runs_plain rfl) (Gives.p hE rfl) rfl ?_; clear hE a; intro a hE
        refine WL.vS hS hE (runs_plain rfl) (Gives.p hE rfl) rfl ?_; clear hE a; intro a hE
        refine WL.vS hS hE (runs_plain rfl) (Gives.p hE rfl) rfl ?_; clear hE a; intro a hE
        refine WL.vS hS hE (runs_plain rfl) (Gives.p hE rfl) rfl ?_; clear hE a; intro a hE
        exact absurd hq57 (by simp)
      · replace hq57 := iteF hc81 hq57
        refine W.skip ?_
        refine W.seq ?_
        refine W.seq ?_
        refine W.region ?_
        refine WL.vS hS hE (runs_plain rfl) (Gives.p hE rfl) rfl ?_; clear hE a; intro a hE
        refine WL.vS hS hE (runs_plain rfl) (Gives.p hE rfl) rfl ?_; clear hE a; intro a hE
        refine WL.nil ?_
        obtain ⟨q83, hq82, hq57⟩ := bindS hq57
        refine W.cut (fun a w => ∃ (q86 : Int), ∃ (q87 : List (List Int)), ∃ (cs91 : List Value), (q86, q87) = q83 ∧ Ev 1 (RL 1 (RI .i64)) s cs91 q87 ∧ q87.length = x0.length ∧ Rep a 148 [(0, .slice a_v0 x0.length c_v0), (1, .int .i64 q63), (2, .int .i64 q64), (3, .int .i64 q86), (4, .func (.func 85) #[] #[]), (10, .bool q66), (11, .bool q67), (12, .int .i64 (w64 (q64 - q63)))] ∧ St w s (vecC 44 1 a_v0 c_v0 x0.length cs91 :: R)) ?_ ?_
        · refine W.gen fun K93 hK93 => ?_
          refine W.cond hE rfl (fun hc94 => ?_) (fun hc94 => ?_)
          · replace hq82 := iteT hc94 hq82
            refine W.seq ?_
            refine W.region ?_
            refine WL.vS hS hE (runs_plain rfl) (Gives.p hE rfl) rfl ?_; clear hE a; intro a hE
            refine WL.vS hS hE (runs_plain rfl) (Gives.p hE rfl) rfl ?_; clear hE a; intro a hE
            refine WL.vS hS hE (runs_plain rfl) (Gives.p hE rfl) rfl ?_; clear hE a; intro a hE
            refine WL.vS hS hE (runs_plain rfl) (Gives.p hE rfl) rfl ?_; clear hE a; intro a hE
            exact absurd hq82 (by simp)
          · replace hq82 := iteF hc94 hq82
            refine W.skip ?_
            subst hK93
            exact ⟨q65, q68, cs72, Option.some.inj hq82, h71, hn73, hE.pick _ ⟨rfl, rfl, rfl, rfl, rfl, rfl, rfl, rfl, trivial⟩, hS⟩
        · clear hE hS a w; rintro a w ⟨q86, q87, cs91, rfl, h90, hn92, hE, hS⟩
          dsimp only at hq57
          refine W.seq ?_
          refine W.region ?_
          refine WL.vS hS hE (runs_plain rfl) (Gives.p hE rfl) rfl ?_; clear hE a; intro a hE
          refine WL.vS hS hE (runs_plain rfl) (Gives.p hE rfl) rfl ?_; clear hE a; intro a hE
          refine WL.vS hS hE (runs_plain rfl) (Gives.p hE rfl) rfl ?_; clear hE a; intro a hE
          refine WL.vS hS hE (runs_plain rfl) (Gives.p hE rfl) rfl ?_; clear hE a; intro a hE
          exact absurd hq57 (by simp)
  · exact fun _ _ h => h.elim
set_option maxHeartbeats 8000000 in
theorem SlicesSortFuncLLint_v1_ok {fu : Nat}  {w : World} {s : Sg} {R : List HP} {x0 : List (List Int)} {a_v0 : Option Addr} {c_v0 n_v0 : Nat} {cs_v0 : List Value} (hS : St w s (vecC 44 1 a_v0 c_v0 n_v0 cs_v0 :: R)) (h_v0 : Ev 1 (RL 1 (RI .i64)) s cs_v0 x0) (hn_v0 : x0.length = n_v0) {r : (List (List Int))} (hr : SlicesSortFuncLLint_v1 fu x0 = some r) :
    Calls Try.prog 84 [.slice a_v0 n_v0 c_v0, .func (.func 85) #[] #[]].toArray w (fun e w => ∃ (cs55 : List Value), e = .returned (.tuple #[]) ∧ Ev 1 (RL 1 (RI .i64)) s cs55 r ∧ r.length = n_v0 ∧ St w s (vecC 44 1 a_v0 c_v0 n_v0 cs55 :: R)) := by
  refine enter Try.func84 rfl rfl rfl fun a hE => ?_
  rw [SlicesSortFuncLLint_v1] at hr
  subst hn_v0
  refine W.seq ?_
  refine W.region ?_
  refine WL.vS hS hE (runs_plain rfl) (Gives.p hE rfl) rfl ?_; clear hE a; intro a hE
  refine WL.vS hS hE (runs_plain rfl) (Gives.len hE rfl sl25) rfl ?_; clear hE a; intro a hE
  refine WL.vS hS hE (runs_plain rfl) (Gives.p hE rfl) rfl ?_; clear hE a; intro a hE
  refine WL.nil ?_
  refine W.region ?_
  refine WL.vS hS hE (runs_plain rfl) (Gives.p hE rfl) rfl ?_; clear hE a; intro a hE
  refine WL.vS hS hE (runs_plain rfl) (Gives.p hE rfl) rfl ?_; clear hE a; intro a hE
  refine WL.vS hS hE (runs_plain rfl) (Gives.p hE rfl) rfl ?_; clear hE a; intro a hE
  refine WL.vS hS hE (runs_plain rfl) (Gives.conv hE rfl hu3 ui162) rfl ?_; clear hE a; intro a hE
  obtain ⟨q57, hq58, hr⟩ := bindS hr
  have hc_ := MathBitsLen_ok hS  hq58
  refine WL.fnq hE (hc_) (runs_plain rfl) bd122 rfl rfl rfl ?_
  clear hE hS hc_; rintro e w ⟨rfl, hS⟩; refine ⟨_, rfl, ?_⟩; clear a; intro a hE
  refine WL.vS hS hE (runs_plain rfl) (Gives.p hE rfl) rfl ?_; clear hE a; intro a hE
  obtain ⟨q59, hq60, hr⟩ := bindS hr
  have hc_ := SlicespdqsortCmpFuncLint_v1_ok hS h_v0 (rfl) hq60
  refine WL.fnq hE (hc_) (runs_plain rfl) bd121 rfl rfl rfl ?_
  clear hE hS hc_; rintro e w ⟨cs61, rfl, h62, hn63, hS⟩; refine ⟨_, rfl, ?_⟩; clear a; intro a hE
  refine WL.nil ?_
  refine finG (fn := Try.f84) (rs := []) (vs := []) hE rfl trivial ?_
  obtain rfl := Option.some.inj hr
  exact ⟨cs61, rfl, h62, hn63, hS⟩
set_option maxHeartbeats 8000000 in
theorem SlicesCompareFuncLLint_v1_ok  {w : World} {s : Sg} {R : List HP} {x0 : List (List Int)} {a0 : Option Addr} {c0 : Nat} {x1 : List (List Int)} {a1 : Option Addr} {c1 : Nat} (hS : St w s (R)) (h0 : Sl 1 (RL 1 (RI .i64)) s a0 c0 x0) (h1 : Sl 1 (RL 1 (RI .i64)) s a1 c1 x1) {r : Int} (hr : SlicesCompareFuncLLint_v1 x0 x1 = some r) :
    Calls Try.prog 86 [.slice a0 x0.length c0, .slice a1 x1.length c1, .func (.func 85) #[] #[]].toArray w (fun e w => e = .returned (.int .i64 r) ∧ St w s (R)) := by
  refine enter Try.func86 rfl rfl rfl fun a hE => ?_
  rw [SlicesCompareFuncLLint_v1] at hr
  refine W.seq ?_
  refine W.region ?_
  refine WL.vS hS hE (runs_plain rfl) (Gives.p hE rfl) rfl ?_; clear hE a; intro a hE
  refine WL.nil ?_
  refine W.seq ?_
  refine W.seq ?_
  refine W.region ?_
  refine WL.vS hS hE (runs_plain rfl) (Gives.p hE rfl) rfl ?_; clear hE a; intro a hE
  refine WL.vS hS hE (runs_plain rfl) (Gives.len hE rfl sl25) rfl ?_; clear hE a; intro a hE
  refine WL.vS hS hE (runs_plain rfl) (Gives.p hE rfl) rfl ?_; clear hE a; intro a hE
  refine WL.nil ?_
  obtain ⟨q52, hq51, hr⟩ := bindS hr
  refine W.cut (fun a w => (.next ()) = q52 ∧ Rep a 39 [(0, .slice a0 x0.length c0), (1, .slice a1 x1.length c1)] ∧ St w s (R)) ?_ ?_
  · refine W.block ?_
    refine W.loop (fun m a w => ∃ (rest55 : List (List Int)) (k53 : Nat), rest55.length = m ∧ x0.drop k53 = rest55 ∧ SlicesCompareFuncLLint_v1.loop1 x1 rest55 k53 = some q52 ∧ Rep a 39 [(0, .slice a0 x0.length c0), (1, .slice a1 x1.length c1), (2, .func (.func 85) #[] #[]), (11, .slice a0 x0.length c0), (12, .int .i64 ((x0).length : Int)), (13, .int .i64 ((k53 : Nat) : Int))] ∧ St w s (R)) (m := x0.length) ⟨x0, 0, rfl, rfl, hq51, hE.pick _ ⟨rfl, rfl, rfl, rfl, rfl, rfl, trivial⟩, hS⟩ ?_
    clear hE hS a w hq51; rintro m59 a w ⟨rest55, k53, rfl, hd56, hq51, hE, hS⟩
    refine W.gen fun K62 hK62 => ?_
    rcases rest55 with _ | ⟨x54, rest55⟩
    · have hlt57 := drop_nil hd56
      refine W.seq ?_
      refine W.region ?_
      refine WL.vS hS hE (runs_plain rfl) (Gives.p hE rfl) rfl ?_; clear hE a; intro a hE
      refine WL.nil ?_
      refine W.seq ?_
      refine W.condF hE rfl (decide_eq_false (by omega)) ?_
      subst hK62
      refine W.exit rfl ?_
      exact ⟨Option.some.inj hq51, hE.pick _ ⟨rfl, rfl, trivial⟩, hS⟩
    · obtain ⟨hlt57, hx58, hd56⟩ := drop_cons hd56
      rw [SlicesCompareFuncLLint_v1.loop1] at hq51
      refine W.seq ?_
      refine W.region ?_
      refine WL.vS hS hE (runs_plain rfl) (Gives.p hE rfl) rfl ?_; clear hE a; intro a hE
      refine WL.nil ?_
      refine W.seq ?_
      refine W.condT hE rfl (decide_eq_true (by omega)) ?_
      refine W.skip ?_
      refine W.seq ?_
      refine W.block ?_
      refine W.seq ?_
      refine W.region ?_
      refine WL.vS hS hE (runs_plain rfl) (Gives.p hE rfl) rfl ?_; clear hE a; intro a hE
      obtain ⟨cs63, hl64, hR65, hat66⟩ := h0.at hx58
      obtain ⟨a67, c68, rfl, h69⟩ := hR65
      refine WL.vS hS hE (runs_plain rfl) (Gives.idx hE k53 rfl rfl sl25 rfl hlt57 (h0.aok hlt57)) rfl ?_; clear hE a; intro a hE
      refine WL.vS hS hE (runs_plain rfl) (Gives.load1 hE rfl (fun w h => hat66 w _ h) ty44) rfl ?_; clear hE a; intro a hE
      refine WL.vS hS hE (runs_plain rfl) (Gives.p hE rfl) rfl ?_; clear hE a; intro a hE
      refine WL.vS hS hE (runs_plain rfl) (Gives.p hE rfl) rfl ?_; clear hE a; intro a hE
      refine WL.nil ?_
      refine W.seq ?_
      refine W.seq ?_
      refine W.region ?_
      refine WL.vS hS hE (runs_plain rfl) (Gives.p hE rfl) rfl ?_; clear hE a; intro a hE
      refine WL.vS hS hE (runs_plain rfl) (Gives.p hE rfl) rfl ?_; clear hE a; intro a hE
      refine WL.vS hS hE (runs_plain rfl) (Gives.len hE rfl sl25) rfl ?_; clear hE a; intro a hE
      refine WL.vS hS hE (runs_plain rfl) (Gives.p hE rfl) rfl ?_; clear hE a; intro a hE
      refine WL.nil ?_
      refine W.cond hE rfl (fun hc70 => ?_) (fun hc70 => ?_)
      · replace hq51 := iteT hc70 hq51
        refine W.seq ?_
        refine W.region ?_
        refine WL.vS hS hE (runs_plain rfl) (Gives.p hE rfl) rfl ?_; clear hE a; intro a hE
        refine WL.nil ?_
        refine W.ret ?_
        subst hK62
        rw [← Option.some.inj hq51] at hr
        dsimp only at hr
        refine finG (fn := Try.f86) (rs := [.tmp 6]) (vs := [_]) hE rfl ⟨rfl, trivial⟩ ?_
        obtain rfl := Option.some.inj hr
        exact ⟨rfl, hS⟩
      · replace hq51 := iteF hc70 hq51
        refine W.skip ?_
        refine W.seq ?_
        refine W.region ?_
        refine WL.vS hS hE (runs_plain rfl) (Gives.p hE rfl) rfl ?_; clear hE a; intro a hE
        refine WL.vS hS hE (runs_plain rfl) (Gives.p hE rfl) rfl ?_; clear hE a; intro a hE
        obtain ⟨x71, hx72, hq51⟩ := bindS hq51
        obtain ⟨hi73, hlt74, hy75⟩ := gx_some hx72
        obtain ⟨cs76, hl77, hR78, hat79⟩ := h1.at hy75
        obtain ⟨a80, c81, rfl, h82⟩ := hR78
        refine WL.vS hS hE (runs_plain rfl) (Gives.idx hE (((k53 : Nat) : Int)).toNat rfl rfl sl25 hi73 hlt74 (h1.aok hlt74)) rfl ?_; clear hE a; intro a hE
        refine WL.vS hS hE (runs_plain rfl) (Gives.load1 hE rfl (fun w h => hat79 w _ h) ty44) rfl ?_; clear hE a; intro a hE
        refine WL.vS hS hE (runs_plain rfl) (Gives.p hE rfl) rfl ?_; clear hE a; intro a hE
        refine WL.nil ?_
        refine W.seq ?_
        refine W.region ?_
        refine WL.vS hS hE (runs_plain rfl) (Gives.p hE rfl) rfl ?_; clear hE a; intro a hE
        refine WL.vS hS hE (runs_plain rfl) (Gives.p hE rfl) rfl ?_; clear hE a; intro a hE
        refine WL.vS hS hE (runs_plain rfl) (Gives.p hE rfl) rfl ?_; clear hE a; intro a hE
        obtain ⟨q83, hq84, hq51⟩ := bindS hq51
        have hc_ := SlicesCompareLint_ok hS h69 h82 hq84
        refine WL.fnw hE (hc_) rfl (runs_plain rfl) bd85 rfl rfl rfl ?_
        clear hE hS hc_; rintro e w ⟨rfl, hS⟩; refine ⟨_, rfl, ?_⟩; clear a; intro a hE
        refine WL.vS hS hE (runs_plain rfl) (Gives.p hE rfl) rfl ?_; clear hE a; intro a hE
        refine WL.nil ?_
        refine W.seq ?_
        refine W.region ?_
        refine WL.vS hS hE (runs_plain rfl) (Gives.p hE rfl) rfl ?_; clear hE a; intro a hE
        refine WL.vS hS hE (runs_plain rfl) (Gives.p hE rfl) rfl ?_; clear hE a; intro a hE
        refine WL.nil ?_
        refine W.cond hE rfl (fun hc85 => ?_) (fun hc85 => ?_)
        · replace hq51 := iteT hc85 hq51
          refine W.seq ?_
          refine W.region ?_
          refine WL.vS hS hE (runs_plain rfl) (Gives.p hE rfl) rfl ?_; clear hE a; intro a hE
          refine WL.vS hS hE (runs_plain rfl) (Gives.p hE rfl) rfl ?_; clear hE a; intro a hE
          refine WL.nil ?_
          refine W.ret ?_
          subst hK62
          rw [← Option.some.inj hq51] at hr
          dsimp only at hr
          refine finG (fn := Try.f86) (rs := [.tmp 6]) (vs := [_]) hE rfl ⟨rfl, trivial⟩ ?_
          obtain rfl := Option.some.inj hr
          exact ⟨rfl, hS⟩
        · replace hq51 := iteF hc85 hq51
          refine W.skip ?_
          refine W.region ?_
          refine WL.vS hS hE (runs_plain rfl) (Gives.inc hE rfl (by have := h0.small; omega)) rfl ?_; clear hE a; intro a hE
          refine WL.vS hS hE (runs_plain rfl) (Gives.p hE rfl) rfl ?_; clear hE a; intro a hE
          refine WL.nil ?_
          subst hK62
          exact ⟨rest55.length, Nat.lt_succ_self _, rest55, k53 + 1, rfl, hd56, hq51, hE.pick _ ⟨rfl, rfl, rfl, rfl, rfl, rfl, trivial⟩, hS⟩
  · clear hE hS a w; rintro a w ⟨rfl, hE, hS⟩
    dsimp only at hr
    refine W.seq ?_
    refine W.seq ?_
    refine W.region ?_
    refine WL.vS hS hE (runs_plain rfl) (Gives.p hE rfl) rfl ?_; clear hE a; intro a hE
    refine WL.vS hS hE (runs_plain rfl) (Gives.len hE rfl sl25) rfl ?_; clear hE a; intro a hE
    refine WL.vS hS hE (runs_plain rfl) (Gives.p hE rfl) rfl ?_; clear hE a; intro a hE
    refine WL.vS hS hE (runs_plain rfl) (Gives.len hE rfl sl25) rfl ?_; clear hE a; intro a hE
    refine WL.vS hS hE (runs_plain rfl) (Gives.p hE rfl) rfl ?_; clear hE a; intro a hE
    refine WL.nil ?_
    refine W.cond hE rfl (fun hc86 => ?_) (fun hc86 => ?_)
    · replace hr := iteT hc86 hr
      refine W.seq ?_
      refine W.region ?_
      refine WL.vS hS hE (runs_plain rfl) (Gives.p hE rfl) rfl ?_; clear hE a; intro a hE
      refine WL.nil ?_
      refine W.ret ?_
      refine finG (fn := Try.f86) (rs := [.tmp 6]) (vs := [_]) hE rfl ⟨rfl, trivial⟩ ?_
      obtain rfl := Option.some.inj hr
      exact ⟨rfl, hS⟩
    · replace hr := iteF hc86 hr
      refine W.skip ?_
      refine W.seq ?_
      refine W.region ?_
      refine WL.vS hS hE (runs_plain rfl) (Gives.p hE rfl) rfl ?_; clear hE a; intro a hE
      refine WL.nil ?_
      refine W.ret ?_
      refine finG (fn := Try.f86) (rs := [.tmp 6]) (vs := [_]) hE rfl ⟨rfl, trivial⟩ ?_
      obtain rfl := Option.some.inj hr
      exact ⟨rfl, hS⟩
set_option maxHeartbeats 8000000 in
theorem Fishref2DutiesOf_1_v1_ok : ∀ {fu : Nat} {w : World} {s : Sg} {R : List HP} {pb0 : Nat} {pb1 : Nat} {pb2 : Nat} {pb3 : Nat} {pb4 : Nat} {pb5 : Nat} {pb6 : Nat} {x0 : Int} {y0 : List Int} {a_v0 : Option Addr} {c_v0 n_v0 : Nat} {cs_v0 : List Value} {y1 : List (List Int)} {a_v1 : Option Addr} {c_v1 n_v1 : Nat} {ds_v1 : List In} {y3 : List FleetTask} {a_y3_0 : Option Addr} {c_y3_0 : Nat} {y4 : FleetLimits} {y5 : Bool} {y6 : List (List Int)} {a_y6_0 : Option Addr} {c_y6_0 : Nat} (_hS : St w s (pt pb0 (.cells #[.slice a_v0 n_v0 c_v0] 44 (0, 0)) :: pt pb1 (.cells #[.slice a_v1 n_v1 c_v1] 25 (0, 0)) :: pt pb2 (.cells #[.func (.func 82) #[] #[.pointer (some ⟨pb0, 0, none⟩), .pointer (some ⟨pb1, 0, none⟩), .pointer (some ⟨pb2, 0, none⟩), .pointer (some ⟨pb3, 0, none⟩), .pointer (some ⟨pb4, 0, none⟩), .pointer (some ⟨pb5, 0, none⟩), .pointer (some ⟨pb6, 0, none⟩)]] 66 (0, 0)) :: pt pb3 (.cells #[.slice a_y3_0 y3.length c_y3_0] 32 (0, 0)) :: pt pb4 (.cells #[.int .i64 y4.Change, .int .i64 y4.Long, .int .i64 y4.Work, .int .i64 y4.After, .int .i64 y4.Break, .int .i64 y4.Rest, .int .i64 y4.Row] 24 (0, 0)) :: pt pb5 (.cells #[.bool y5] 4 (0, 0)) :: pt pb6 (.cells #[.slice a_y6_0 y6.length c_y6_0] 25 (0, 0)) :: vecC 3 1 a_v0 c_v0 n_v0 cs_v0 :: nestC 44 3 1 a_v1 c_v1 n_v1 ds_v1 :: R)) (_h_v0 : Ev 1 (RI .i64) s cs_v0 y0) (_hn_v0 : y0.length = n_v0) (_h_v1 : NEv 1 (RI .i64) s ds_v1 y1) (_hn_v1 : y1.length = n_v1) (_h_y3_0 : Sl 6 RFleetTask s a_y3_0 c_y3_0 y3) (_h_y6_0 : Sl 1 (RL 1 (RI .i64)) s a_y6_0 c_y6_0 y6) {r : (List (List Int)) × Bool × (List (List Int))} (_hr : Fishref2DutiesOf_1_v1 fu x0 y0 y1 y3 y4 y5 y6 = some r),
    Calls Try.prog 82 [.int .i64 x0, .pointer (some ⟨pb0, 0, none⟩), .pointer (some ⟨pb1, 0, none⟩), .pointer (some ⟨pb2, 0, none⟩), .pointer (some ⟨pb3, 0, none⟩), .pointer (some ⟨pb4, 0, none⟩), .pointer (some ⟨pb5, 0, none⟩), .pointer (some ⟨pb6, 0, none⟩)].toArray w (fun e w => ∃ (a64 : Option Addr) (c65 : Nat) (n66 : Nat) (ds67 : List In) (a72 : Option Addr) (c73 : Nat) (t : Sg), e = .returned (.tuple #[]) ∧ s.Le t ∧ NEv 1 (RI .i64) t ds67 r.1 ∧ r.1.length = n66 ∧ Sl 1 (RL 1 (RI .i64)) t a72 c73 r.2.2 ∧ St w t (pt pb0 (.cells #[.slice a_v0 n_v0 c_v0] 44 (0, 0)) :: pt pb1 (.cells #[.slice a64 n66 c65] 25 (0, 0)) :: pt pb2 (.cells #[.func (.func 82) #[] #[.pointer (some ⟨pb0, 0, none⟩), .pointer (some ⟨pb1, 0, none⟩), .pointer (some ⟨pb2, 0, none⟩), .pointer (some ⟨pb3, 0, none⟩), .pointer (some ⟨pb4, 0, none⟩), .pointer (some ⟨pb5, 0, none⟩), .pointer (some ⟨pb6, 0, none⟩)]] 66 (0, 0)) :: pt pb3 (.cells #[.slice a_y3_0 y3.length c_y3_0] 32 (0, 0)) :: pt pb4 (.cells #[.int .i64 y4.Change, .int .i64 y4.Long, .int .i64 y4.Work, .int .i64 y4.After, .int .i64 y4.Break, .int .i64 y4.Rest, .int .i64 y4.Row] 24 (0, 0)) :: pt pb5 (.cells #[.bool r.2.1] 4 (0, 0)) :: pt pb6 (.cells #[.slice a72 r.2.2.length c73] 25 (0, 0)) :: vecC 3 1 a_v0 c_v0 n_v0 cs_v0 :: nestC 44 3 1 a64 c65 n66 ds67 :: R)) := by
  intro fu
  induction fu with
  | zero => intro w s R pb0 pb1 pb2 pb3 pb4 pb5 pb6 x0 y0 a_v0 c_v0 n_v0 cs_v0 y1 a_v1 c_v1 n_v1 ds_v1 y3 a_y3_0 c_y3_0 y4 y5 y6 a_y6_0 c_y6_0 hS h_v0 hn_v0 h_v1 hn_v1 h_y3_0 h_y6_0 r hr; rw [Fishref2DutiesOf_1_v1] at hr; exact absurd hr (by simp)
  | succ fu ih_Fishref2DutiesOf_1_v1 =>
    intro w s R pb0 pb1 pb2 pb3 pb4 pb5 pb6 x0 y0 a_v0 c_v0 n_v0 cs_v0 y1 a_v1 c_v1 n_v1 ds_v1 y3 a_y3_0 c_y3_0 y4 y5 y6 a_y6_0 c_y6_0 hS h_v0 hn_v0 h_v1 hn_v1 h_y3_0 h_y6_0 r hr
    rw [Fishref2DutiesOf_1_v1] at hr
    generalize Fishref2DutiesOf_1_v1 fu = self_Fishref2DutiesOf_1_v1 at hr ih_Fishref2DutiesOf_1_v1
    refine enter Try.func82 rfl rfl rfl fun a hE => ?_
    subst hn_v0
    subst hn_v1
    refine W.seq ?_
    refine W.seq ?_
    refine W.region ?_
    refine WL.vS hS hE (runs_plain rfl) (Gives.p hE rfl) rfl ?_; clear hE a; intro a hE
    refine WL.vS hS hE (runs_plain rfl) (Gives.loadB hE 0 rfl rfl rfl ty44) rfl ?_; clear hE a; intro a hE
    refine WL.vS hS hE (runs_plain rfl) (Gives.len hE rfl sl44) rfl ?_; clear hE a; intro a hE
    refine WL.vS hS hE (runs_plain rfl) (Gives.p hE rfl) rfl ?_; clear hE a; intro a hE
    refine WL.nil ?_
    refine W.cond hE rfl (fun hc75 => ?_) (fun hc75 => ?_)
    · replace hr := iteT hc75 hr
      refine W.seq ?_
      refine W.seq ?_
      refine W.region ?_
      refine WL.vS hS hE (runs_plain rfl) (Gives.loadB hE 1 rfl rfl rfl ty25) rfl ?_; clear hE a; intro a hE
      refine WL.vS hS hE (runs_plain rfl) (Gives.len hE rfl sl25) rfl ?_; clear hE a; intro a hE
      refine WL.vS hS hE (runs_plain rfl) (Gives.p hE rfl) rfl ?_; clear hE a; intro a hE
      refine WL.nil ?_
      have hb87 : y1.length ≤ 9223372036854775807 := by have := hS.nCap 8 rfl; unfold maxLen at this; omega
      obtain ⟨q77, hq76, hr⟩ := bindS hr
      refine W.cut (fun a w => ∃ (q88 : List (List Int)), ∃ (q95 : Bool), ∃ (q96 : List (List Int)), ∃ (a89 : Option Addr), ∃ (c90 : Nat), ∃ (n91 : Nat), ∃ (ds92 : List In), ∃ (a97 : Option Addr), ∃ (c98 : Nat), ∃ (s85 : Sg), s.Le s85 ∧ (q88, q95, q96) = q77 ∧ NEv 1 (RI .i64) s85 ds92 q88 ∧ q88.length = n91 ∧ Sl 1 (RL 1 (RI .i64)) s85 a97 c98 q96 ∧ Rep a 113 [(0, .int .i64 x0), (1, .pointer (some ⟨pb0, 0, none⟩)), (2, .pointer (some ⟨pb1, 0, none⟩)), (3, .pointer (some ⟨pb2, 0, none⟩))] ∧ St w s85 (pt pb0 (.cells #[.slice a_v0 y0.length c_v0] 44 (0, 0)) :: pt pb1 (.cells #[.slice a89 n91 c90] 25 (0, 0)) :: pt pb2 (.cells #[.func (.func 82) #[] #[.pointer (some ⟨pb0, 0, none⟩), .pointer (some ⟨pb1, 0, none⟩), .pointer (some ⟨pb2, 0, none⟩), .pointer (some ⟨pb3, 0, none⟩), .pointer (some ⟨pb4, 0, none⟩), .pointer (some ⟨pb5, 0, none⟩), .pointer (some ⟨pb6, 0, none⟩)]] 66 (0, 0)) :: pt pb3 (.cells #[.slice a_y3_0 y3.length c_y3_0] 32 (0, 0)) :: pt pb4 (.cells #[.int .i64 y4.Change, .int .i64 y4.Long, .int .i64 y4.Work, .int .i64 y4.After, .int .i64 y4.Break, .int .i64 y4.Rest, .int .i64 y4.Row] 24 (0, 0)) :: pt pb5 (.cells #[.bool q95] 4 (0, 0)) :: pt pb6 (.cells #[.slice a97 q96.length c98] 25 (0, 0)) :: vecC 3 1 a_v0 c_v0 y0.length cs_v0 :: nestC 44 3 1 a89 c90 n91 ds92 :: R)) ?_ ?_
      · refine W.block ?_
        refine W.loop (fun m a w => ∃ (rest80 : Nat) (k78 : Nat), ∃ (q88 : List (List Int)), ∃ (q95 : Bool), ∃ (q96 : List (List Int)), ∃ (a89 : Option Addr), ∃ (c90 : Nat), ∃ (n91 : Nat), ∃ (ds92 : List In), ∃ (a97 : Option Addr), ∃ (c98 : Nat), ∃ (s85 : Sg), rest80 = m ∧ k78 + rest80 = y1.length ∧ s.Le s85 ∧ Fishref2DutiesOf_1_v1.loop1 x0 y0 y3 y4 self_Fishref2DutiesOf_1_v1 rest80 k78 q88 q95 q96 = some q77 ∧ NEv 1 (RI .i64) s85 ds92 q88 ∧ q88.length = n91 ∧ Sl 1 (RL 1 (RI .i64)) s85 a97 c98 q96 ∧ Rep a 113 [(0, .int .i64 x0), (1, .pointer (some ⟨pb0, 0, none⟩)), (2, .pointer (some ⟨pb1, 0, none⟩)), (3, .pointer (some ⟨pb2, 0, none⟩)), (18, .int .i64 ((y1.length : Nat) : Int)), (19, .int .i64 ((k78 : Nat) : Int))] ∧ St w s85 (pt pb0 (.cells #[.slice a_v0 y0.length c_v0] 44 (0, 0)) :: pt pb1 (.cells #[.slice a89 n91 c90] 25 (0, 0)) :: pt pb2 (.cells #[.func (.func 82) #[] #[.pointer (some ⟨pb0, 0, none⟩), .pointer (some ⟨pb1, 0, none⟩), .pointer (some ⟨pb2, 0, none⟩), .pointer (some ⟨pb3, 0, none⟩), .pointer (some ⟨pb4, 0, none⟩), .pointer (some ⟨pb5, 0, none⟩), .pointer (some ⟨pb6, 0, none⟩)]] 66 (0, 0)) :: pt pb3 (.cells #[.slice a_y3_0 y3.length c_y3_0] 32 (0, 0)) :: pt pb4 (.cells #[.int .i64 y4.Change, .int .i64 y4.Long, .int .i64 y4.Work, .int .i64 y4.After, .int .i64 y4.Break, .int .i64 y4.Rest, .int .i64 y4.Row] 24 (0, 0)) :: pt pb5 (.cells #[.bool q95] 4 (0, 0)) :: pt pb6 (.cells #[.slice a97 q96.length c98] 25 (0, 0)) :: vecC 3 1 a_v0 c_v0 y0.length cs_v0 :: nestC 44 3 1 a89 c90 n91 ds92 :: R)) (m := y1.length) ⟨y1.length, 0, y1, y5, y6, a_v1, c_v1, y1.length, ds_v1, a_y6_0, c_y6_0, s, rfl, by omega, (Sg.Le.refl _), hq76, h_v1, (rfl), h_y6_0, hE.pick _ ⟨rfl, rfl, rfl, rfl, rfl, rfl, trivial⟩, hS⟩ ?_
        clear hE hS a w hq76; rintro m84 a w ⟨rest80, k78, q88, q95, q96, a89, c90, n91, ds92, a97, c98, s85, rfl, hd81, hle86, hq76, h93, rfl, h99, hE, hS⟩
        refine W.gen fun K100 hK100 => ?_
        replace h_y3_0 := Sl.mono RFleetTask.mono hle86 h_y3_0
        replace h_y6_0 := Sl.mono (RL.mono RI.mono) hle86 h_y6_0
        replace h_v0 := Ev.mono RI.mono hle86 h_v0
        replace h_v1 := NEv.mono RI.mono hle86 h_v1
        rcases rest80 with _ | rest80
        · skip
          refine W.seq ?_
          refine W.region ?_
          refine WL.vS hS hE (runs_plain rfl) (Gives.p hE rfl) rfl ?_; clear hE a; intro a hE
          refine WL.nil ?_
          refine W.seq ?_
          refine W.condF hE rfl (decide_eq_false (by omega)) ?_
          subst hK100
          refine W.exit rfl ?_
          exact ⟨q88, q95, q96, a89, c90, q88.length, ds92, a97, c98, s85, hle86, Option.some.inj hq76, h93, rfl, h99, hE.pick _ ⟨rfl, rfl, rfl, rfl, trivial⟩, hS⟩
        · have hlt82 : k78 < y1.length := by omega
          rw [Fishref2DutiesOf_1_v1.loop1] at hq76
          refine W.seq ?_
          refine W.region ?_
          refine WL.vS hS hE (runs_plain rfl) (Gives.p hE rfl) rfl ?_; clear hE a; intro a hE
          refine WL.nil ?_
          refine W.seq ?_
          refine W.condT hE rfl (decide_eq_true (by omega)) ?_
          refine W.skip ?_
          refine W.seq ?_
          refine W.block ?_
          refine W.seq ?_
          refine W.region ?_
          refine WL.vS hS hE (runs_plain rfl) (Gives.p hE rfl) rfl ?_; clear hE a; intro a hE
          refine WL.vS hS hE (runs_plain rfl) (Gives.p hE rfl) rfl ?_; clear hE a; intro a hE
          refine WL.nil ?_
          refine W.seq ?_
          refine W.gen fun K101 hK101 => ?_
          refine W.regionE (sel (fun w => St w s85 (pt pb0 (.cells #[.slice a_v0 y0.length c_v0] 44 (0, 0)) :: pt pb1 (.cells #[.slice a89 q88.length c90] 25 (0, 0)) :: pt pb2 (.cells #[.func (.func 82) #[] #[.pointer (some ⟨pb0, 0, none⟩), .pointer (some ⟨pb1, 0, none⟩), .pointer (some ⟨pb2, 0, none⟩), .pointer (some ⟨pb3, 0, none⟩), .pointer (some ⟨pb4, 0, none⟩), .pointer (some ⟨pb5, 0, none⟩), .pointer (some ⟨pb6, 0, none⟩)]] 66 (0, 0)) :: pt pb3 (.cells #[.slice a_y3_0 y3.length c_y3_0] 32 (0, 0)) :: pt pb4 (.cells #[.int .i64 y4.Change, .int .i64 y4.Long, .int .i64 y4.Work, .int .i64 y4.After, .int .i64 y4.Break, .int .i64 y4.Rest, .int .i64 y4.Row] 24 (0, 0)) :: pt pb5 (.cells #[.bool q95] 4 (0, 0)) :: pt pb6 (.cells #[.slice a97 q96.length c98] 25 (0, 0)) :: vecC 3 1 a_v0 c_v0 y0.length cs_v0 :: nestC 44 3 1 a89 c90 q88.length ds92 :: R)) (fun w => St w s85 (pt pb0 (.cells #[.slice a_v0 y0.length c_v0] 44 (0, 0)) :: pt pb1 (.cells #[.slice a89 q88.length c90] 25 (0, 0)) :: pt pb2 (.cells #[.func (.func 82) #[] #[.pointer (some ⟨pb0, 0, none⟩), .pointer (some ⟨pb1, 0, none⟩), .pointer (some ⟨pb2, 0, none⟩), .pointer (some ⟨pb3, 0, none⟩), .pointer (some ⟨pb4, 0, none⟩), .pointer (some ⟨pb5, 0, none⟩), .pointer (some ⟨pb6, 0, none⟩)]] 66 (0, 0)) :: pt pb3 (.cells #[.slice a_y3_0 y3.length c_y3_0] 32 (0, 0)) :: pt pb4 (.cells #[.int .i64 y4.Change, .int .i64 y4.Long, .int .i64 y4.Work, .int .i64 y4.After, .int .i64 y4.Break, .int .i64 y4.Rest, .int .i64 y4.Row] 24 (0, 0)) :: pt pb5 (.cells #[.bool q95] 4 (0, 0)) :: pt pb6 (.cells #[.slice a97 q96.length c98] 25 (0, 0)) :: vecC 3 1 a_v0 c_v0 y0.length cs_v0 :: R))) (fun b i => cond b ([0, 1, 2, 3, 4, 5, 6, 7, 8, 9, 10, 12].contains i) ([0, 1, 2, 3, 4, 5, 6, 7, 8, 9, 10, 11, 12, 13].contains i)) mixed ?_
          replace hS := hS.drew
          have hT := tw_sel (A := fun w => St w s85 (pt pb0 (.cells #[.slice a_v0 y0.length c_v0] 44 (0, 0)) :: pt pb1 (.cells #[.slice a89 q88.length c90] 25 (0, 0)) :: pt pb2 (.cells #[.func (.func 82) #[] #[.pointer (some ⟨pb0, 0, none⟩), .pointer (some ⟨pb1, 0, none⟩), .pointer (some ⟨pb2, 0, none⟩), .pointer (some ⟨pb3, 0, none⟩), .pointer (some ⟨pb4, 0, none⟩), .pointer (some ⟨pb5, 0, none⟩), .pointer (some ⟨pb6, 0, none⟩)]] 66 (0, 0)) :: pt pb3 (.cells #[.slice a_y3_0 y3.length c_y3_0] 32 (0, 0)) :: pt pb4 (.cells #[.int .i64 y4.Change, .int .i64 y4.Long, .int .i64 y4.Work, .int .i64 y4.After, .int .i64 y4.Break, .int .i64 y4.Rest, .int .i64 y4.Row] 24 (0, 0)) :: pt pb5 (.cells #[.bool q95] 4 (0, 0)) :: pt pb6 (.cells #[.slice a97 q96.length c98] 25 (0, 0)) :: vecC 3 1 a_v0 c_v0 y0.length cs_v0 :: nestC 44 3 1 a89 c90 q88.length ds92 :: R)) (B := fun w => St w s85 (pt pb0 (.cells #[.slice a_v0 y0.length c_v0] 44 (0, 0)) :: pt pb1 (.cells #[.slice a89 q88.length c90] 25 (0, 0)) :: pt pb2 (.cells #[.func (.func 82) #[] #[.pointer (some ⟨pb0, 0, none⟩), .pointer (some ⟨pb1, 0, none⟩), .pointer (some ⟨pb2, 0, none⟩), .pointer (some ⟨pb3, 0, none⟩), .pointer (some ⟨pb4, 0, none⟩), .pointer (some ⟨pb5, 0, none⟩), .pointer (some ⟨pb6, 0, none⟩)]] 66 (0, 0)) :: pt pb3 (.cells #[.slice a_y3_0 y3.length c_y3_0] 32 (0, 0)) :: pt pb4 (.cells #[.int .i64 y4.Change, .int .i64 y4.Long, .int .i64 y4.Work, .int .i64 y4.After, .int .i64 y4.Break, .int .i64 y4.Rest, .int .i64 y4.Row] 24 (0, 0)) :: pt pb5 (.cells #[.bool q95] 4 (0, 0)) :: pt pb6 (.cells #[.slice a97 q96.length c98] 25 (0, 0)) :: vecC 3 1 a_v0 c_v0 y0.length cs_v0 :: R)) (w := _) (x := true) (y := true) (fun _ => hS) (fun _ => (hS.dropAt 8))
          have hF := hS; replace hS := (hS.dropAt 8)
          refine Rg.take (i := 0) false rfl hE rfl (by kernel_rfl) (runs_plain rfl) (Gives.loadB hE 1 rfl rfl rfl ty25) rfl hT ?_; clear hE a; intro a hE
          replace hS := hF; clear hF hT
          refine Rg.takeP (i := 1) hE rfl (by kernel_rfl) (runs_plain rfl) (Gives.p hE rfl) rfl (tw_sel (fun _ => hS) (fun _ => (hS.dropAt 8))) ?_; clear hE a; intro a hE
          have hT := tw_sel (A := fun w => St w s85 (pt pb0 (.cells #[.slice a_v0 y0.length c_v0] 44 (0, 0)) :: pt pb1 (.cells #[.slice a89 q88.length c90] 25 (0, 0)) :: pt pb2 (.cells #[.func (.func 82) #[] #[.pointer (some ⟨pb0, 0, none⟩), .pointer (some ⟨pb1, 0, none⟩), .pointer (some ⟨pb2, 0, none⟩), .pointer (some ⟨pb3, 0, none⟩), .pointer (some ⟨pb4, 0, none⟩), .pointer (some ⟨pb5, 0, none⟩), .pointer (some ⟨pb6, 0, none⟩)]] 66 (0, 0)) :: pt pb3 (.cells #[.slice a_y3_0 y3.length c_y3_0] 32 (0, 0)) :: pt pb4 (.cells #[.int .i64 y4.Change, .int .i64 y4.Long, .int .i64 y4.Work, .int .i64 y4.After, .int .i64 y4.Break, .int .i64 y4.Rest, .int .i64 y4.Row] 24 (0, 0)) :: pt pb5 (.cells #[.bool q95] 4 (0, 0)) :: pt pb6 (.cells #[.slice a97 q96.length c98] 25 (0, 0)) :: vecC 3 1 a_v0 c_v0 y0.length cs_v0 :: nestC 44 3 1 a89 c90 q88.length ds92 :: R)) (B := fun w => St w s85 (pt pb0 (.cells #[.slice a_v0 y0.length c_v0] 44 (0, 0)) :: pt pb1 (.cells #[.slice a89 q88.length c90] 25 (0, 0)) :: pt pb2 (.cells #[.func (.func 82) #[] #[.pointer (some ⟨pb0, 0, none⟩), .pointer (some ⟨pb1, 0, none⟩), .pointer (some ⟨pb2, 0, none⟩), .pointer (some ⟨pb3, 0, none⟩), .pointer (some ⟨pb4, 0, none⟩), .pointer (some ⟨pb5, 0, none⟩), .pointer (some ⟨pb6, 0, none⟩)]] 66 (0, 0)) :: pt pb3 (.cells #[.slice a_y3_0 y3.length c_y3_0] 32 (0, 0)) :: pt pb4 (.cells #[.int .i64 y4.Change, .int .i64 y4.Long, .int .i64 y4.Work, .int .i64 y4.After, .int .i64 y4.Break, .int .i64 y4.Rest, .int .i64 y4.Row] 24 (0, 0)) :: pt pb5 (.cells #[.bool q95] 4 (0, 0)) :: pt pb6 (.cells #[.slice a97 q96.length c98] 25 (0, 0)) :: vecC 3 1 a_v0 c_v0 y0.length cs_v0 :: R)) (w := _) (x := true) (y := true) (fun _ => hS) (fun _ => (hS.dropAt 8))
          have hF := hS; replace hS := (hS.dropAt 8)
          refine Rg.take (i := 2) false rfl hE rfl (by kernel_rfl) (runs_plain rfl) (Gives.loadB hE 1 rfl rfl rfl ty25) rfl hT ?_; clear hE a; intro a hE
          replace hS := hF; clear hF hT
          refine Rg.takeP (i := 3) hE rfl (by kernel_rfl) (runs_plain rfl) (Gives.p hE rfl) rfl (tw_sel (fun _ => hS) (fun _ => (hS.dropAt 8))) ?_; clear hE a; intro a hE
          obtain ⟨x102, hx103, hq76⟩ := bindS hq76
          obtain ⟨hi104, hlt105, hy106⟩ := gx_some hx103
          obtain ⟨a107, c108, cs109, hd110, hev111⟩ := h93.at hy106
          refine Rg.takeP (i := 4) hE rfl (by kernel_rfl) (runs_plain rfl) (Gives.idx hE ((((k78 : Nat) : Int)).toNat) rfl rfl sl25 hi104 (by omega) (hS.nAok 8 rfl (by omega : (((k78 : Nat) : Int)).toNat < q88.length))) rfl (tw_sel (fun _ => hS) (fun _ => (hS.dropAt 8))) ?_; clear hE a; intro a hE
          have hT := tw_sel (A := fun w => St w s85 (pt pb0 (.cells #[.slice a_v0 y0.length c_v0] 44 (0, 0)) :: pt pb1 (.cells #[.slice a89 q88.length c90] 25 (0, 0)) :: pt pb2 (.cells #[.func (.func 82) #[] #[.pointer (some ⟨pb0, 0, none⟩), .pointer (some ⟨pb1, 0, none⟩), .pointer (some ⟨pb2, 0, none⟩), .pointer (some ⟨pb3, 0, none⟩), .pointer (some ⟨pb4, 0, none⟩), .pointer (some ⟨pb5, 0, none⟩), .pointer (some ⟨pb6, 0, none⟩)]] 66 (0, 0)) :: pt pb3 (.cells #[.slice a_y3_0 y3.length c_y3_0] 32 (0, 0)) :: pt pb4 (.cells #[.int .i64 y4.Change, .int .i64 y4.Long, .int .i64 y4.Work, .int .i64 y4.After, .int .i64 y4.Break, .int .i64 y4.Rest, .int .i64 y4.Row] 24 (0, 0)) :: pt pb5 (.cells #[.bool q95] 4 (0, 0)) :: pt pb6 (.cells #[.slice a97 q96.length c98] 25 (0, 0)) :: vecC 3 1 a_v0 c_v0 y0.length cs_v0 :: nestC 44 3 1 a89 c90 q88.length ds92 :: R)) (B := fun w => St w s85 (pt pb0 (.cells #[.slice a_v0 y0.length c_v0] 44 (0, 0)) :: pt pb1 (.cells #[.slice a89 q88.length c90] 25 (0, 0)) :: pt pb2 (.cells #[.func (.func 82) #[] #[.pointer (some ⟨pb0, 0, none⟩), .pointer (some ⟨pb1, 0, none⟩), .pointer (some ⟨pb2, 0, none⟩), .pointer (some ⟨pb3, 0, none⟩), .pointer (some ⟨pb4, 0, none⟩), .pointer (some ⟨pb5, 0, none⟩), .pointer (some ⟨pb6, 0, none⟩)]] 66 (0, 0)) :: pt pb3 (.cells #[.slice a_y3_0 y3.length c_y3_0] 32 (0, 0)) :: pt pb4 (.cells #[.int .i64 y4.Change, .int .i64 y4.Long, .int .i64 y4.Work, .int .i64 y4.After, .int .i64 y4.Break, .int .i64 y4.Rest, .int .i64 y4.Row] 24 (0, 0)) :: pt pb5 (.cells #[.bool q95] 4 (0, 0)) :: pt pb6 (.cells #[.slice a97 q96.length c98] 25 (0, 0)) :: vecC 3 1 a_v0 c_v0 y0.length cs_v0 :: R)) (w := _) (x := true) (y := true) (fun _ => hS) (fun _ => (hS.dropAt 8))
          have hF := hS; replace hS := hS
          refine Rg.take (i := 5) true rfl hE rfl (by kernel_rfl) (runs_plain rfl) (Gives.load1 (v := .slice a107 x102.length c108) hE rfl (fun w h => St.nSees h 8 rfl hd110) ty44) rfl hT ?_; clear hE a; intro a hE
          replace hS := hF; clear hF hT
          have hT := tw_sel (A := fun w => St w s85 (pt pb0 (.cells #[.slice a_v0 y0.length c_v0] 44 (0, 0)) :: pt pb1 (.cells #[.slice a89 q88.length c90] 25 (0, 0)) :: pt pb2 (.cells #[.func (.func 82) #[] #[.pointer (some ⟨pb0, 0, none⟩), .pointer (some ⟨pb1, 0, none⟩), .pointer (some ⟨pb2, 0, none⟩), .pointer (some ⟨pb3, 0, none⟩), .pointer (some ⟨pb4, 0, none⟩), .pointer (some ⟨pb5, 0, none⟩), .pointer (some ⟨pb6, 0, none⟩)]] 66 (0, 0)) :: pt pb3 (.cells #[.slice a_y3_0 y3.length c_y3_0] 32 (0, 0)) :: pt pb4 (.cells #[.int .i64 y4.Change, .int .i64 y4.Long, .int .i64 y4.Work, .int .i64 y4.After, .int .i64 y4.Break, .int .i64 y4.Rest, .int .i64 y4.Row] 24 (0, 0)) :: pt pb5 (.cells #[.bool q95] 4 (0, 0)) :: pt pb6 (.cells #[.slice a97 q96.length c98] 25 (0, 0)) :: vecC 3 1 a_v0 c_v0 y0.length cs_v0 :: nestC 44 3 1 a89 c90 q88.length ds92 :: R)) (B := fun w => St w s85 (pt pb0 (.cells #[.slice a_v0 y0.length c_v0] 44 (0, 0)) :: pt pb1 (.cells #[.slice a89 q88.length c90] 25 (0, 0)) :: pt pb2 (.cells #[.func (.func 82) #[] #[.pointer (some ⟨pb0, 0, none⟩), .pointer (some ⟨pb1, 0, none⟩), .pointer (some ⟨pb2, 0, none⟩), .pointer (some ⟨pb3, 0, none⟩), .pointer (some ⟨pb4, 0, none⟩), .pointer (some ⟨pb5, 0, none⟩), .pointer (some ⟨pb6, 0, none⟩)]] 66 (0, 0)) :: pt pb3 (.cells #[.slice a_y3_0 y3.length c_y3_0] 32 (0, 0)) :: pt pb4 (.cells #[.int .i64 y4.Change, .int .i64 y4.Long, .int .i64 y4.Work, .int .i64 y4.After, .int .i64 y4.Break, .int .i64 y4.Rest, .int .i64 y4.Row] 24 (0, 0)) :: pt pb5 (.cells #[.bool q95] 4 (0, 0)) :: pt pb6 (.cells #[.slice a97 q96.length c98] 25 (0, 0)) :: vecC 3 1 a_v0 c_v0 y0.length cs_v0 :: R)) (w := _) (x := true) (y := true) (fun _ => hS) (fun _ => (hS.dropAt 8))
          have hF := hS; replace hS := (hS.dropAt 8)
          refine Rg.take (i := 6) false rfl hE rfl (by kernel_rfl) (runs_plain rfl) (Gives.loadB hE 0 rfl rfl rfl ty44) rfl hT ?_; clear hE a; intro a hE
          replace hS := hF; clear hF hT
          refine Rg.takeP (i := 7) hE rfl (by kernel_rfl) (runs_plain rfl) (Gives.p hE rfl) rfl (tw_sel (fun _ => hS) (fun _ => (hS.dropAt 8))) ?_; clear hE a; intro a hE
          obtain ⟨x112, hx113, hq76⟩ := bindS hq76
          obtain ⟨hi114, hlt115, hy116⟩ := gx_some hx113
          obtain ⟨vs117, hl118, hR119, hd120, hget121⟩ := h_v0.at hy116
          subst hR119
          refine Rg.takeP (i := 8) hE rfl (by kernel_rfl) (runs_plain rfl) (Gives.idx hE ((x0).toNat) rfl rfl sl44 hi114 (by omega) (hS.vecAok 7 rfl (by omega : (x0).toNat < y0.length))) rfl (tw_sel (fun _ => hS) (fun _ => (hS.dropAt 8))) ?_; clear hE a; intro a hE
          have hT := tw_sel (A := fun w => St w s85 (pt pb0 (.cells #[.slice a_v0 y0.length c_v0] 44 (0, 0)) :: pt pb1 (.cells #[.slice a89 q88.length c90] 25 (0, 0)) :: pt pb2 (.cells #[.func (.func 82) #[] #[.pointer (some ⟨pb0, 0, none⟩), .pointer (some ⟨pb1, 0, none⟩), .pointer (some ⟨pb2, 0, none⟩), .pointer (some ⟨pb3, 0, none⟩), .pointer (some ⟨pb4, 0, none⟩), .pointer (some ⟨pb5, 0, none⟩), .pointer (some ⟨pb6, 0, none⟩)]] 66 (0, 0)) :: pt pb3 (.cells #[.slice a_y3_0 y3.length c_y3_0] 32 (0, 0)) :: pt pb4 (.cells #[.int .i64 y4.Change, .int .i64 y4.Long, .int .i64 y4.Work, .int .i64 y4.After, .int .i64 y4.Break, .int .i64 y4.Rest, .int .i64 y4.Row] 24 (0, 0)) :: pt pb5 (.cells #[.bool q95] 4 (0, 0)) :: pt pb6 (.cells #[.slice a97 q96.length c98] 25 (0, 0)) :: vecC 3 1 a_v0 c_v0 y0.length cs_v0 :: nestC 44 3 1 a89 c90 q88.length ds92 :: R)) (B := fun w => St w s85 (pt pb0 (.cells #[.slice a_v0 y0.length c_v0] 44 (0, 0)) :: pt pb1 (.cells #[.slice a89 q88.length c90] 25 (0, 0)) :: pt pb2 (.cells #[.func (.func 82) #[] #[.pointer (some ⟨pb0, 0, none⟩), .pointer (some ⟨pb1, 0, none⟩), .pointer (some ⟨pb2, 0, none⟩), .pointer (some ⟨pb3, 0, none⟩), .pointer (some ⟨pb4, 0, none⟩), .pointer (some ⟨pb5, 0, none⟩), .pointer (some ⟨pb6, 0, none⟩)]] 66 (0, 0)) :: pt pb3 (.cells #[.slice a_y3_0 y3.length c_y3_0] 32 (0, 0)) :: pt pb4 (.cells #[.int .i64 y4.Change, .int .i64 y4.Long, .int .i64 y4.Work, .int .i64 y4.After, .int .i64 y4.Break, .int .i64 y4.Rest, .int .i64 y4.Row] 24 (0, 0)) :: pt pb5 (.cells #[.bool q95] 4 (0, 0)) :: pt pb6 (.cells #[.slice a97 q96.length c98] 25 (0, 0)) :: vecC 3 1 a_v0 c_v0 y0.length cs_v0 :: R)) (w := _) (x := true) (y := true) (fun _ => hS) (fun _ => (hS.dropAt 8))
          have hF := hS; replace hS := (hS.dropAt 8)
          refine Rg.take (i := 9) false rfl hE rfl (by kernel_rfl) (runs_plain rfl) (Gives.load1 hE rfl (fun w h => St.vecSees h 7 rfl ((x0).toNat * 1) _ hget121) ty3) rfl hT ?_; clear hE a; intro a hE
          replace hS := hF; clear hF hT
          refine Rg.one (i := 10) true true rfl (by kernel_rfl) (by kernel_rfl) (by kernel_rfl) ?_
          refine WL.lit hE hS (e := 3) (es := 1) (vs := [(0, .int .i64 x112)]) (cs := [.int .i64 x112]) (runs_plain rfl) rfl (by kernel_rfl) rfl ?_; clear hE hS a w; intro b122 a w hE hS
          refine WL.nil ?_
          refine ⟨⟨fun _ => (hS.tail), fun _ => ((hS.tail).dropAt 8)⟩, ?_⟩
          refine Rg.one (i := 11) false true rfl (by kernel_rfl) (by kernel_rfl) (by kernel_rfl) ?_
          replace hS := hS.borrowM 9 rfl hd110
          replace hS := hS.front 1 rfl
          obtain ⟨x124, hx125, hq76⟩ := bindS hq76
          refine WL.appD hE hS 0 (m := 1) (runs_plain rfl) rfl rfl rfl ap44 rfl hev111 (rfl) (xs := [x112]) (Ev.cons (c1 := [.int .i64 x112]) rfl rfl (Ev.nil)) rfl rfl hx125 rfl ?_; clear hE hS a w; intro a126 c127 cs128 a w h129 hE hS
          refine WL.nil ?_
          refine ⟨⟨fun h => absurd h (by decide), fun _ => ((hS.tail).dropAt 8)⟩, ?_⟩
          obtain ⟨_, hx130, hq76⟩ := bindS hq76
          obtain ⟨h131, h132⟩ := ix_some hx130
          refine Rg.takeP (i := 12) hE rfl (by kernel_rfl) (runs_plain rfl) (Gives.idx hE ((((k78 : Nat) : Int)).toNat) rfl rfl sl25 h131 (by omega) (hS.hAok 9 rfl (by omega : (((k78 : Nat) : Int)).toNat < q88.length))) rfl (tw_sel (fun h => absurd h (by decide)) (fun _ => ((hS.tail).dropAt 8))) ?_; clear hE a; intro a hE
          refine Rg.one (i := 13) false true rfl (by kernel_rfl) (by kernel_rfl) (by kernel_rfl) ?_
          obtain ⟨x133, hx134, hq76⟩ := bindS hq76
          refine WL.storeND hE hS 8 rfl (runs_plain rfl) rfl rfl ty44 h93 rfl (by have := (sx_some hx134).1; omega) hx134 h129 (rfl) rfl ?_; clear hE hS a w; intro ds135 a w h136 hn137 hE hS
          refine WL.nil ?_
          refine ⟨⟨fun h => absurd h (by decide), fun _ => (hS.dropAt 8)⟩, ?_⟩
          refine Rg.done (by kernel_rfl) ?_
          subst hK101
          refine W.seq ?_
          refine W.region ?_
          refine WL.vS hS hE (runs_plain rfl) (Gives.loadB hE 2 rfl rfl rfl ty66) rfl ?_; clear hE a; intro a hE
          refine WL.vS hS hE (runs_plain rfl) (Gives.p hE rfl) rfl ?_; clear hE a; intro a hE
          refine WL.vS hS hE (runs_plain rfl) (Gives.p hE rfl) rfl ?_; clear hE a; intro a hE
          obtain ⟨q138, hq139, hq76⟩ := bindS hq76
          have hc_ := ih_Fishref2DutiesOf_1_v1 (y4 := y4) hS h_v0 (rfl) h136 hn137 h_y3_0 h99 hq139
          refine WL.fnw hE (hc_) rfl (runs_plain rfl) bd82 rfl rfl rfl ?_
          clear hE hS hc_; rintro e w ⟨a140, c141, n142, ds143, a145, c146, s148, rfl, hle149, h144, rfl, h147, hS⟩; refine ⟨_, rfl, ?_⟩; clear a; intro a hE
          replace h_y3_0 := Sl.mono RFleetTask.mono hle149 h_y3_0
          replace h99 := Sl.mono (RL.mono RI.mono) hle149 h99
          replace h_v0 := Ev.mono RI.mono hle149 h_v0
          replace h136 := NEv.mono RI.mono hle149 h136
          refine WL.nil ?_
          refine W.gen fun K150 hK150 => ?_
          refine W.regionE (sel (fun w => St w s148 (pt pb0 (.cells #[.slice a_v0 y0.length c_v0] 44 (0, 0)) :: pt pb1 (.cells #[.slice a140 q138.1.length c141] 25 (0, 0)) :: pt pb2 (.cells #[.func (.func 82) #[] #[.pointer (some ⟨pb0, 0, none⟩), .pointer (some ⟨pb1, 0, none⟩), .pointer (some ⟨pb2, 0, none⟩), .pointer (some ⟨pb3, 0, none⟩), .pointer (some ⟨pb4, 0, none⟩), .pointer (some ⟨pb5, 0, none⟩), .pointer (some ⟨pb6, 0, none⟩)]] 66 (0, 0)) :: pt pb3 (.cells #[.slice a_y3_0 y3.length c_y3_0] 32 (0, 0)) :: pt pb4 (.cells #[.int .i64 y4.Change, .int .i64 y4.Long, .int .i64 y4.Work, .int .i64 y4.After, .int .i64 y4.Break, .int .i64 y4.Rest, .int .i64 y4.Row] 24 (0, 0)) :: pt pb5 (.cells #[.bool q138.2.1] 4 (0, 0)) :: pt pb6 (.cells #[.slice a145 q138.2.2.length c146] 25 (0, 0)) :: vecC 3 1 a_v0 c_v0 y0.length cs_v0 :: R)) (fun w => St w s148 (pt pb0 (.cells #[.slice a_v0 y0.length c_v0] 44 (0, 0)) :: pt pb1 (.cells #[.slice a140 q138.1.length c141] 25 (0, 0)) :: pt pb2 (.cells #[.func (.func 82) #[] #[.pointer (some ⟨pb0, 0, none⟩), .pointer (some ⟨pb1, 0, none⟩), .pointer (some ⟨pb2, 0, none⟩), .pointer (some ⟨pb3, 0, none⟩), .pointer (some ⟨pb4, 0, none⟩), .pointer (some ⟨pb5, 0, none⟩), .pointer (some ⟨pb6, 0, none⟩)]] 66 (0, 0)) :: pt pb3 (.cells #[.slice a_y3_0 y3.length c_y3_0] 32 (0, 0)) :: pt pb4 (.cells #[.int .i64 y4.Change, .int .i64 y4.Long, .int .i64 y4.Work, .int .i64 y4.After, .int .i64 y4.Break, .int .i64 y4.Rest, .int .i64 y4.Row] 24 (0, 0)) :: pt pb5 (.cells #[.bool q138.2.1] 4 (0, 0)) :: pt pb6 (.cells #[.slice a145 q138.2.2.length c146] 25 (0, 0)) :: vecC 3 1 a_v0 c_v0 y0.length cs_v0 :: R))) (fun b i => cond b ([0, 1, 2, 3, 4, 5, 6, 7, 8, 9, 10, 11, 12, 13, 14].contains i) ([0, 1, 2, 3, 4, 5, 6, 7, 8, 9, 10, 11, 12, 13, 14].contains i)) mixed ?_
          replace hS := hS.drew
          have hT := tw_sel (A := fun w => St w s148 (pt pb0 (.cells #[.slice a_v0 y0.length c_v0] 44 (0, 0)) :: pt pb1 (.cells #[.slice a140 q138.1.length c141] 25 (0, 0)) :: pt pb2 (.cells #[.func (.func 82) #[] #[.pointer (some ⟨pb0, 0, none⟩), .pointer (some ⟨pb1, 0, none⟩), .pointer (some ⟨pb2, 0, none⟩), .pointer (some ⟨pb3, 0, none⟩), .pointer (some ⟨pb4, 0, none⟩), .pointer (some ⟨pb5, 0, none⟩), .pointer (some ⟨pb6, 0, none⟩)]] 66 (0, 0)) :: pt pb3 (.cells #[.slice a_y3_0 y3.length c_y3_0] 32 (0, 0)) :: pt pb4 (.cells #[.int .i64 y4.Change, .int .i64 y4.Long, .int .i64 y4.Work, .int .i64 y4.After, .int .i64 y4.Break, .int .i64 y4.Rest, .int .i64 y4.Row] 24 (0, 0)) :: pt pb5 (.cells #[.bool q138.2.1] 4 (0, 0)) :: pt pb6 (.cells #[.slice a145 q138.2.2.length c146] 25 (0, 0)) :: vecC 3 1 a_v0 c_v0 y0.length cs_v0 :: R)) (B := fun w => St w s148 (pt pb0 (.cells #[.slice a_v0 y0.length c_v0] 44 (0, 0)) :: pt pb1 (.cells #[.slice a140 q138.1.length c141] 25 (0, 0)) :: pt pb2 (.cells #[.func (.func 82) #[] #[.pointer (some ⟨pb0, 0, none⟩), .pointer (some ⟨pb1, 0, none⟩), .pointer (some ⟨pb2, 0, none⟩), .pointer (some ⟨pb3, 0, none⟩), .pointer (some ⟨pb4, 0, none⟩), .pointer (some ⟨pb5, 0, none⟩), .pointer (some ⟨pb6, 0, none⟩)]] 66 (0, 0)) :: pt pb3 (.cells #[.slice a_y3_0 y3.length c_y3_0] 32 (0, 0)) :: pt pb4 (.cells #[.int .i64 y4.Change, .int .i64 y4.Long, .int .i64 y4.Work, .int .i64 y4.After, .int .i64 y4.Break, .int .i64 y4.Rest, .int .i64 y4.Row] 24 (0, 0)) :: pt pb5 (.cells #[.bool q138.2.1] 4 (0, 0)) :: pt pb6 (.cells #[.slice a145 q138.2.2.length c146] 25 (0, 0)) :: vecC 3 1 a_v0 c_v0 y0.length cs_v0 :: R)) (w := _) (x := true) (y := true) (fun _ => (hS.dropAt 8)) (fun _ => (hS.dropAt 8))
          have hF := hS; replace hS := (hS.dropAt 8)
          refine Rg.take (i := 0) true rfl hE rfl (by kernel_rfl) (runs_plain rfl) (Gives.loadB hE 1 rfl rfl rfl ty25) rfl hT ?_; clear hE a; intro a hE
          replace hS := hF; clear hF hT
          refine Rg.takeP (i := 1) hE rfl (by kernel_rfl) (runs_plain rfl) (Gives.p hE rfl) rfl (tw_sel (fun _ => (hS.dropAt 8)) (fun _ => (hS.dropAt 8))) ?_; clear hE a; intro a hE
          have hT := tw_sel (A := fun w => St w s148 (pt pb0 (.cells #[.slice a_v0 y0.length c_v0] 44 (0, 0)) :: pt pb1 (.cells #[.slice a140 q138.1.length c141] 25 (0, 0)) :: pt pb2 (.cells #[.func (.func 82) #[] #[.pointer (some ⟨pb0, 0, none⟩), .pointer (some ⟨pb1, 0, none⟩), .pointer (some ⟨pb2, 0, none⟩), .pointer (some ⟨pb3, 0, none⟩), .pointer (some ⟨pb4, 0, none⟩), .pointer (some ⟨pb5, 0, none⟩), .pointer (some ⟨pb6, 0, none⟩)]] 66 (0, 0)) :: pt pb3 (.cells #[.slice a_y3_0 y3.length c_y3_0] 32 (0, 0)) :: pt pb4 (.cells #[.int .i64 y4.Change, .int .i64 y4.Long, .int .i64 y4.Work, .int .i64 y4.After, .int .i64 y4.Break, .int .i64 y4.Rest, .int .i64 y4.Row] 24 (0, 0)) :: pt pb5 (.cells #[.bool q138.2.1] 4 (0, 0)) :: pt pb6 (.cells #[.slice a145 q138.2.2.length c146] 25 (0, 0)) :: vecC 3 1 a_v0 c_v0 y0.length cs_v0 :: R)) (B := fun w => St w s148 (pt pb0 (.cells #[.slice a_v0 y0.length c_v0] 44 (0, 0)) :: pt pb1 (.cells #[.slice a140 q138.1.length c141] 25 (0, 0)) :: pt pb2 (.cells #[.func (.func 82) #[] #[.pointer (some ⟨pb0, 0, none⟩), .pointer (some ⟨pb1, 0, none⟩), .pointer (some ⟨pb2, 0, none⟩), .pointer (some ⟨pb3, 0, none⟩), .pointer (some ⟨pb4, 0, none⟩), .pointer (some ⟨pb5, 0, none⟩), .pointer (some ⟨pb6, 0, none⟩)]] 66 (0, 0)) :: pt pb3 (.cells #[.slice a_y3_0 y3.length c_y3_0] 32 (0, 0)) :: pt pb4 (.cells #[.int .i64 y4.Change, .int .i64 y4.Long, .int .i64 y4.Work, .int .i64 y4.After, .int .i64 y4.Break, .int .i64 y4.Rest, .int .i64 y4.Row] 24 (0, 0)) :: pt pb5 (.cells #[.bool q138.2.1] 4 (0, 0)) :: pt pb6 (.cells #[.slice a145 q138.2.2.length c146] 25 (0, 0)) :: vecC 3 1 a_v0 c_v0 y0.length cs_v0 :: R)) (w := _) (x := true) (y := true) (fun _ => (hS.dropAt 8)) (fun _ => (hS.dropAt 8))
          have hF := hS; replace hS := (hS.dropAt 8)
          refine Rg.take (i := 2) true rfl hE rfl (by kernel_rfl) (runs_plain rfl) (Gives.loadB hE 1 rfl rfl rfl ty25) rfl hT ?_; clear hE a; intro a hE
          replace hS := hF; clear hF hT
          refine Rg.takeP (i := 3) hE rfl (by kernel_rfl) (runs_plain rfl) (Gives.p hE rfl) rfl (tw_sel (fun _ => (hS.dropAt 8)) (fun _ => (hS.dropAt 8))) ?_; clear hE a; intro a hE
          obtain ⟨x151, hx152, hq76⟩ := bindS hq76
          obtain ⟨hi153, hlt154, hy155⟩ := gx_some hx152
          obtain ⟨a156, c157, cs158, hd159, hev160⟩ := h144.at hy155
          refine Rg.takeP (i := 4) hE rfl (by kernel_rfl) (runs_plain rfl) (Gives.idx hE ((((k78 : Nat) : Int)).toNat) rfl rfl sl25 hi153 (by omega) (hS.nAok 8 rfl (by omega : (((k78 : Nat) : Int)).toNat < q138.1.length))) rfl (tw_sel (fun _ => (hS.dropAt 8)) (fun _ => (hS.dropAt 8))) ?_; clear hE a; intro a hE
          have hT := tw_sel (A := fun w => St w s148 (pt pb0 (.cells #[.slice a_v0 y0.length c_v0] 44 (0, 0)) :: pt pb1 (.cells #[.slice a140 q138.1.length c141] 25 (0, 0)) :: pt pb2 (.cells #[.func (.func 82) #[] #[.pointer (some ⟨pb0, 0, none⟩), .pointer (some ⟨pb1, 0, none⟩), .pointer (some ⟨pb2, 0, none⟩), .pointer (some ⟨pb3, 0, none⟩), .pointer (some ⟨pb4, 0, none⟩), .pointer (some ⟨pb5, 0, none⟩), .pointer (some ⟨pb6, 0, none⟩)]] 66 (0, 0)) :: pt pb3 (.cells #[.slice a_y3_0 y3.length c_y3_0] 32 (0, 0)) :: pt pb4 (.cells #[.int .i64 y4.Change, .int .i64 y4.Long, .int .i64 y4.Work, .int .i64 y4.After, .int .i64 y4.Break, .int .i64 y4.Rest, .int .i64 y4.Row] 24 (0, 0)) :: pt pb5 (.cells #[.bool q138.2.1] 4 (0, 0)) :: pt pb6 (.cells #[.slice a145 q138.2.2.length c146] 25 (0, 0)) :: vecC 3 1 a_v0 c_v0 y0.length cs_v0 :: R)) (B := fun w => St w s148 (pt pb0 (.cells #[.slice a_v0 y0.length c_v0] 44 (0, 0)) :: pt pb1 (.cells #[.slice a140 q138.1.length c141] 25 (0, 0)) :: pt pb2 (.cells #[.func (.func 82) #[] #[.pointer (some ⟨pb0, 0, none⟩), .pointer (some ⟨pb1, 0, none⟩), .pointer (some ⟨pb2, 0, none⟩), .pointer (some ⟨pb3, 0, none⟩), .pointer (some ⟨pb4, 0, none⟩), .pointer (some ⟨pb5, 0, none⟩), .pointer (some ⟨pb6, 0, none⟩)]] 66 (0, 0)) :: pt pb3 (.cells #[.slice a_y3_0 y3.length c_y3_0] 32 (0, 0)) :: pt pb4 (.cells #[.int .i64 y4.Change, .int .i64 y4.Long, .int .i64 y4.Work, .int .i64 y4.After, .int .i64 y4.Break, .int .i64 y4.Rest, .int .i64 y4.Row] 24 (0, 0)) :: pt pb5 (.cells #[.bool q138.2.1] 4 (0, 0)) :: pt pb6 (.cells #[.slice a145 q138.2.2.length c146] 25 (0, 0)) :: vecC 3 1 a_v0 c_v0 y0.length cs_v0 :: R)) (w := _) (x := true) (y := true) (fun _ => (hS.dropAt 8)) (fun _ => (hS.dropAt 8))
          have hF := hS; replace hS := (hS.dropAt 8)
          refine Rg.take (i := 6) true rfl hE rfl (by kernel_rfl) (runs_plain rfl) (Gives.loadB hE 1 rfl rfl rfl ty25) rfl hT ?_; clear hE a; intro a hE
          replace hS := hF; clear hF hT
          refine Rg.takeP (i := 7) hE rfl (by kernel_rfl) (runs_plain rfl) (Gives.p hE rfl) rfl (tw_sel (fun _ => (hS.dropAt 8)) (fun _ => (hS.dropAt 8))) ?_; clear hE a; intro a hE
          obtain ⟨x161, hx162, hq76⟩ := bindS hq76
          obtain ⟨hi163, hlt164, hy165⟩ := gx_some hx162
          obtain ⟨a166, c167, cs168, hd169, hev170⟩ := h144.at hy165
          refine Rg.takeP (i := 8) hE rfl (by kernel_rfl) (runs_plain rfl) (Gives.idx hE ((((k78 : Nat) : Int)).toNat) rfl rfl sl25 hi163 (by omega) (hS.nAok 8 rfl (by omega : (((k78 : Nat) : Int)).toNat < q138.1.length))) rfl (tw_sel (fun _ => (hS.dropAt 8)) (fun _ => (hS.dropAt 8))) ?_; clear hE a; intro a hE
          obtain ⟨x172, hx173, hq76⟩ := bindS hq76
          obtain ⟨_, hx181, hq76⟩ := bindS hq76
          obtain ⟨x184, hx185, hq76⟩ := bindS hq76
          suffices key : ∀ ds186 (a : Act) (w : World), Sl 6 RFleetTask s148 a_y3_0 c_y3_0 y3 → Sl 1 (RL 1 (RI .i64)) s148 a145 c146 q138.2.2 → Ev 1 (RI .i64) s148 cs_v0 y0 → NEv 1 (RI .i64) s148 ds186 x184 → (x184).length = q138.1.length → Rep a 113 [(0, .int .i64 x0), (1, .pointer (some ⟨pb0, 0, none⟩)), (2, .pointer (some ⟨pb1, 0, none⟩)), (3, .pointer (some ⟨pb2, 0, none⟩)), (18, .int .i64 ((y1.length : Nat) : Int)), (19, .int .i64 ((k78 : Nat) : Int))] → St w s148 (pt pb0 (.cells #[.slice a_v0 y0.length c_v0] 44 (0, 0)) :: pt pb1 (.cells #[.slice a140 q138.1.length c141] 25 (0, 0)) :: pt pb2 (.cells #[.func (.func 82) #[] #[.pointer (some ⟨pb0, 0, none⟩), .pointer (some ⟨pb1, 0, none⟩), .pointer (some ⟨pb2, 0, none⟩), .pointer (some ⟨pb3, 0, none⟩), .pointer (some ⟨pb4, 0, none⟩), .pointer (some ⟨pb5, 0, none⟩), .pointer (some ⟨pb6, 0, none⟩)]] 66 (0, 0)) :: pt pb3 (.cells #[.slice a_y3_0 y3.length c_y3_0] 32 (0, 0)) :: pt pb4 (.cells #[.int .i64 y4.Change, .int .i64 y4.Long, .int .i64 y4.Work, .int .i64 y4.After, .int .i64 y4.Break, .int .i64 y4.Rest, .int .i64 y4.Row] 24 (0, 0)) :: pt pb5 (.cells #[.bool q138.2.1] 4 (0, 0)) :: pt pb6 (.cells #[.slice a145 q138.2.2.length c146] 25 (0, 0)) :: vecC 3 1 a_v0 c_v0 y0.length cs_v0 :: nestC 44 3 1 a140 c141 q138.1.length ds186 :: R) → K150.nor a w by
            refine Rg.many 5 [9] (by kernel_rfl) ⟨?_, ?_, trivial⟩
            · refine Br.mk (i := 5) true true rfl (by kernel_rfl) (by kernel_rfl) ?_
              refine WL.vS hS hE (runs_plain rfl) (Gives.load1 (v := .slice a156 x151.length c157) hE rfl (fun w h => St.nSees h 8 rfl hd159) ty44) rfl ?_; clear hE a; intro a hE
              refine WL.nil ?_
              refine ⟨⟨fun _ => (hS.dropAt 8), fun _ => (hS.dropAt 8)⟩, ?_⟩
              refine Rg.one (i := 9) true true rfl (by kernel_rfl) (by kernel_rfl) (by kernel_rfl) ?_
              refine WL.vS hS hE (runs_plain rfl) (Gives.load1 (v := .slice a166 x161.length c167) hE rfl (fun w h => St.nSees h 8 rfl hd169) ty44) rfl ?_; clear hE a; intro a hE
              refine WL.nil ?_
              refine ⟨⟨fun _ => (hS.dropAt 8), fun _ => (hS.dropAt 8)⟩, ?_⟩
              refine Rg.takeP (i := 10) hE rfl (by kernel_rfl) (runs_plain rfl) (Gives.len hE rfl sl44) rfl (tw_sel (fun _ => (hS.dropAt 8)) (fun _ => (hS.dropAt 8))) ?_; clear hE a; intro a hE
              refine Rg.takeP (i := 11) hE rfl (by kernel_rfl) (runs_plain rfl) (Gives.p hE rfl) rfl (tw_sel (fun _ => (hS.dropAt 8)) (fun _ => (hS.dropAt 8))) ?_; clear hE a; intro a hE
              replace hS := hS.borrowM 8 rfl hd159
              obtain ⟨_, h174, h175, h176, h177, _⟩ := cutl_some hx173
              have h178 := (hS.vecCap 0 rfl).1
              have h179 : Ev 1 (RI .i64) s148 (cs158.take ((w64 (((x161).length : Int) - 1)).toNat * 1)) x172 := by rw [h176]; exact hev160.take _
              have hn180 : x172.length = (w64 (((x161).length : Int) - 1)).toNat := by rw [h176]; simp; omega
              replace hS := hS.vecTake 0 rfl (by omega)
              refine Rg.takeP (i := 12) hE rfl (by kernel_rfl) (runs_plain rfl) (Gives.slH hE sl44 rfl rfl h174 (Int.le_trans h175 (by omega)) (sliced_zero _ _ _ _)) rfl (tw_sel (fun _ => ((hS.tail).dropAt 8)) (fun _ => ((hS.tail).dropAt 8))) ?_; clear hE a; intro a hE
              obtain ⟨h182, h183⟩ := ix_some hx181
              refine Rg.takeP (i := 13) hE rfl (by kernel_rfl) (runs_plain rfl) (Gives.idx hE ((((k78 : Nat) : Int)).toNat) rfl rfl sl25 h182 (by omega) (hS.hAok 9 rfl (by omega : (((k78 : Nat) : Int)).toNat < q138.1.length))) rfl (tw_sel (fun _ => ((hS.tail).dropAt 8)) (fun _ => ((hS.tail).dropAt 8))) ?_; clear hE a; intro a hE
              refine Rg.one (i := 14) true true rfl (by kernel_rfl) (by kernel_rfl) (by kernel_rfl) ?_
              refine WL.storeND hE hS 8 rfl (runs_plain rfl) rfl rfl ty44 h144 rfl (by have := (sx_some hx185).1; omega) hx185 h179 hn180 rfl ?_; clear hE hS a w; intro ds186 a w h187 hn188 hE hS
              refine WL.nil ?_
              refine ⟨⟨fun _ => (hS.dropAt 8), fun _ => (hS.dropAt 8)⟩, ?_⟩
              refine Rg.done (by kernel_rfl) ?_
              exact key _ _ _ h_y3_0 h147 h_v0 h187 hn188 (hE.pick _ ⟨rfl, rfl, rfl, rfl, rfl, rfl, trivial⟩) hS
            · refine Br.mk (i := 9) true true rfl (by kernel_rfl) (by kernel_rfl) ?_
              refine WL.vS hS hE (runs_plain rfl) (Gives.load1 (v := .slice a166 x161.length c167) hE rfl (fun w h => St.nSees h 8 rfl hd169) ty44) rfl ?_; clear hE a; intro a hE
              refine WL.nil ?_
              refine ⟨⟨fun _ => (hS.dropAt 8), fun _ => (hS.dropAt 8)⟩, ?_⟩
              refine Rg.takeP (i := 10) hE rfl (by kernel_rfl) (runs_plain rfl) (Gives.len hE rfl sl44) rfl (tw_sel (fun _ => (hS.dropAt 8)) (fun _ => (hS.dropAt 8))) ?_; clear hE a; intro a hE
              refine Rg.takeP (i := 11) hE rfl (by kernel_rfl) (runs_plain rfl) (Gives.p hE rfl) rfl (tw_sel (fun _ => (hS.dropAt 8)) (fun _ => (hS.dropAt 8))) ?_; clear hE a; intro a hE
              refine Rg.one (i := 5) true true rfl (by kernel_rfl) (by kernel_rfl) (by kernel_rfl) ?_
              refine WL.vS hS hE (runs_plain rfl) (Gives.load1 (v := .slice a156 x151.length c157) hE rfl (fun w h => St.nSees h 8 rfl hd159) ty44) rfl ?_; clear hE a; intro a hE
              refine WL.nil ?_
              refine ⟨⟨fun _ => (hS.dropAt 8), fun _ => (hS.dropAt 8)⟩, ?_⟩
              replace hS := hS.borrowM 8 rfl hd159
              obtain ⟨_, h174, h175, h176, h177, _⟩ := cutl_some hx173
              have h178 := (hS.vecCap 0 rfl).1
              have h179 : Ev 1 (RI .i64) s148 (cs158.take ((w64 (((x161).length : Int) - 1)).toNat * 1)) x172 := by rw [h176]; exact hev160.take _
              have hn180 : x172.length = (w64 (((x161).length : Int) - 1)).toNat := by rw [h176]; simp; omega
              replace hS := hS.vecTake 0 rfl (by omega)
              refine Rg.takeP (i := 12) hE rfl (by kernel_rfl) (runs_plain rfl) (Gives.slH hE sl44 rfl rfl h174 (Int.le_trans h175 (by omega)) (sliced_zero _ _ _ _)) rfl (tw_sel (fun _ => ((hS.tail).dropAt 8)) (fun _ => ((hS.tail).dropAt 8))) ?_; clear hE a; intro a hE
              obtain ⟨h182, h183⟩ := ix_some hx181
              refine Rg.takeP (i := 13) hE rfl (by kernel_rfl) (runs_plain rfl) (Gives.idx hE ((((k78 : Nat) : Int)).toNat) rfl rfl sl25 h182 (by omega) (hS.hAok 9 rfl (by omega : (((k78 : Nat) : Int)).toNat < q138.1.length))) rfl (tw_sel (fun _ => ((hS.tail).dropAt 8)) (fun _ => ((hS.tail).dropAt 8))) ?_; clear hE a; intro a hE
              refine Rg.one (i := 14) true true rfl (by kernel_rfl) (by kernel_rfl) (by kernel_rfl) ?_
              refine WL.storeND hE hS 8 rfl (runs_plain rfl) rfl rfl ty44 h144 rfl (by have := (sx_some hx185).1; omega) hx185 h179 hn180 rfl ?_; clear hE hS a w; intro ds186 a w h187 hn188 hE hS
              refine WL.nil ?_
              refine ⟨⟨fun _ => (hS.dropAt 8), fun _ => (hS.dropAt 8)⟩, ?_⟩
              refine Rg.done (by kernel_rfl) ?_
              exact key _ _ _ h_y3_0 h147 h_v0 h187 hn188 (hE.pick _ ⟨rfl, rfl, rfl, rfl, rfl, rfl, trivial⟩) hS
          clear hE hS a w; intro ds186 a w h_y3_0 h147 h_v0 h187 hn188 hE hS
          subst hK150
          refine W.region ?_
          refine WL.vS hS hE (runs_plain rfl) (Gives.inc hE rfl (by omega)) rfl ?_; clear hE a; intro a hE
          refine WL.vS hS hE (runs_plain rfl) (Gives.p hE rfl) rfl ?_; clear hE a; intro a hE
          refine WL.nil ?_
          subst hK100
          exact ⟨rest80, Nat.lt_succ_self _, rest80, k78 + 1, x184, q138.2.1, q138.2.2, a140, c141, q138.1.length, ds186, a145, c146, s148, rfl, (by omega), (Sg.Le.trans hle86 hle149), hq76, h187, hn188, h147, hE.pick _ ⟨rfl, rfl, rfl, rfl, rfl, rfl, trivial⟩, hS⟩
      · clear hE hS a w; rintro a w ⟨q88, q95, q96, a89, c90, n91, ds92, a97, c98, s85, hle86, rfl, h93, rfl, h99, hE, hS⟩
        dsimp only at hr
        replace h_y3_0 := Sl.mono RFleetTask.mono hle86 h_y3_0
        replace h_y6_0 := Sl.mono (RL.mono RI.mono) hle86 h_y6_0
        replace h_v0 := Ev.mono RI.mono hle86 h_v0
        replace h_v1 := NEv.mono RI.mono hle86 h_v1
        refine W.seq ?_
        refine W.gen fun K190 hK190 => ?_
        refine W.regionE (sel (fun w => St w s85 (pt pb0 (.cells #[.slice a_v0 y0.length c_v0] 44 (0, 0)) :: pt pb1 (.cells #[.slice a89 q88.length c90] 25 (0, 0)) :: pt pb2 (.cells #[.func (.func 82) #[] #[.pointer (some ⟨pb0, 0, none⟩), .pointer (some ⟨pb1, 0, none⟩), .pointer (some ⟨pb2, 0, none⟩), .pointer (some ⟨pb3, 0, none⟩), .pointer (some ⟨pb4, 0, none⟩), .pointer (some ⟨pb5, 0, none⟩), .pointer (some ⟨pb6, 0, none⟩)]] 66 (0, 0)) :: pt pb3 (.cells #[.slice a_y3_0 y3.length c_y3_0] 32 (0, 0)) :: pt pb4 (.cells #[.int .i64 y4.Change, .int .i64 y4.Long, .int .i64 y4.Work, .int .i64 y4.After, .int .i64 y4.Break, .int .i64 y4.Rest, .int .i64 y4.Row] 24 (0, 0)) :: pt pb5 (.cells #[.bool q95] 4 (0, 0)) :: pt pb6 (.cells #[.slice a97 q96.length c98] 25 (0, 0)) :: vecC 3 1 a_v0 c_v0 y0.length cs_v0 :: nestC 44 3 1 a89 c90 q88.length ds92 :: R)) (fun w => St w s85 (pt pb0 (.cells #[.slice a_v0 y0.length c_v0] 44 (0, 0)) :: pt pb1 (.cells #[.slice a89 q88.length c90] 25 (0, 0)) :: pt pb2 (.cells #[.func (.func 82) #[] #[.pointer (some ⟨pb0, 0, none⟩), .pointer (some ⟨pb1, 0, none⟩), .pointer (some ⟨pb2, 0, none⟩), .pointer (some ⟨pb3, 0, none⟩), .pointer (some ⟨pb4, 0, none⟩), .pointer (some ⟨pb5, 0, none⟩), .pointer (some ⟨pb6, 0, none⟩)]] 66 (0, 0)) :: pt pb3 (.cells #[.slice a_y3_0 y3.length c_y3_0] 32 (0, 0)) :: pt pb4 (.cells #[.int .i64 y4.Change, .int .i64 y4.Long, .int .i64 y4.Work, .int .i64 y4.After, .int .i64 y4.Break, .int .i64 y4.Rest, .int .i64 y4.Row] 24 (0, 0)) :: pt pb5 (.cells #[.bool q95] 4 (0, 0)) :: pt pb6 (.cells #[.slice a97 q96.length c98] 25 (0, 0)) :: vecC 3 1 a_v0 c_v0 y0.length cs_v0 :: R))) (fun b i => cond b ([0, 1, 2, 3, 4, 5, 6].contains i) ([0, 1, 2, 3, 4, 5, 6, 7].contains i)) mixed ?_
        replace hS := hS.drew
        have hT := tw_sel (A := fun w => St w s85 (pt pb0 (.cells #[.slice a_v0 y0.length c_v0] 44 (0, 0)) :: pt pb1 (.cells #[.slice a89 q88.length c90] 25 (0, 0)) :: pt pb2 (.cells #[.func (.func 82) #[] #[.pointer (some ⟨pb0, 0, none⟩), .pointer (some ⟨pb1, 0, none⟩), .pointer (some ⟨pb2, 0, none⟩), .pointer (some ⟨pb3, 0, none⟩), .pointer (some ⟨pb4, 0, none⟩), .pointer (some ⟨pb5, 0, none⟩), .pointer (some ⟨pb6, 0, none⟩)]] 66 (0, 0)) :: pt pb3 (.cells #[.slice a_y3_0 y3.length c_y3_0] 32 (0, 0)) :: pt pb4 (.cells #[.int .i64 y4.Change, .int .i64 y4.Long, .int .i64 y4.Work, .int .i64 y4.After, .int .i64 y4.Break, .int .i64 y4.Rest, .int .i64 y4.Row] 24 (0, 0)) :: pt pb5 (.cells #[.bool q95] 4 (0, 0)) :: pt pb6 (.cells #[.slice a97 q96.length c98] 25 (0, 0)) :: vecC 3 1 a_v0 c_v0 y0.length cs_v0 :: nestC 44 3 1 a89 c90 q88.length ds92 :: R)) (B := fun w => St w s85 (pt pb0 (.cells #[.slice a_v0 y0.length c_v0] 44 (0, 0)) :: pt pb1 (.cells #[.slice a89 q88.length c90] 25 (0, 0)) :: pt pb2 (.cells #[.func (.func 82) #[] #[.pointer (some ⟨pb0, 0, none⟩), .pointer (some ⟨pb1, 0, none⟩), .pointer (some ⟨pb2, 0, none⟩), .pointer (some ⟨pb3, 0, none⟩), .pointer (some ⟨pb4, 0, none⟩), .pointer (some ⟨pb5, 0, none⟩), .pointer (some ⟨pb6, 0, none⟩)]] 66 (0, 0)) :: pt pb3 (.cells #[.slice a_y3_0 y3.length c_y3_0] 32 (0, 0)) :: pt pb4 (.cells #[.int .i64 y4.Change, .int .i64 y4.Long, .int .i64 y4.Work, .int .i64 y4.After, .int .i64 y4.Break, .int .i64 y4.Rest, .int .i64 y4.Row] 24 (0, 0)) :: pt pb5 (.cells #[.bool q95] 4 (0, 0)) :: pt pb6 (.cells #[.slice a97 q96.length c98] 25 (0, 0)) :: vecC 3 1 a_v0 c_v0 y0.length cs_v0 :: R)) (w := _) (x := true) (y := true) (fun _ => hS) (fun _ => (hS.dropAt 8))
        have hF := hS; replace hS := hS
        refine Rg.take (i := 0) true rfl hE rfl (by kernel_rfl) (runs_plain rfl) (Gives.loadB hE 1 rfl rfl rfl ty25) rfl hT ?_; clear hE a; intro a hE
        replace hS := hF; clear hF hT
        have hT := tw_sel (A := fun w => St w s85 (pt pb0 (.cells #[.slice a_v0 y0.length c_v0] 44 (0, 0)) :: pt pb1 (.cells #[.slice a89 q88.length c90] 25 (0, 0)) :: pt pb2 (.cells #[.func (.func 82) #[] #[.pointer (some ⟨pb0, 0, none⟩), .pointer (some ⟨pb1, 0, none⟩), .pointer (some ⟨pb2, 0, none⟩), .pointer (some ⟨pb3, 0, none⟩), .pointer (some ⟨pb4, 0, none⟩), .pointer (some ⟨pb5, 0, none⟩), .pointer (some ⟨pb6, 0, none⟩)]] 66 (0, 0)) :: pt pb3 (.cells #[.slice a_y3_0 y3.length c_y3_0] 32 (0, 0)) :: pt pb4 (.cells #[.int .i64 y4.Change, .int .i64 y4.Long, .int .i64 y4.Work, .int .i64 y4.After, .int .i64 y4.Break, .int .i64 y4.Rest, .int .i64 y4.Row] 24 (0, 0)) :: pt pb5 (.cells #[.bool q95] 4 (0, 0)) :: pt pb6 (.cells #[.slice a97 q96.length c98] 25 (0, 0)) :: vecC 3 1 a_v0 c_v0 y0.length cs_v0 :: nestC 44 3 1 a89 c90 q88.length ds92 :: R)) (B := fun w => St w s85 (pt pb0 (.cells #[.slice a_v0 y0.length c_v0] 44 (0, 0)) :: pt pb1 (.cells #[.slice a89 q88.length c90] 25 (0, 0)) :: pt pb2 (.cells #[.func (.func 82) #[] #[.pointer (some ⟨pb0, 0, none⟩), .pointer (some ⟨pb1, 0, none⟩), .pointer (some ⟨pb2, 0, none⟩), .pointer (some ⟨pb3, 0, none⟩), .pointer (some ⟨pb4, 0, none⟩), .pointer (some ⟨pb5, 0, none⟩), .pointer (some ⟨pb6, 0, none⟩)]] 66 (0, 0)) :: pt pb3 (.cells #[.slice a_y3_0 y3.length c_y3_0] 32 (0, 0)) :: pt pb4 (.cells #[.int .i64 y4.Change, .int .i64 y4.Long, .int .i64 y4.Work, .int .i64 y4.After, .int .i64 y4.Break, .int .i64 y4.Rest, .int .i64 y4.Row] 24 (0, 0)) :: pt pb5 (.cells #[.bool q95] 4 (0, 0)) :: pt pb6 (.cells #[.slice a97 q96.length c98] 25 (0, 0)) :: vecC 3 1 a_v0 c_v0 y0.length cs_v0 :: R)) (w := _) (x := true) (y := true) (fun _ => hS) (fun _ => (hS.dropAt 8))
        have hF := hS; replace hS := (hS.dropAt 8)
        refine Rg.take (i := 1) false rfl hE rfl (by kernel_rfl) (runs_plain rfl) (Gives.loadB hE 0 rfl rfl rfl ty44) rfl hT ?_; clear hE a; intro a hE
        replace hS := hF; clear hF hT
        refine Rg.takeP (i := 2) hE rfl (by kernel_rfl) (runs_plain rfl) (Gives.p hE rfl) rfl (tw_sel (fun _ => hS) (fun _ => (hS.dropAt 8))) ?_; clear hE a; intro a hE
        obtain ⟨x191, hx192, hr⟩ := bindS hr
        obtain ⟨hi193, hlt194, hy195⟩ := gx_some hx192
        obtain ⟨vs196, hl197, hR198, hd199, hget200⟩ := h_v0.at hy195
        subst hR198
        refine Rg.takeP (i := 3) hE rfl (by kernel_rfl) (runs_plain rfl) (Gives.idx hE ((x0).toNat) rfl rfl sl44 hi193 (by omega) (hS.vecAok 7 rfl (by omega : (x0).toNat < y0.length))) rfl (tw_sel (fun _ => hS) (fun _ => (hS.dropAt 8))) ?_; clear hE a; intro a hE
        have hT := tw_sel (A := fun w => St w s85 (pt pb0 (.cells #[.slice a_v0 y0.length c_v0] 44 (0, 0)) :: pt pb1 (.cells #[.slice a89 q88.length c90] 25 (0, 0)) :: pt pb2 (.cells #[.func (.func 82) #[] #[.pointer (some ⟨pb0, 0, none⟩), .pointer (some ⟨pb1, 0, none⟩), .pointer (some ⟨pb2, 0, none⟩), .pointer (some ⟨pb3, 0, none⟩), .pointer (some ⟨pb4, 0, none⟩), .pointer (some ⟨pb5, 0, none⟩), .pointer (some ⟨pb6, 0, none⟩)]] 66 (0, 0)) :: pt pb3 (.cells #[.slice a_y3_0 y3.length c_y3_0] 32 (0, 0)) :: pt pb4 (.cells #[.int .i64 y4.Change, .int .i64 y4.Long, .int .i64 y4.Work, .int .i64 y4.After, .int .i64 y4.Break, .int .i64 y4.Rest, .int .i64 y4.Row] 24 (0, 0)) :: pt pb5 (.cells #[.bool q95] 4 (0, 0)) :: pt pb6 (.cells #[.slice a97 q96.length c98] 25 (0, 0)) :: vecC 3 1 a_v0 c_v0 y0.length cs_v0 :: nestC 44 3 1 a89 c90 q88.length ds92 :: R)) (B := fun w => St w s85 (pt pb0 (.cells #[.slice a_v0 y0.length c_v0] 44 (0, 0)) :: pt pb1 (.cells #[.slice a89 q88.length c90] 25 (0, 0)) :: pt pb2 (.cells #[.func (.func 82) #[] #[.pointer (some ⟨pb0, 0, none⟩), .pointer (some ⟨pb1, 0, none⟩), .pointer (some ⟨pb2, 0, none⟩), .pointer (some ⟨pb3, 0, none⟩), .pointer (some ⟨pb4, 0, none⟩), .pointer (some ⟨pb5, 0, none⟩), .pointer (some ⟨pb6, 0, none⟩)]] 66 (0, 0)) :: pt pb3 (.cells #[.slice a_y3_0 y3.length c_y3_0] 32 (0, 0)) :: pt pb4 (.cells #[.int .i64 y4.Change, .int .i64 y4.Long, .int .i64 y4.Work, .int .i64 y4.After, .int .i64 y4.Break, .int .i64 y4.Rest, .int .i64 y4.Row] 24 (0, 0)) :: pt pb5 (.cells #[.bool q95] 4 (0, 0)) :: pt pb6 (.cells #[.slice a97 q96.length c98] 25 (0, 0)) :: vecC 3 1 a_v0 c_v0 y0.length cs_v0 :: R)) (w := _) (x := true) (y := true) (fun _ => hS) (fun _ => (hS.dropAt 8))
        have hF := hS; replace hS := (hS.dropAt 8)
        refine Rg.take (i := 4) false rfl hE rfl (by kernel_rfl) (runs_plain rfl) (Gives.load1 hE rfl (fun w h => St.vecSees h 7 rfl ((x0).toNat * 1) _ hget200) ty3) rfl hT ?_; clear hE a; intro a hE
        replace hS := hF; clear hF hT
        refine Rg.one (i := 5) true true rfl (by kernel_rfl) (by kernel_rfl) (by kernel_rfl) ?_
        refine WL.lit hE hS (e := 3) (es := 1) (vs := [(0, .int .i64 x191)]) (cs := [.int .i64 x191]) (runs_plain rfl) rfl (by kernel_rfl) rfl ?_; clear hE hS a w; intro b201 a w hE hS
        replace hS := hS.ptVec (es := 1) (m := 1) rfl (by decide)
        have h203 : Ev 1 (RI .i64) s85 [.int .i64 x191] [x191] := (Ev.cons (c1 := [.int .i64 x191]) rfl rfl (Ev.nil))
        refine WL.nil ?_
        refine ⟨⟨fun _ => (hS.tail), fun _ => ((hS.tail).dropAt 8)⟩, ?_⟩
        refine Rg.one (i := 6) true true rfl (by kernel_rfl) (by kernel_rfl) (by kernel_rfl) ?_
        refine WL.lit hE hS (e := 44) (es := 1) (vs := [(0, .slice (some ⟨b201, 0, none⟩) 1 1)]) (cs := [.slice (some ⟨b201, 0, none⟩) 1 1]) (runs_plain rfl) rfl (by kernel_rfl) rfl ?_; clear hE hS a w; intro b204 a w hE hS
        refine WL.nil ?_
        refine ⟨⟨fun _ => ((hS.tail).tail), fun _ => (((hS.tail).tail).dropAt 8)⟩, ?_⟩
        refine Rg.one (i := 7) false true rfl (by kernel_rfl) (by kernel_rfl) (by kernel_rfl) ?_
        obtain ⟨x205, hx206, hr⟩ := bindS hr
        replace hS := hS.front 1 rfl
        replace hS := hS.front 1 rfl
        refine WL.appND hE hS 8 rfl (runs_plain rfl) rfl rfl ap25 h93 rfl h203 (rfl) hx206 rfl ?_; clear hE hS a w; intro a207 c208 ds209 a w h210 hE hS
        refine WL.nil ?_
        refine ⟨⟨fun h => absurd h (by decide), fun _ => (hS.dropAt 8)⟩, ?_⟩
        refine Rg.one (i := 8) false false rfl (by kernel_rfl) (by kernel_rfl) (by kernel_rfl) ?_
        refine WL.storeI hE hS 1 rfl [.slice a207 x205.length c208] (runs_plain rfl) rfl rfl rfl ty25 rfl rfl rfl rfl ?_; clear hE hS a w; intro a w hE hS
        refine WL.nil ?_
        refine ⟨⟨fun h => absurd h (by decide), fun h => absurd h (by decide)⟩, ?_⟩
        refine Rg.done (by kernel_rfl) ?_
        subst hK190
        refine W.seq ?_
        refine W.region ?_
        refine WL.vS hS hE (runs_plain rfl) (Gives.loadB hE 2 rfl rfl rfl ty66) rfl ?_; clear hE a; intro a hE
        refine WL.vS hS hE (runs_plain rfl) (Gives.p hE rfl) rfl ?_; clear hE a; intro a hE
        refine WL.vS hS hE (runs_plain rfl) (Gives.p hE rfl) rfl ?_; clear hE a; intro a hE
        obtain ⟨q211, hq212, hr⟩ := bindS hr
        have hc_ := ih_Fishref2DutiesOf_1_v1 (y4 := y4) hS h_v0 (rfl) h210 (rfl) h_y3_0 h99 hq212
        refine WL.fnw hE (hc_) rfl (runs_plain rfl) bd82 rfl rfl rfl ?_
        clear hE hS hc_; rintro e w ⟨a213, c214, n215, ds216, a218, c219, s221, rfl, hle222, h217, rfl, h220, hS⟩; refine ⟨_, rfl, ?_⟩; clear a; intro a hE
        replace h_y3_0 := Sl.mono RFleetTask.mono hle222 h_y3_0
        replace h99 := Sl.mono (RL.mono RI.mono) hle222 h99
        replace h_v0 := Ev.mono RI.mono hle222 h_v0
        replace h210 := NEv.mono RI.mono hle222 h210
        refine WL.nil ?_
        refine W.seq ?_
        refine W.region ?_
        refine WL.vS hS hE (runs_plain rfl) (Gives.loadB hE 1 rfl rfl rfl ty25) rfl ?_; clear hE a; intro a hE
        refine WL.vS hS hE (runs_plain rfl) (Gives.loadB hE 1 rfl rfl rfl ty25) rfl ?_; clear hE a; intro a hE
        refine WL.vS hS hE (runs_plain rfl) (Gives.len hE rfl sl25) rfl ?_; clear hE a; intro a hE
        refine WL.vS hS hE (runs_plain rfl) (Gives.p hE rfl) rfl ?_; clear hE a; intro a hE
        obtain ⟨x223, hx224, hr⟩ := bindS hr
        obtain ⟨_, h225, h226, h227, h228, _⟩ := cutl_some hx224
        have h229 := (hS.nCap 8 rfl).1
        have h230 : NEv 1 (RI .i64) s221 (ds216.take (w64 (((q211.1.length : Nat) : Int) - 1)).toNat) x223 := by rw [h227]; exact h217.take _
        have hn231 : x223.length = (w64 (((q211.1.length : Nat) : Int) - 1)).toNat := by rw [h227]; simp; omega
        replace hS := hS.nTake 8 rfl (by omega)
        refine WL.vS hS hE (runs_plain rfl) (Gives.slH hE sl25 rfl rfl h225 (Int.le_trans h226 (by omega)) (sliced_zero _ _ _ _)) rfl ?_; clear hE a; intro a hE
        refine WL.storeI hE hS 1 rfl [.slice a213 ((w64 (((q211.1.length : Nat) : Int) - 1)).toNat) c214] (runs_plain rfl) rfl rfl rfl ty25 rfl rfl rfl rfl ?_; clear hE hS a w; intro a w hE hS
        refine WL.nil ?_
        refine W.ret ?_
        refine finG (fn := Try.f82) (rs := []) (vs := []) hE rfl trivial ?_
        obtain rfl := Option.some.inj hr
        exact ⟨a213, c214, (w64 (((q211.1.length : Nat) : Int) - 1)).toNat, (ds216.take (w64 (((q211.1.length : Nat) : Int) - 1)).toNat), a218, c219, s221, rfl, (Sg.Le.trans hle86 hle222), h230, hn231, h220, hS⟩
    · replace hr := iteF hc75 hr
      refine W.skip ?_
      refine W.seq ?_
      refine W.region ?_
      replace hS := hS.nestNil 44 3 1
      refine WL.vS hS hE (runs_plain rfl) (Gives.p hE rfl) rfl ?_; clear hE a; intro a hE
      refine WL.nil ?_
      refine W.seq ?_
      refine W.seq ?_
      refine W.region ?_
      refine WL.vS hS hE (runs_plain rfl) (Gives.loadB hE 2 rfl rfl rfl ty25) rfl ?_; clear hE a; intro a hE
      refine WL.vS hS hE (runs_plain rfl) (Gives.len hE rfl sl25) rfl ?_; clear hE a; intro a hE
      refine WL.vS hS hE (runs_plain rfl) (Gives.p hE rfl) rfl ?_; clear hE a; intro a hE
      refine WL.nil ?_
      have hb244 : y1.length ≤ 9223372036854775807 := by have := hS.nCap 9 rfl; unfold maxLen at this; omega
      obtain ⟨q234, hq233, hr⟩ := bindS hr
      refine W.cut (fun a w => ∃ (q245 : List (List Int)), ∃ (a246 : Option Addr), ∃ (c247 : Nat), ∃ (n248 : Nat), ∃ (ds249 : List In), (.next q245) = q234 ∧ NEv 1 (RI .i64) s ds249 q245 ∧ q245.length = n248 ∧ Rep a 113 [(6, .pointer (some ⟨pb5, 0, none⟩)), (7, .pointer (some ⟨pb6, 0, none⟩)), (10, .slice a246 n248 c247)] ∧ St w s (nestC 44 3 1 a246 c247 n248 ds249 :: pt pb0 (.cells #[.slice a_v0 y0.length c_v0] 44 (0, 0)) :: pt pb1 (.cells #[.slice a_v1 y1.length c_v1] 25 (0, 0)) :: pt pb2 (.cells #[.func (.func 82) #[] #[.pointer (some ⟨pb0, 0, none⟩), .pointer (some ⟨pb1, 0, none⟩), .pointer (some ⟨pb2, 0, none⟩), .pointer (some ⟨pb3, 0, none⟩), .pointer (some ⟨pb4, 0, none⟩), .pointer (some ⟨pb5, 0, none⟩), .pointer (some ⟨pb6, 0, none⟩)]] 66 (0, 0)) :: pt pb3 (.cells #[.slice a_y3_0 y3.length c_y3_0] 32 (0, 0)) :: pt pb4 (.cells #[.int .i64 y4.Change, .int .i64 y4.Long, .int .i64 y4.Work, .int .i64 y4.After, .int .i64 y4.Break, .int .i64 y4.Rest, .int .i64 y4.Row] 24 (0, 0)) :: pt pb5 (.cells #[.bool y5] 4 (0, 0)) :: pt pb6 (.cells #[.slice a_y6_0 y6.length c_y6_0] 25 (0, 0)) :: vecC 3 1 a_v0 c_v0 y0.length cs_v0 :: nestC 44 3 1 a_v1 c_v1 y1.length ds_v1 :: R)) ?_ ?_
      · refine W.block ?_
        refine W.loop (fun m a w => ∃ (rest237 : Nat) (k235 : Nat), ∃ (q245 : List (List Int)), ∃ (a246 : Option Addr), ∃ (c247 : Nat), ∃ (n248 : Nat), ∃ (ds249 : List In), rest237 = m ∧ k235 + rest237 = y1.length ∧ Fishref2DutiesOf_1_v1.loop2 y1 y3 y4 y5 y6 rest237 k235 q245 = some q234 ∧ NEv 1 (RI .i64) s ds249 q245 ∧ q245.length = n248 ∧ Rep a 113 [(4, .pointer (some ⟨pb3, 0, none⟩)), (5, .pointer (some ⟨pb4, 0, none⟩)), (6, .pointer (some ⟨pb5, 0, none⟩)), (7, .pointer (some ⟨pb6, 0, none⟩)), (10, .slice a246 n248 c247), (71, .slice a_v1 y1.length c_v1), (72, .int .i64 ((y1.length : Nat) : Int)), (73, .int .i64 ((k235 : Nat) : Int))] ∧ St w s (nestC 44 3 1 a246 c247 n248 ds249 :: pt pb0 (.cells #[.slice a_v0 y0.length c_v0] 44 (0, 0)) :: pt pb1 (.cells #[.slice a_v1 y1.length c_v1] 25 (0, 0)) :: pt pb2 (.cells #[.func (.func 82) #[] #[.pointer (some ⟨pb0, 0, none⟩), .pointer (some ⟨pb1, 0, none⟩), .pointer (some ⟨pb2, 0, none⟩), .pointer (some ⟨pb3, 0, none⟩), .pointer (some ⟨pb4, 0, none⟩), .pointer (some ⟨pb5, 0, none⟩), .pointer (some ⟨pb6, 0, none⟩)]] 66 (0, 0)) :: pt pb3 (.cells #[.slice a_y3_0 y3.length c_y3_0] 32 (0, 0)) :: pt pb4 (.cells #[.int .i64 y4.Change, .int .i64 y4.Long, .int .i64 y4.Work, .int .i64 y4.After, .int .i64 y4.Break, .int .i64 y4.Rest, .int .i64 y4.Row] 24 (0, 0)) :: pt pb5 (.cells #[.bool y5] 4 (0, 0)) :: pt pb6 (.cells #[.slice a_y6_0 y6.length c_y6_0] 25 (0, 0)) :: vecC 3 1 a_v0 c_v0 y0.length cs_v0 :: nestC 44 3 1 a_v1 c_v1 y1.length ds_v1 :: R)) (m := y1.length) ⟨y1.length, 0, [], none, 0, 0, [], rfl, by omega, hq233, (NEv.nil), (rfl), hE.pick _ ⟨rfl, rfl, rfl, rfl, rfl, rfl, rfl, rfl, trivial⟩, hS⟩ ?_
        clear hE hS a w hq233; rintro m241 a w ⟨rest237, k235, q245, a246, c247, n248, ds249, rfl, hd238, hq233, h250, rfl, hE, hS⟩
        refine W.gen fun K252 hK252 => ?_
        rcases rest237 with _ | rest237
        · skip
          refine W.seq ?_
          refine W.region ?_
          refine WL.vS hS hE (runs_plain rfl) (Gives.p hE rfl) rfl ?_; clear hE a; intro a hE
          refine WL.nil ?_
          refine W.seq ?_
          refine W.condF hE rfl (decide_eq_false (by omega)) ?_
          subst hK252
          refine W.exit rfl ?_
          exact ⟨q245, a246, c247, q245.length, ds249, Option.some.inj hq233, h250, rfl, hE.pick _ ⟨rfl, rfl, rfl, trivial⟩, hS⟩
        · have hlt239 : k235 < y1.length := by omega
          rw [Fishref2DutiesOf_1_v1.loop2] at hq233
          refine W.seq ?_
          refine W.region ?_
          refine WL.vS hS hE (runs_plain rfl) (Gives.p hE rfl) rfl ?_; clear hE a; intro a hE
          refine WL.nil ?_
          refine W.seq ?_
          refine W.condT hE rfl (decide_eq_true (by omega)) ?_
          refine W.skip ?_
          refine W.seq ?_
          refine W.block ?_
          refine W.seq ?_
          refine W.region ?_
          obtain ⟨x253, hx254, hq233⟩ := bindS hq233
          obtain ⟨hi255, hlt256, hy257⟩ := gx_some hx254
          obtain ⟨a258, c259, cs260, hd261, hev262⟩ := h_v1.at hy257
          refine WL.vS hS hE (runs_plain rfl) (Gives.idx hE ((((k235 : Nat) : Int)).toNat) rfl rfl sl25 hi255 (by omega) (hS.nAok 9 rfl (by omega : (((k235 : Nat) : Int)).toNat < y1.length))) rfl ?_; clear hE a; intro a hE
          refine WL.vS hS hE (runs_plain rfl) (Gives.load1 (v := .slice a258 x253.length c259) hE rfl (fun w h => St.nSees h 9 rfl hd261) ty44) rfl ?_; clear hE a; intro a hE
          refine WL.vS hS hE (runs_plain rfl) (Gives.p hE rfl) rfl ?_; clear hE a; intro a hE
          refine WL.nil ?_
          refine W.seq ?_
          refine W.seq ?_
          refine W.region ?_
          refine WL.vS hS hE (runs_plain rfl) (Gives.loadB hE 4 rfl rfl rfl ty32) rfl ?_; clear hE a; intro a hE
          refine WL.vS hS hE (runs_plain rfl) (Gives.p hE rfl) rfl ?_; clear hE a; intro a hE
          refine WL.vS hS hE (runs_plain rfl) (Gives.loadBA hE 5 rfl rfl ty24) rfl ?_; clear hE a; intro a hE
          replace hS := hS.borrowM 9 rfl hd261
          obtain ⟨q264, hq265, hq233⟩ := bindS hq233
          have hF := hS.lendV RI.mono 0 rfl hev262 (rfl); clear hS; obtain ⟨t266, hle267, hS, hs268, bk269⟩ := hF
          have hc_ := Fishref2Code_ok hS (Sl.mono RFleetTask.mono hle267 h_y3_0) hs268 hq265
          refine WL.fnq hE (hc_) (runs_plain rfl) bd83 rfl rfl rfl ?_
          clear hE hS hc_; rintro e w ⟨rfl, hS⟩; refine ⟨_, rfl, ?_⟩; clear a; intro a hE
          replace hS := bk269 _ _ hS
          replace hS := hS.giveBack0 9 rfl hd261
          refine WL.vS hS hE (runs_plain rfl) (Gives.p hE rfl) rfl ?_; clear hE a; intro a hE
          refine WL.nil ?_
          refine W.cond hE rfl (fun hc270 => ?_) (fun hc270 => ?_)
          · replace hq233 := iteT hc270 hq233
            refine W.ret ?_
            subst hK252
            rw [← Option.some.inj hq233] at hr
            dsimp only at hr
            refine finG (fn := Try.f82) (rs := []) (vs := []) hE rfl trivial ?_
            obtain rfl := Option.some.inj hr
            replace hS := hS.tail
            exact ⟨a_v1, c_v1, y1.length, ds_v1, a_y6_0, c_y6_0, s, rfl, (Sg.Le.refl _), h_v1, (rfl), h_y6_0, hS⟩
          · replace hq233 := iteF hc270 hq233
            refine W.skip ?_
            refine W.region ?_
            refine WL.vS hS hE (runs_plain rfl) (Gives.p hE rfl) rfl ?_; clear hE a; intro a hE
            refine WL.vS hS hE (runs_plain rfl) (Gives.p hE rfl) rfl ?_; clear hE a; intro a hE
            replace hS := hS.borrowM 9 rfl hd261
            obtain ⟨q272, hq273, hq233⟩ := bindS hq233
            have hF := hS.lendV RI.mono 0 rfl hev262 (rfl); clear hS; obtain ⟨t280, hle281, hS, hs282, bk283⟩ := hF
            have hc_ := SlicesCloneLint_ok hS hs282 hq273
            refine WL.fnq hE (hc_) (runs_plain rfl) bd41 rfl rfl rfl ?_
            clear hE hS hc_; rintro e w ⟨a274, c275, n276, cs277, rfl, h278, rfl, hS⟩; refine ⟨_, rfl, ?_⟩; clear a; intro a hE
            replace hS := bk283 _ _ hS
            replace h278 := Ev.flat (s2 := s) (fun _ _ _ _ h => h) h278
            replace hS := hS.giveBack0 10 rfl hd261
            refine WL.lit hE hS (e := 44) (es := 1) (vs := [(0, .slice a274 q272.length c275)]) (cs := [.slice a274 q272.length c275]) (runs_plain rfl) rfl (by kernel_rfl) rfl ?_; clear hE hS a w; intro b284 a w hE hS
            obtain ⟨x285, hx286, hq233⟩ := bindS hq233
            replace hS := hS.front 1 rfl
            replace hS := hS.front 1 rfl
            refine WL.appND hE hS 0 rfl (runs_plain rfl) rfl rfl ap25 h250 rfl h278 rfl hx286 rfl ?_; clear hE hS a w; intro a287 c288 ds289 a w h290 hE hS
            refine WL.vS hS hE (runs_plain rfl) (Gives.p hE rfl) rfl ?_; clear hE a; intro a hE
            refine WL.nil ?_
            refine W.region ?_
            refine WL.vS hS hE (runs_plain rfl) (Gives.inc hE rfl (by omega)) rfl ?_; clear hE a; intro a hE
            refine WL.vS hS hE (runs_plain rfl) (Gives.p hE rfl) rfl ?_; clear hE a; intro a hE
            refine WL.nil ?_
            subst hK252
            exact ⟨rest237, Nat.lt_succ_self _, rest237, k235 + 1, x285, a287, c288, x285.length, ds289, rfl, (by omega), hq233, h290, (rfl), hE.pick _ ⟨rfl, rfl, rfl, rfl, rfl, rfl, rfl, rfl, trivial⟩, hS⟩
      · clear hE hS a w; rintro a w ⟨q245, a246, c247, n248, ds249, rfl, h250, rfl, hE, hS⟩
        dsimp only at hr
        refine W.seq ?_
        refine W.region ?_
        refine WL.vS hS hE (runs_plain rfl) (Gives.p hE rfl) rfl ?_; clear hE a; intro a hE
        have hF := hS.calmN RI.mono 0 rfl h250; clear hS; obtain ⟨s291, hle292, hS, h293⟩ := hF
        replace h_y3_0 := Sl.mono RFleetTask.mono hle292 h_y3_0
        replace h_y6_0 := Sl.mono (RL.mono RI.mono) hle292 h_y6_0
        replace h_v0 := Ev.mono RI.mono hle292 h_v0
        replace h_v1 := NEv.mono RI.mono hle292 h_v1
        obtain ⟨q295, hq296, hr⟩ := bindS hr
        have hc_ := SlicesSortFuncLLint_v1_ok hS h293 rfl hq296
        refine WL.fnq hE (hc_) (runs_plain rfl) bd84 rfl rfl rfl ?_
        clear hE hS hc_; rintro e w ⟨cs297, rfl, h298, hn299, hS⟩; refine ⟨_, rfl, ?_⟩; clear a; intro a hE
        refine WL.nil ?_
        refine W.seq ?_
        obtain ⟨q301, hq300, hr⟩ := bindS hr
        refine W.cut (fun a w => ∃ (q304 : Bool), q304 = q301 ∧ Rep a 113 [(6, .pointer (some ⟨pb5, 0, none⟩)), (7, .pointer (some ⟨pb6, 0, none⟩)), (10, .slice a246 q245.length c247), (111, .bool q304)] ∧ St w s291 (vecC 44 1 a246 c247 q245.length cs297 :: pt pb0 (.cells #[.slice a_v0 y0.length c_v0] 44 (0, 0)) :: pt pb1 (.cells #[.slice a_v1 y1.length c_v1] 25 (0, 0)) :: pt pb2 (.cells #[.func (.func 82) #[] #[.pointer (some ⟨pb0, 0, none⟩), .pointer (some ⟨pb1, 0, none⟩), .pointer (some ⟨pb2, 0, none⟩), .pointer (some ⟨pb3, 0, none⟩), .pointer (some ⟨pb4, 0, none⟩), .pointer (some ⟨pb5, 0, none⟩), .pointer (some ⟨pb6, 0, none⟩)]] 66 (0, 0)) :: pt pb3 (.cells #[.slice a_y3_0 y3.length c_y3_0] 32 (0, 0)) :: pt pb4 (.cells #[.int .i64 y4.Change, .int .i64 y4.Long, .int .i64 y4.Work, .int .i64 y4.After, .int .i64 y4.Break, .int .i64 y4.Rest, .int .i64 y4.Row] 24 (0, 0)) :: pt pb5 (.cells #[.bool y5] 4 (0, 0)) :: pt pb6 (.cells #[.slice a_y6_0 y6.length c_y6_0] 25 (0, 0)) :: vecC 3 1 a_v0 c_v0 y0.length cs_v0 :: nestC 44 3 1 a_v1 c_v1 y1.length ds_v1 :: R)) ?_ ?_
        · refine W.gen fun K305 hK305 => ?_
          refine W.region ?_
          refine WL.vS hS hE (runs_plain rfl) (Gives.loadB hE 6 rfl rfl rfl ty4) rfl ?_; clear hE a; intro a hE
          refine WL.vS hS hE (runs_plain rfl) (Gives.p hE rfl) rfl ?_; clear hE a; intro a hE
          refine WL.vS hS hE (runs_plain rfl) (Gives.p hE rfl) rfl ?_; clear hE a; intro a hE
          rcases Bool.eq_false_or_eq_true !y5 with hg306 | hg306
          · replace hq300 := iteT hg306 hq300
            refine WL.no hE (runs_not hE rfl rfl rfl (by rw [hg306]; decide)) rfl ?_; clear hE a; intro a hE
            refine WL.no hE (runs_not hE rfl rfl rfl (by rw [hg306]; decide)) rfl ?_; clear hE a; intro a hE
            refine WL.no hE (runs_not hE rfl rfl rfl (by rw [hg306]; decide)) rfl ?_; clear hE a; intro a hE
            refine WL.no hE (runs_not hE rfl rfl rfl (by rw [hg306]; decide)) rfl ?_; clear hE a; intro a hE
            refine WL.no hE (runs_not hE rfl rfl rfl (by rw [hg306]; decide)) rfl ?_; clear hE a; intro a hE
            refine WL.vS hS hE (runs_plain rfl) (Gives.pickT hE rfl hg306 rfl) rfl ?_; clear hE a; intro a hE
            refine WL.vS hS hE (runs_plain rfl) (Gives.p hE rfl) rfl ?_; clear hE a; intro a hE
            refine WL.no hE (runs_not hE rfl rfl rfl (by decide)) rfl ?_; clear hE a; intro a hE
            refine WL.no hE (runs_not hE rfl rfl rfl (by decide)) rfl ?_; clear hE a; intro a hE
            refine WL.no hE (runs_not hE rfl rfl rfl (by decide)) rfl ?_; clear hE a; intro a hE
            refine WL.no hE (runs_not hE rfl rfl rfl (by decide)) rfl ?_; clear hE a; intro a hE
            refine WL.no hE (runs_not hE rfl rfl rfl (by decide)) rfl ?_; clear hE a; intro a hE
            refine WL.no hE (runs_not hE rfl rfl rfl (by decide)) rfl ?_; clear hE a; intro a hE
            refine WL.no hE (runs_undef hE rfl rfl rfl) rfl ?_; clear hE a; intro a hE
            refine WL.no hE (runs_undef hE rfl rfl rfl) rfl ?_; clear hE a; intro a hE
            refine WL.no hE (runs_undef hE rfl rfl rfl) rfl ?_; clear hE a; intro a hE
            refine WL.no hE (runs_undef hE rfl rfl rfl) rfl ?_; clear hE a; intro a hE
            refine WL.no hE (runs_not hE rfl rfl rfl (by decide)) rfl ?_; clear hE a; intro a hE
            refine WL.vS hS hE (runs_plain rfl) (Gives.pickT hE rfl rfl rfl) rfl ?_; clear hE a; intro a hE
            refine WL.nil ?_
            subst hK305
            exact ⟨true, Option.some.inj hq300, hE.pick _ ⟨rfl, rfl, rfl, rfl, trivial⟩, hS⟩
          · replace hq300 := iteF hg306 hq300
            refine WL.vS hS hE (runs_if hE rfl rfl rfl hg306) (Gives.p hE rfl) rfl ?_; clear hE a; intro a hE
            refine WL.vS hS hE (runs_if hE rfl rfl rfl hg306) (Gives.len hE rfl sl25) rfl ?_; clear hE a; intro a hE
            refine WL.vS hS hE (runs_if hE rfl rfl rfl hg306) (Gives.loadB hE 7 rfl rfl rfl ty25) rfl ?_; clear hE a; intro a hE
            refine WL.vS hS hE (runs_if hE rfl rfl rfl hg306) (Gives.len hE rfl sl25) rfl ?_; clear hE a; intro a hE
            refine WL.vS hS hE (runs_if hE rfl rfl rfl hg306) (Gives.p hE rfl) rfl ?_; clear hE a; intro a hE
            refine WL.vS hS hE (runs_plain rfl) (Gives.pickF hE rfl hg306 rfl) rfl ?_; clear hE a; intro a hE
            refine WL.vS hS hE (runs_plain rfl) (Gives.p hE rfl) rfl ?_; clear hE a; intro a hE
            rcases Bool.eq_false_or_eq_true (decide (((q245.length : Nat) : Int) < ((y6).length : Int))) with hg307 | hg307
            · replace hq300 := iteT hg307 hq300
              refine WL.no hE (runs_not hE rfl rfl rfl (by rw [hg307]; decide)) rfl ?_; clear hE a; intro a hE
              refine WL.no hE (runs_not hE rfl rfl rfl (by rw [hg307]; decide)) rfl ?_; clear hE a; intro a hE
              refine WL.no hE (runs_not hE rfl rfl rfl (by rw [hg307]; decide)) rfl ?_; clear hE a; intro a hE
              refine WL.no hE (runs_not hE rfl rfl rfl (by rw [hg307]; decide)) rfl ?_; clear hE a; intro a hE
              refine WL.no hE (runs_not hE rfl rfl rfl (by rw [hg307]; decide)) rfl ?_; clear hE a; intro a hE
              refine WL.no hE (runs_not hE rfl rfl rfl (by rw [hg307]; decide)) rfl ?_; clear hE a; intro a hE
              refine WL.no hE (runs_undef hE rfl rfl rfl) rfl ?_; clear hE a; intro a hE
              refine WL.no hE (runs_undef hE rfl rfl rfl) rfl ?_; clear hE a; intro a hE
              refine WL.no hE (runs_undef hE rfl rfl rfl) rfl ?_; clear hE a; intro a hE
              refine WL.no hE (runs_undef hE rfl rfl rfl) rfl ?_; clear hE a; intro a hE
              refine WL.no hE (runs_not hE rfl rfl rfl (by rw [hg307]; decide)) rfl ?_; clear hE a; intro a hE
              refine WL.vS hS hE (runs_plain rfl) (Gives.pickT hE rfl hg307 rfl) rfl ?_; clear hE a; intro a hE
              refine WL.nil ?_
              subst hK305
              exact ⟨true, Option.some.inj hq300, hE.pick _ ⟨rfl, rfl, rfl, rfl, trivial⟩, hS⟩
            · replace hq300 := iteF hg307 hq300
              refine WL.vS hS hE (runs_if hE rfl rfl rfl hg307) (Gives.p hE rfl) rfl ?_; clear hE a; intro a hE
              refine WL.vS hS hE (runs_if hE rfl rfl rfl hg307) (Gives.len hE rfl sl25) rfl ?_; clear hE a; intro a hE
              refine WL.vS hS hE (runs_if hE rfl rfl rfl hg307) (Gives.loadB hE 7 rfl rfl rfl ty25) rfl ?_; clear hE a; intro a hE
              refine WL.vS hS hE (runs_if hE rfl rfl rfl hg307) (Gives.len hE rfl sl25) rfl ?_; clear hE a; intro a hE
              refine WL.vS hS hE (runs_if hE rfl rfl rfl hg307) (Gives.p hE rfl) rfl ?_; clear hE a; intro a hE
              refine WL.vS hS hE (runs_if hE rfl rfl rfl hg307) (Gives.p hE rfl) rfl ?_; clear hE a; intro a hE
              rcases Bool.eq_false_or_eq_true (((q245.length : Nat) : Int) == ((y6).length : Int)) with hg308 | hg308
              · replace hq300 := iteT hg308 hq300
                refine WL.vS hS hE (runs_if hE rfl rfl rfl hg308) (Gives.p hE rfl) rfl ?_; clear hE a; intro a hE
                refine WL.vS hS hE (runs_if hE rfl rfl rfl hg308) (Gives.loadB hE 7 rfl rfl rfl ty25) rfl ?_; clear hE a; intro a hE
                obtain ⟨q309, hq310, hq300⟩ := bindS hq300
                have hF := hS.lendV (RL.mono RI.mono) 0 rfl h298 hn299; clear hS; obtain ⟨t311, hle312, hS, hs313, bk314⟩ := hF
                have hc_ := (by have hc_ := SlicesCompareFuncLLint_v1_ok hS hs313 (Sl.mono (RL.mono RI.mono) hle312 h_y6_0) hq310; rw [hn299] at hc_; exact hc_)
                refine WL.fnq hE (hc_) (runs_if hE rfl rfl rfl hg308) bd86 rfl rfl rfl ?_
                clear hE hS hc_; rintro e w ⟨rfl, hS⟩; refine ⟨_, rfl, ?_⟩; clear a; intro a hE
                replace hS := bk314 _ _ hS
                refine WL.vS hS hE (runs_if hE rfl rfl rfl hg308) (Gives.p hE rfl) rfl ?_; clear hE a; intro a hE
                refine WL.vS hS hE (runs_if hE rfl rfl rfl hg307) (Gives.pickT hE rfl hg308 rfl) rfl ?_; clear hE a; intro a hE
                refine WL.vS hS hE (runs_plain rfl) (Gives.pickF hE rfl hg307 rfl) rfl ?_; clear hE a; intro a hE
                refine WL.nil ?_
                subst hK305
                exact ⟨decide (q309 < 0), Option.some.inj hq300, hE.pick _ ⟨rfl, rfl, rfl, rfl, trivial⟩, hS⟩
              · replace hq300 := iteF hg308 hq300
                refine WL.no hE (runs_not hE rfl rfl rfl (by rw [hg308]; decide)) rfl ?_; clear hE a; intro a hE
                refine WL.no hE (runs_not hE rfl rfl rfl (by rw [hg308]; decide)) rfl ?_; clear hE a; intro a hE
                refine WL.no hE (runs_not hE rfl rfl rfl (by rw [hg308]; decide)) rfl ?_; clear hE a; intro a hE
                refine WL.no hE (runs_not hE rfl rfl rfl (by rw [hg308]; decide)) rfl ?_; clear hE a; intro a hE
                refine WL.vS hS hE (runs_if hE rfl rfl rfl hg307) (Gives.pickF hE rfl hg308 rfl) rfl ?_; clear hE a; intro a hE
                refine WL.vS hS hE (runs_plain rfl) (Gives.pickF hE rfl hg307 rfl) rfl ?_; clear hE a; intro a hE
                refine WL.nil ?_
                subst hK305
                exact ⟨false, Option.some.inj hq300, hE.pick _ ⟨rfl, rfl, rfl, rfl, trivial⟩, hS⟩
        · clear hE hS a w; rintro a w ⟨q304, rfl, hE, hS⟩
          obtain ⟨q316, hq315, hr⟩ := bndS hr
          refine W.cut (fun a w => ∃ (q319 : Bool), ∃ (q320 : List (List Int)), ∃ (a321 : Option Addr), ∃ (c322 : Nat), ∃ (s317 : Sg), s291.Le s317 ∧ (q319, q320) = q316 ∧ Sl 1 (RL 1 (RI .i64)) s317 a321 c322 q320 ∧ Rep a 113 [] ∧ St w s317 (pt pb0 (.cells #[.slice a_v0 y0.length c_v0] 44 (0, 0)) :: pt pb1 (.cells #[.slice a_v1 y1.length c_v1] 25 (0, 0)) :: pt pb2 (.cells #[.func (.func 82) #[] #[.pointer (some ⟨pb0, 0, none⟩), .pointer (some ⟨pb1, 0, none⟩), .pointer (some ⟨pb2, 0, none⟩), .pointer (some ⟨pb3, 0, none⟩), .pointer (some ⟨pb4, 0, none⟩), .pointer (some ⟨pb5, 0, none⟩), .pointer (some ⟨pb6, 0, none⟩)]] 66 (0, 0)) :: pt pb3 (.cells #[.slice a_y3_0 y3.length c_y3_0] 32 (0, 0)) :: pt pb4 (.cells #[.int .i64 y4.Change, .int .i64 y4.Long, .int .i64 y4.Work, .int .i64 y4.After, .int .i64 y4.Break, .int .i64 y4.Rest, .int .i64 y4.Row] 24 (0, 0)) :: pt pb5 (.cells #[.bool q319] 4 (0, 0)) :: pt pb6 (.cells #[.slice a321 q320.length c322] 25 (0, 0)) :: vecC 3 1 a_v0 c_v0 y0.length cs_v0 :: nestC 44 3 1 a_v1 c_v1 y1.length ds_v1 :: R)) ?_ ?_
          · refine W.gen fun K324 hK324 => ?_
            refine W.cond hE rfl (fun hc325 => ?_) (fun hc325 => ?_)
            · replace hq315 := iteT hc325 hq315
              refine W.region ?_
              refine WL.vS hS hE (runs_plain rfl) (Gives.p hE rfl) rfl ?_; clear hE a; intro a hE
              refine WL.storeI hE hS 7 rfl [.slice a246 q245.length c247] (runs_plain rfl) rfl rfl rfl ty25 rfl rfl rfl rfl ?_; clear hE hS a w; intro a w hE hS
              refine WL.storeI hE hS 6 rfl [.bool true] (runs_plain rfl) rfl rfl rfl ty4 rfl rfl rfl rfl ?_; clear hE hS a w; intro a w hE hS
              refine WL.nil ?_
              have hF := hS.fixD (RL.mono RI.mono) 0 rfl h298 hn299; clear hS; obtain ⟨s326, hle327, hS, h328⟩ := hF
              (try rw [← hn299] at hE)
              (try rw [← hn299] at hS)
              replace h_y3_0 := Sl.mono RFleetTask.mono hle327 h_y3_0
              replace h_v0 := Ev.mono RI.mono hle327 h_v0
              replace h_v1 := NEv.mono RI.mono hle327 h_v1
              subst hK324
              exact ⟨true, q295, a246, c247, s326, hle327, hq315, h328, hE.pick _ trivial, hS⟩
            · replace hq315 := iteF hc325 hq315
              refine W.skip ?_
              replace hS := hS.tail
              subst hK324
              exact ⟨y5, y6, a_y6_0, c_y6_0, s291, (Sg.Le.refl _), hq315, h_y6_0, hE.pick _ trivial, hS⟩
          · clear hE hS a w; rintro a w ⟨q319, q320, a321, c322, s317, hle318, rfl, h323, hE, hS⟩
            dsimp only at hr
            replace h_y3_0 := Sl.mono RFleetTask.mono hle318 h_y3_0
            replace h_y6_0 := Sl.mono (RL.mono RI.mono) hle318 h_y6_0
            replace h_v0 := Ev.mono RI.mono hle318 h_v0
            replace h_v1 := NEv.mono RI.mono hle318 h_v1
            refine finG (fn := Try.f82) (rs := []) (vs := []) hE rfl trivial ?_
            obtain rfl := Option.some.inj hr
            exact ⟨a_v1, c_v1, y1.length, ds_v1, a321, c322, s317, rfl, (Sg.Le.trans hle292 hle318), h_v1, (rfl), h323, hS⟩
set_option maxHeartbeats 8000000 in
theorem Fishref2DutiesOf_ok {fu : Nat}  {w : World} {s : Sg} {R : List HP} {x0 : List FleetTask} {a0 : Option Addr} {c0 : Nat} {x1 : FleetLimits} (hS : St w s (R)) (h0 : Sl 6 RFleetTask s a0 c0 x0) {r : (List (List Int)) × Int} (hr : Fishref2DutiesOf fu x0 x1 = some r) :
    Calls Try.prog 32 [.slice a0 x0.length c0, .agg (FleetLimits.cells x1).toArray].toArray w (fun e w => ∃ (a0 : Option Addr) (c0 : Nat) (t : Sg), e = .returned (.tuple #[.slice a0 r.1.length c0, .int .i64 r.2]) ∧ s.Le t ∧ Sl 1 (RL 1 (RI .i64)) t a0 c0 r.1 ∧ St w t (R)) := by
  refine enter Try.func32 rfl rfl rfl fun a hE => ?_
  rw [Fishref2DutiesOf] at hr
  refine W.seq ?_
  refine W.region ?_
  refine WL.box hE hS (runs_plain rfl) rfl rfl rfl ?_; clear hE hS a w; intro b51 a w hE hS
  refine WL.box hE hS (runs_plain rfl) rfl rfl rfl ?_; clear hE hS a w; intro b52 a w hE hS
  refine WL.vS hS hE (runs_plain rfl) (Gives.p hE rfl) rfl ?_; clear hE a; intro a hE
  refine WL.vS hS hE (runs_plain rfl) (Gives.p hE rfl) rfl ?_; clear hE a; intro a hE
  refine WL.nil ?_
  refine W.seq ?_
  refine W.seq ?_
  refine W.region ?_
  refine WL.vS hS hE (runs_plain rfl) (Gives.loadB hE 1 rfl rfl rfl ty32) rfl ?_; clear hE a; intro a hE
  refine WL.vS hS hE (runs_plain rfl) (Gives.loadBA hE 0 rfl rfl ty24) rfl ?_; clear hE a; intro a hE
  refine WL.fnq hE (Fishref2DutiesFault_ok hS h0 rfl (r := Fishref2DutiesFault x0 x1)) (runs_plain rfl) bd81 rfl rfl rfl ?_
  clear hE hS; rintro e w ⟨rfl, hS⟩; refine ⟨_, rfl, ?_⟩; clear a; intro a hE
  refine WL.vS hS hE (runs_plain rfl) (Gives.p hE rfl) rfl ?_; clear hE a; intro a hE
  refine WL.nil ?_
  refine W.seq ?_
  refine W.region ?_
  refine WL.vS hS hE (runs_plain rfl) (Gives.p hE rfl) rfl ?_; clear hE a; intro a hE
  refine WL.vS hS hE (runs_plain rfl) (Gives.p hE rfl) rfl ?_; clear hE a; intro a hE
  refine WL.nil ?_
  refine W.cond hE rfl (fun hc53 => ?_) (fun hc53 => ?_)
  · replace hr := iteT hc53 hr
    refine W.seq ?_
    refine W.region ?_
    refine WL.vS hS hE (runs_plain rfl) (Gives.p hE rfl) rfl ?_; clear hE a; intro a hE
    refine WL.vS hS hE (runs_plain rfl) (Gives.p hE rfl) rfl ?_; clear hE a; intro a hE
    refine WL.vS hS hE (runs_plain rfl) (Gives.p hE rfl) rfl ?_; clear hE a; intro a hE
    refine WL.nil ?_
    refine W.ret ?_
    refine finG (fn := Try.f32) (rs := [.tmp 4, .tmp 5]) (vs := [_, _]) hE rfl ⟨rfl, rfl, trivial⟩ ?_
    obtain rfl := Option.some.inj hr
    replace hS := hS.tail
    replace hS := hS.tail
    exact ⟨none, 0, s, rfl, (Sg.Le.refl _), Sl.nil, hS⟩
  · replace hr := iteF hc53 hr
    refine W.skip ?_
    refine W.seq ?_
    refine W.region ?_
    refine WL.vS hS hE (runs_plain rfl) (Gives.loadB hE 1 rfl rfl rfl ty32) rfl ?_; clear hE a; intro a hE
    obtain ⟨q54, hq55, hr⟩ := bindS hr
    have hc_ := Fishref2inOrder_ok hS h0 hq55
    refine WL.fnq hE (hc_) (runs_plain rfl) bd65 rfl rfl rfl ?_
    clear hE hS hc_; rintro e w ⟨a56, c57, n58, cs59, rfl, h60, rfl, hS⟩; refine ⟨_, rfl, ?_⟩; clear a; intro a hE
    refine WL.alloc hE hS (runs_plain rfl) zr44 rfl ?_; clear hE hS a w; intro b62 a w hE hS
    refine WL.storeI hE hS 0 rfl [.slice a56 q54.length c57] (runs_plain rfl) rfl rfl rfl ty44 rfl rfl rfl rfl ?_; clear hE hS a w; intro a w hE hS
    refine WL.nil ?_
    refine W.seq ?_
    refine W.region ?_
    refine WL.alloc hE hS (runs_plain rfl) zr25 rfl ?_; clear hE hS a w; intro b63 a w hE hS
    refine WL.nil ?_
    refine W.seq ?_
    refine W.region ?_
    refine WL.alloc hE hS (runs_plain rfl) zr4 rfl ?_; clear hE hS a w; intro b64 a w hE hS
    refine WL.storeI hE hS 0 rfl [.bool false] (runs_plain rfl) rfl rfl rfl ty4 rfl rfl rfl rfl ?_; clear hE hS a w; intro a w hE hS
    refine WL.nil ?_
    refine W.seq ?_
    refine W.region ?_
    refine WL.alloc hE hS (runs_plain rfl) zr25 rfl ?_; clear hE hS a w; intro b65 a w hE hS
    refine WL.nil ?_
    refine W.seq ?_
    refine W.region ?_
    refine WL.alloc hE hS (runs_plain rfl) zr66 rfl ?_; clear hE hS a w; intro b66 a w hE hS
    refine WL.nil ?_
    refine W.seq ?_
    refine W.region ?_
    replace hS := hS.nestNil 44 3 1
    refine WL.vS hS hE (runs_plain rfl) (Gives.mkfn hE (vs := [.pointer (some ⟨b62, 0, none⟩), .pointer (some ⟨b65, 0, none⟩), .pointer (some ⟨b66, 0, none⟩), .pointer (some ⟨b51, 0, none⟩), .pointer (some ⟨b52, 0, none⟩), .pointer (some ⟨b64, 0, none⟩), .pointer (some ⟨b63, 0, none⟩)]) rfl) rfl ?_; clear hE a; intro a hE
    refine WL.storeI hE hS 1 rfl [.func (.func 82) #[] #[.pointer (some ⟨b62, 0, none⟩), .pointer (some ⟨b65, 0, none⟩), .pointer (some ⟨b66, 0, none⟩), .pointer (some ⟨b51, 0, none⟩), .pointer (some ⟨b52, 0, none⟩), .pointer (some ⟨b64, 0, none⟩), .pointer (some ⟨b63, 0, none⟩)]] (runs_plain rfl) rfl rfl rfl ty66 rfl rfl rfl rfl ?_; clear hE hS a w; intro a w hE hS
    refine WL.nil ?_
    refine W.seq ?_
    refine W.region ?_
    refine WL.vS hS hE (runs_plain rfl) (Gives.loadB hE 1 rfl rfl rfl ty66) rfl ?_; clear hE a; intro a hE
    obtain ⟨q68, hq69, hr⟩ := bindS hr
    replace hS := hS.front 0 rfl
    replace hS := hS.front 6 rfl
    replace hS := hS.front 5 rfl
    replace hS := hS.front 5 rfl
    replace hS := hS.front 7 rfl
    replace hS := hS.front 8 rfl
    replace hS := hS.front 6 rfl
    replace hS := hS.front 7 rfl
    replace hS := hS.front 8 rfl
    have hc_ := Fishref2DutiesOf_1_v1_ok (y4 := x1) hS h60 rfl (NEv.nil) (rfl) h0 Sl.nil hq69
    refine WL.fnw hE (hc_) rfl (runs_plain rfl) bd82 rfl rfl rfl ?_
    clear hE hS hc_; rintro e w ⟨a70, c71, n72, ds73, a75, c76, s78, rfl, hle79, h74, rfl, h77, hS⟩; refine ⟨_, rfl, ?_⟩; clear a; intro a hE
    replace h0 := Sl.mono RFleetTask.mono hle79 h0
    replace h60 := Ev.mono RI.mono hle79 h60
    refine WL.nil ?_
    refine W.seq ?_
    refine W.seq ?_
    refine W.region ?_
    refine WL.vS hS hE (runs_plain rfl) (Gives.loadB hE 5 rfl rfl rfl ty4) rfl ?_; clear hE a; intro a hE
    refine WL.vS hS hE (runs_plain rfl) (Gives.p hE rfl) rfl ?_; clear hE a; intro a hE
    refine WL.nil ?_
    refine W.cond hE rfl (fun hc80 => ?_) (fun hc80 => ?_)
    · replace hr := iteT hc80 hr
      refine W.seq ?_
      refine W.region ?_
      refine WL.vS hS hE (runs_plain rfl) (Gives.p hE rfl) rfl ?_; clear hE a; intro a hE
      refine WL.vS hS hE (runs_plain rfl) (Gives.p hE rfl) rfl ?_; clear hE a; intro a hE
      refine WL.nil ?_
      refine W.ret ?_
      refine finG (fn := Try.f32) (rs := [.tmp 4, .tmp 5]) (vs := [_, _]) hE rfl ⟨rfl, rfl, trivial⟩ ?_
      obtain rfl := Option.some.inj hr
      replace hS := hS.tail
      replace hS := hS.tail
      replace hS := hS.tail
      replace hS := hS.tail
      replace hS := hS.tail
      replace hS := hS.tail
      replace hS := hS.tail
      replace hS := hS.tail
      replace hS := hS.tail
      exact ⟨none, 0, s78, rfl, hle79, Sl.nil, hS⟩
    · replace hr := iteF hc80 hr
      refine W.skip ?_
      refine W.seq ?_
      refine W.region ?_
      refine WL.vS hS hE (runs_plain rfl) (Gives.loadB hE 6 rfl rfl rfl ty25) rfl ?_; clear hE a; intro a hE
      refine WL.vS hS hE (runs_plain rfl) (Gives.p hE rfl) rfl ?_; clear hE a; intro a hE
      refine WL.vS hS hE (runs_plain rfl) (Gives.p hE rfl) rfl ?_; clear hE a; intro a hE
      refine WL.nil ?_
      refine W.ret ?_
      refine finG (fn := Try.f32) (rs := [.tmp 4, .tmp 5]) (vs := [_, _]) hE rfl ⟨rfl, rfl, trivial⟩ ?_
      obtain rfl := Option.some.inj hr
      replace hS := hS.tail
      replace hS := hS.tail
      replace hS := hS.tail
      replace hS := hS.tail
      replace hS := hS.tail
      replace hS := hS.tail
      replace hS := hS.tail
      replace hS := hS.tail
      replace hS := hS.tail
      exact ⟨a75, c76, s78, rfl, hle79, h77, hS⟩
set_option maxHeartbeats 8000000 in
theorem SlicesIndexLint_ok  {w : World} {s : Sg} {R : List HP} {x0 : List Int} {a0 : Option Addr} {c0 : Nat} {x1 : Int} (hS : St w s (R)) (h0 : Sl 1 (RI .i64) s a0 c0 x0) {r : Int} (hr : SlicesIndexLint x0 x1 = r) :
    Calls Try.prog 71 [.slice a0 x0.length c0, .int .i64 x1].toArray w (fun e w => e = .returned (.int .i64 r) ∧ St w s (R)) := by
  refine enter Try.func71 rfl rfl rfl fun a hE => ?_
  rw [SlicesIndexLint] at hr
  refine W.seq ?_
  refine W.region ?_
  refine WL.vS hS hE (runs_plain rfl) (Gives.p hE rfl) rfl ?_; clear hE a; intro a hE
  refine WL.nil ?_
  refine W.seq ?_
  refine W.seq ?_
  refine W.region ?_
  refine WL.vS hS hE (runs_plain rfl) (Gives.p hE rfl) rfl ?_; clear hE a; intro a hE
  refine WL.vS hS hE (runs_plain rfl) (Gives.len hE rfl sl44) rfl ?_; clear hE a; intro a hE
  refine WL.vS hS hE (runs_plain rfl) (Gives.p hE rfl) rfl ?_; clear hE a; intro a hE
  refine WL.nil ?_
  obtain ⟨q52, hq51, hr⟩ := bndS hr
  refine W.cut (fun a w => (.next ()) = q52 ∧ Rep a 19 [] ∧ St w s (R)) ?_ ?_
  · refine W.block ?_
    refine W.loop (fun m a w => ∃ (rest55 : List Int) (k53 : Nat), rest55.length = m ∧ x0.drop k53 = rest55 ∧ SlicesIndexLint.loop1 x1 rest55 k53 = q52 ∧ Rep a 19 [(0, .slice a0 x0.length c0), (1, .int .i64 x1), (7, .int .i64 ((x0).length : Int)), (8, .int .i64 ((k53 : Nat) : Int))] ∧ St w s (R)) (m := x0.length) ⟨x0, 0, rfl, rfl, hq51, hE.pick _ ⟨rfl, rfl, rfl, rfl, trivial⟩, hS⟩ ?_
    clear hE hS a w hq51; rintro m59 a w ⟨rest55, k53, rfl, hd56, hq51, hE, hS⟩
    refine W.gen fun K62 hK62 => ?_
    rcases rest55 with _ | ⟨x54, rest55⟩
    · have hlt57 := drop_nil hd56
      refine W.seq ?_
      refine W.region ?_
      refine WL.vS hS hE (runs_plain rfl) (Gives.p hE rfl) rfl ?_; clear hE a; intro a hE
      refine WL.nil ?_
      refine W.seq ?_
      refine W.condF hE rfl (decide_eq_false (by omega)) ?_
      subst hK62
      refine W.exit rfl ?_
      exact ⟨hq51, hE.pick _ trivial, hS⟩
    · obtain ⟨hlt57, hx58, hd56⟩ := drop_cons hd56
      rw [SlicesIndexLint.loop1] at hq51
      refine W.seq ?_
      refine W.region ?_
      refine WL.vS hS hE (runs_plain rfl) (Gives.p hE rfl) rfl ?_; clear hE a; intro a hE
      refine WL.nil ?_
      refine W.seq ?_
      refine W.condT hE rfl (decide_eq_true (by omega)) ?_
      refine W.skip ?_
      refine W.seq ?_
      refine W.block ?_
      refine W.seq ?_
      refine W.region ?_
      refine WL.vS hS hE (runs_plain rfl) (Gives.p hE rfl) rfl ?_; clear hE a; intro a hE
      refine WL.vS hS hE (runs_plain rfl) (Gives.p hE rfl) rfl ?_; clear hE a; intro a hE
      refine WL.nil ?_
      refine W.seq ?_
      refine W.region ?_
      refine WL.vS hS hE (runs_plain rfl) (Gives.p hE rfl) rfl ?_; clear hE a; intro a hE
      refine WL.vS hS hE (runs_plain rfl) (Gives.p hE rfl) rfl ?_; clear hE a; intro a hE
      refine WL.vS hS hE (runs_plain rfl) (Gives.p hE rfl) rfl ?_; clear hE a; intro a hE
      obtain ⟨cs63, hl64, hR65, hat66⟩ := h0.at hx58
      subst hR65
      refine WL.vS hS hE (runs_plain rfl) (Gives.idx hE k53 rfl rfl sl44 rfl hlt57 (h0.aok hlt57)) rfl ?_; clear hE a; intro a hE
      refine WL.vS hS hE (runs_plain rfl) (Gives.load1 hE rfl (fun w h => hat66 w _ h) ty3) rfl ?_; clear hE a; intro a hE
      refine WL.vS hS hE (runs_plain rfl) (Gives.p hE rfl) rfl ?_; clear hE a; intro a hE
      refine WL.nil ?_
      refine W.cond hE rfl (fun hc67 => ?_) (fun hc67 => ?_)
      · replace hq51 := iteT hc67 hq51
        refine W.seq ?_
        refine W.region ?_
        refine WL.vS hS hE (runs_plain rfl) (Gives.p hE rfl) rfl ?_; clear hE a; intro a hE
        refine WL.vS hS hE (runs_plain rfl) (Gives.p hE rfl) rfl ?_; clear hE a; intro a hE
        refine WL.nil ?_
        refine W.ret ?_
        subst hK62
        rw [← hq51] at hr
        dsimp only at hr
        refine finG (fn := Try.f71) (rs := [.tmp 4]) (vs := [_]) hE rfl ⟨rfl, trivial⟩ ?_
        subst hr
        exact ⟨rfl, hS⟩
      · replace hq51 := iteF hc67 hq51
        refine W.skip ?_
        refine W.region ?_
        refine WL.vS hS hE (runs_plain rfl) (Gives.inc hE rfl (by have := h0.small; omega)) rfl ?_; clear hE a; intro a hE
        refine WL.vS hS hE (runs_plain rfl) (Gives.p hE rfl) rfl ?_; clear hE a; intro a hE
        refine WL.nil ?_
        subst hK62
        exact ⟨rest55.length, Nat.lt_succ_self _, rest55, k53 + 1, rfl, hd56, hq51, hE.pick _ ⟨rfl, rfl, rfl, rfl, trivial⟩, hS⟩
  · clear hE hS a w; rintro a w ⟨rfl, hE, hS⟩
    dsimp only at hr
    refine W.seq ?_
    refine W.region ?_
    refine WL.vS hS hE (runs_plain rfl) (Gives.p hE rfl) rfl ?_; clear hE a; intro a hE
    refine WL.nil ?_
    refine W.ret ?_
    refine finG (fn := Try.f71) (rs := [.tmp 4]) (vs := [_]) hE rfl ⟨rfl, trivial⟩ ?_
    subst hr
    exact ⟨rfl, hS⟩
set_option maxHeartbeats 8000000 in
theorem SlicesContainsLint_ok  {w : World} {s : Sg} {R : List HP} {x0 : List Int} {a0 : Option Addr} {c0 : Nat} {x1 : Int} (hS : St w s (R)) (h0 : Sl 1 (RI .i64) s a0 c0 x0) {r : Bool} (hr : SlicesContainsLint x0 x1 = r) :
    Calls Try.prog 24 [.slice a0 x0.length c0, .int .i64 x1].toArray w (fun e w => e = .returned (.bool r) ∧ St w s (R)) := by
  refine enter Try.func24 rfl rfl rfl fun a hE => ?_
  rw [SlicesContainsLint] at hr
  refine W.seq ?_
  refine W.region ?_
  refine WL.vS hS hE (runs_plain rfl) (Gives.p hE rfl) rfl ?_; clear hE a; intro a hE
  refine WL.nil ?_
  refine W.seq ?_
  refine W.region ?_
  refine WL.vS hS hE (runs_plain rfl) (Gives.p hE rfl) rfl ?_; clear hE a; intro a hE
  refine WL.vS hS hE (runs_plain rfl) (Gives.p hE rfl) rfl ?_; clear hE a; intro a hE
  refine WL.fnq hE (SlicesIndexLint_ok hS h0 rfl (r := SlicesIndexLint x0 x1)) (runs_plain rfl) bd71 rfl rfl rfl ?_
  clear hE hS; rintro e w ⟨rfl, hS⟩; refine ⟨_, rfl, ?_⟩; clear a; intro a hE
  refine WL.vS hS hE (runs_plain rfl) (Gives.p hE rfl) rfl ?_; clear hE a; intro a hE
  refine WL.vS hS hE (runs_plain rfl) (Gives.p hE rfl) rfl ?_; clear hE a; intro a hE
  refine WL.nil ?_
  refine W.ret ?_
  refine finG (fn := Try.f24) (rs := [.tmp 4]) (vs := [_]) hE rfl ⟨rfl, trivial⟩ ?_
  subst hr
  exact ⟨rfl, hS⟩
set_option maxHeartbeats 8000000 in
theorem FleetJudge_ok  {w : World} {s : Sg} {R : List HP} {x0 : List FleetTask} {a0 : Option Addr} {c0 : Nat} {x1 : List Int} {a1 : Option Addr} {c1 : Nat} {x2 : FleetLimits} (hS : St w s (R)) (h0 : Sl 6 RFleetTask s a0 c0 x0) (h1 : Sl 1 (RI .i64) s a1 c1 x1) {r : Int × Int} (hr : FleetJudge x0 x1 x2 = some r) :
    Calls Try.prog 52 [.slice a0 x0.length c0, .slice a1 x1.length c1, .agg (FleetLimits.cells x2).toArray].toArray w (fun e w => e = .returned (.tuple #[.int .i64 r.1, .int .i64 r.2]) ∧ St w s (R)) := by
  refine enter Try.func52 rfl rfl rfl fun a hE => ?_
  rw [FleetJudge] at hr
  refine W.seq ?_
  refine W.region ?_
  refine WL.box hE hS (runs_plain rfl) rfl rfl rfl ?_; clear hE hS a w; intro b51 a w hE hS
  refine WL.vS hS hE (runs_plain rfl) (Gives.p hE rfl) rfl ?_; clear hE a; intro a hE
  refine WL.vS hS hE (runs_plain rfl) (Gives.p hE rfl) rfl ?_; clear hE a; intro a hE
  refine WL.nil ?_
  refine W.seq ?_
  refine W.seq ?_
  refine W.region ?_
  refine WL.vS hS hE (runs_plain rfl) (Gives.p hE rfl) rfl ?_; clear hE a; intro a hE
  refine WL.vS hS hE (runs_plain rfl) (Gives.loadBA hE 0 rfl rfl ty24) rfl ?_; clear hE a; intro a hE
  refine WL.fnq hE (FleetcheckTasks_ok hS h0 rfl (r := FleetcheckTasks x0 x2)) (runs_plain rfl) bd79 rfl rfl rfl ?_
  clear hE hS; rintro e w ⟨rfl, hS⟩; refine ⟨_, rfl, ?_⟩; clear a; intro a hE
  refine WL.vS hS hE (runs_plain rfl) (Gives.p hE rfl) rfl ?_; clear hE a; intro a hE
  refine WL.nil ?_
  refine W.seq ?_
  refine W.region ?_
  refine WL.vS hS hE (runs_plain rfl) (Gives.p hE rfl) rfl ?_; clear hE a; intro a hE
  refine WL.vS hS hE (runs_plain rfl) (Gives.p hE rfl) rfl ?_; clear hE a; intro a hE
  refine WL.nil ?_
  refine W.cond hE rfl (fun hc52 => ?_) (fun hc52 => ?_)
  · replace hr := iteT hc52 hr
    refine W.seq ?_
    refine W.region ?_
    refine WL.vS hS hE (runs_plain rfl) (Gives.p hE rfl) rfl ?_; clear hE a; intro a hE
    refine WL.vS hS hE (runs_plain rfl) (Gives.p hE rfl) rfl ?_; clear hE a; intro a hE
    refine WL.vS hS hE (runs_plain rfl) (Gives.p hE rfl) rfl ?_; clear hE a; intro a hE
    refine WL.nil ?_
    refine W.ret ?_
    refine finG (fn := Try.f52) (rs := [.tmp 6, .tmp 7]) (vs := [_, _]) hE rfl ⟨rfl, rfl, trivial⟩ ?_
    obtain rfl := Option.some.inj hr
    replace hS := hS.tail
    exact ⟨rfl, hS⟩
  · replace hr := iteF hc52 hr
    refine W.skip ?_
    refine W.seq ?_
    refine W.seq ?_
    refine W.region ?_
    refine WL.vS hS hE (runs_plain rfl) (Gives.p hE rfl) rfl ?_; clear hE a; intro a hE
    refine WL.vS hS hE (runs_plain rfl) (Gives.len hE rfl sl44) rfl ?_; clear hE a; intro a hE
    refine WL.vS hS hE (runs_plain rfl) (Gives.p hE rfl) rfl ?_; clear hE a; intro a hE
    refine WL.nil ?_
    refine W.cond hE rfl (fun hc53 => ?_) (fun hc53 => ?_)
    · replace hr := iteT hc53 hr
      refine W.seq ?_
      refine W.region ?_
      refine WL.vS hS hE (runs_plain rfl) (Gives.p hE rfl) rfl ?_; clear hE a; intro a hE
      refine WL.vS hS hE (runs_plain rfl) (Gives.p hE rfl) rfl ?_; clear hE a; intro a hE
      refine WL.nil ?_
      refine W.ret ?_
      refine finG (fn := Try.f52) (rs := [.tmp 6, .tmp 7]) (vs := [_, _]) hE rfl ⟨rfl, rfl, trivial⟩ ?_
      obtain rfl := Option.some.inj hr
      replace hS := hS.tail
      exact ⟨rfl, hS⟩
    · replace hr := iteF hc53 hr
      refine W.skip ?_
      refine W.seq ?_
      refine W.seq ?_
      refine W.region ?_
      refine WL.vS hS hE (runs_plain rfl) (Gives.p hE rfl) rfl ?_; clear hE a; intro a hE
      refine WL.vS hS hE (runs_plain rfl) (Gives.len hE rfl sl44) rfl ?_; clear hE a; intro a hE
      refine WL.vS hS hE (runs_plain rfl) (Gives.p hE rfl) rfl ?_; clear hE a; intro a hE
      refine WL.nil ?_
      obtain ⟨q55, hq54, hr⟩ := bindS hr
      refine W.cut (fun a w => (.next ()) = q55 ∧ Rep a 45 [(0, .slice a0 x0.length c0), (1, .slice a1 x1.length c1), (5, .pointer (some ⟨b51, 0, none⟩))] ∧ St w s (pt b51 (.cells (FleetLimits.cells x2).toArray 24 (0, 0)) :: R)) ?_ ?_
      · refine W.block ?_
        refine W.loop (fun m a w => ∃ (rest58 : List Int) (k56 : Nat), rest58.length = m ∧ x1.drop k56 = rest58 ∧ FleetJudge.loop1 x0 x1 rest58 k56 = some q55 ∧ Rep a 45 [(0, .slice a0 x0.length c0), (1, .slice a1 x1.length c1), (5, .pointer (some ⟨b51, 0, none⟩)), (20, .slice a1 x1.length c1), (21, .int .i64 ((x1).length : Int)), (22, .int .i64 ((k56 : Nat) : Int))] ∧ St w s (pt b51 (.cells (FleetLimits.cells x2).toArray 24 (0, 0)) :: R)) (m := x1.length) ⟨x1, 0, rfl, rfl, hq54, hE.pick _ ⟨rfl, rfl, rfl, rfl, rfl, rfl, trivial⟩, hS⟩ ?_
        clear hE hS a w hq54; rintro m62 a w ⟨rest58, k56, rfl, hd59, hq54, hE, hS⟩
        refine W.gen fun K65 hK65 => ?_
        rcases rest58 with _ | ⟨x57, rest58⟩
        · have hlt60 := drop_nil hd59
          refine W.seq ?_
          refine W.region ?_
          refine WL.vS hS hE (runs_plain rfl) (Gives.p hE rfl) rfl ?_; clear hE a; intro a hE
          refine WL.nil ?_
          refine W.seq ?_
          refine W.condF hE rfl (decide_eq_false (by omega)) ?_
          subst hK65
          refine W.exit rfl ?_
          exact ⟨Option.some.inj hq54, hE.pick _ ⟨rfl, rfl, rfl, trivial⟩, hS⟩
        · obtain ⟨hlt60, hx61, hd59⟩ := drop_cons hd59
          rw [FleetJudge.loop1] at hq54
          refine W.seq ?_
          refine W.region ?_
          refine WL.vS hS hE (runs_plain rfl) (Gives.p hE rfl) rfl ?_; clear hE a; intro a hE
          refine WL.nil ?_
          refine W.seq ?_
          refine W.condT hE rfl (decide_eq_true (by omega)) ?_
          refine W.skip ?_
          refine W.seq ?_
          refine W.block ?_
          refine W.seq ?_
          refine W.region ?_
          refine WL.vS hS hE (runs_plain rfl) (Gives.p hE rfl) rfl ?_; clear hE a; intro a hE
          obtain ⟨cs66, hl67, hR68, hat69⟩ := h1.at hx61
          subst hR68
          refine WL.vS hS hE (runs_plain rfl) (Gives.idx hE k56 rfl rfl sl44 rfl hlt60 (h1.aok hlt60)) rfl ?_; clear hE a; intro a hE
          refine WL.vS hS hE (runs_plain rfl) (Gives.load1 hE rfl (fun w h => hat69 w _ h) ty3) rfl ?_; clear hE a; intro a hE
          refine WL.vS hS hE (runs_plain rfl) (Gives.p hE rfl) rfl ?_; clear hE a; intro a hE
          refine WL.vS hS hE (runs_plain rfl) (Gives.p hE rfl) rfl ?_; clear hE a; intro a hE
          refine WL.nil ?_
          refine W.block ?_
          refine W.seq ?_
          refine W.region ?_
          refine WL.vS hS hE (runs_plain rfl) (Gives.p hE rfl) rfl ?_; clear hE a; intro a hE
          refine WL.vS hS hE (runs_plain rfl) (Gives.p hE rfl) rfl ?_; clear hE a; intro a hE
          refine WL.vS hS hE (runs_plain rfl) (Gives.len hE rfl sl32) rfl ?_; clear hE a; intro a hE
          refine WL.vS hS hE (runs_plain rfl) (Gives.p hE rfl) rfl ?_; clear hE a; intro a hE
          refine WL.fnq hE (Fleetwithin_ok hS  rfl (r := Fleetwithin x57 0 (w64 (((x0).length : Int) - 1)))) (runs_plain rfl) bd37 rfl rfl rfl ?_
          clear hE hS; rintro e w ⟨rfl, hS⟩; refine ⟨_, rfl, ?_⟩; clear a; intro a hE
          refine WL.vS hS hE (runs_plain rfl) (Gives.p hE rfl) rfl ?_; clear hE a; intro a hE
          refine WL.vS hS hE (runs_plain rfl) (Gives.p hE rfl) rfl ?_; clear hE a; intro a hE
          refine WL.nil ?_
          refine W.cond hE rfl (fun hc70 => ?_) (fun hc70 => ?_)
          · replace hq54 := iteT hc70 hq54
            refine W.seq ?_
            refine W.region ?_
            refine WL.vS hS hE (runs_plain rfl) (Gives.p hE rfl) rfl ?_; clear hE a; intro a hE
            refine WL.vS hS hE (runs_plain rfl) (Gives.p hE rfl) rfl ?_; clear hE a; intro a hE
            refine WL.nil ?_
            refine W.ret ?_
            subst hK65
            rw [← Option.some.inj hq54] at hr
            dsimp only at hr
            refine finG (fn := Try.f52) (rs := [.tmp 6, .tmp 7]) (vs := [_, _]) hE rfl ⟨rfl, rfl, trivial⟩ ?_
            obtain rfl := Option.some.inj hr
            replace hS := hS.tail
            exact ⟨rfl, hS⟩
          · replace hq54 := iteF hc70 hq54
            refine W.seq ?_
            refine W.region ?_
            refine WL.vS hS hE (runs_plain rfl) (Gives.p hE rfl) rfl ?_; clear hE a; intro a hE
            refine WL.vS hS hE (runs_plain rfl) (Gives.p hE rfl) rfl ?_; clear hE a; intro a hE
            obtain ⟨x71, hx72, hq54⟩ := bindS hq54
            obtain ⟨a73, c74, heq75, h76⟩ := h1.cut hx72
            obtain ⟨h77, h78, h79, _⟩ := cutl_some hx72
            refine WL.vS hS hE (runs_plain rfl) (Gives.slH hE sl44 rfl rfl (by omega) (by have := h1.len; omega) heq75) rfl ?_; clear hE a; intro a hE
            refine WL.vS hS hE (runs_plain rfl) (Gives.p hE rfl) rfl ?_; clear hE a; intro a hE
            refine WL.fnq hE (SlicesContainsLint_ok hS h76 rfl (r := SlicesContainsLint x71 x57)) (runs_plain rfl) bd24 rfl rfl rfl ?_
            clear hE hS; rintro e w ⟨rfl, hS⟩; refine ⟨_, rfl, ?_⟩; clear a; intro a hE
            refine WL.vS hS hE (runs_plain rfl) (Gives.p hE rfl) rfl ?_; clear hE a; intro a hE
            refine WL.nil ?_
            refine W.cond hE rfl (fun hc80 => ?_) (fun hc80 => ?_)
            · replace hq54 := iteT hc80 hq54
              refine W.seq ?_
              refine W.region ?_
              refine WL.vS hS hE (runs_plain rfl) (Gives.p hE rfl) rfl ?_; clear hE a; intro a hE
              refine WL.vS hS hE (runs_plain rfl) (Gives.p hE rfl) rfl ?_; clear hE a; intro a hE
              refine WL.nil ?_
              refine W.ret ?_
              subst hK65
              rw [← Option.some.inj hq54] at hr
              dsimp only at hr
              refine finG (fn := Try.f52) (rs := [.tmp 6, .tmp 7]) (vs := [_, _]) hE rfl ⟨rfl, rfl, trivial⟩ ?_
              obtain rfl := Option.some.inj hr
              replace hS := hS.tail
              exact ⟨rfl, hS⟩
            · replace hq54 := iteF hc80 hq54
              refine W.skip ?_
              refine W.region ?_
              refine WL.vS hS hE (runs_plain rfl) (Gives.inc hE rfl (by have := h1.small; omega)) rfl ?_; clear hE a; intro a hE
              refine WL.vS hS hE (runs_plain rfl) (Gives.p hE rfl) rfl ?_; clear hE a; intro a hE
              refine WL.nil ?_
              subst hK65
              exact ⟨rest58.length, Nat.lt_succ_self _, rest58, k56 + 1, rfl, hd59, hq54, hE.pick _ ⟨rfl, rfl, rfl, rfl, rfl, rfl, trivial⟩, hS⟩
      · clear hE hS a w; rintro a w ⟨rfl, hE, hS⟩
        dsimp only at hr
        refine W.seq ?_
        refine W.region ?_
        refine WL.vS hS hE (runs_plain rfl) (Gives.p hE rfl) rfl ?_; clear hE a; intro a hE
        refine WL.vS hS hE (runs_plain rfl) (Gives.p hE rfl) rfl ?_; clear hE a; intro a hE
        refine WL.vS hS hE (runs_plain rfl) (Gives.loadBA hE 0 rfl rfl ty24) rfl ?_; clear hE a; intro a hE
        obtain ⟨q81, hq82, hr⟩ := bindS hr
        have hc_ := Fleetjudge_ok hS h0 h1 hq82
        refine WL.fnq hE (hc_) (runs_plain rfl) bd98 rfl rfl rfl ?_
        clear hE hS hc_; rintro e w ⟨rfl, hS⟩; refine ⟨_, rfl, ?_⟩; clear a; intro a hE
        refine WL.vS hS hE (runs_plain rfl) (Gives.p hE rfl) rfl ?_; clear hE a; intro a hE
        refine WL.vS hS hE (runs_plain rfl) (Gives.p hE rfl) rfl ?_; clear hE a; intro a hE
        refine WL.nil ?_
        refine W.ret ?_
        refine finG (fn := Try.f52) (rs := [.tmp 6, .tmp 7]) (vs := [_, _]) hE rfl ⟨rfl, rfl, trivial⟩ ?_
        obtain rfl := Option.some.inj hr
        replace hS := hS.tail
        exact ⟨rfl, hS⟩
set_option maxHeartbeats 8000000 in
theorem Fishlaw2crews_ok  {w : World} {s : Sg} {R : List HP}  (hS : St w s (R))  {r : Bool} (hr : Fishlaw2crews = some r) :
    Calls Try.prog 12 [].toArray w (fun e w => e = .returned (.bool r) ∧ St w s (R)) := by
  refine enter Try.func12 rfl rfl rfl fun a hE => ?_
  rw [Fishlaw2crews] at hr
  refine W.seq ?_
  refine W.region ?_
  refine WL.vS hS hE (runs_plain rfl) (Gives.p hE rfl) rfl ?_; clear hE a; intro a hE
  refine WL.nil ?_
  refine W.seq ?_
  refine W.region ?_
  refine WL.vS hS hE (runs_plain rfl) (Gives.build hE (vs := [(0, .int .i64 0), (1, .int .i64 1), (2, .int .i64 0), (3, .int .i64 100), (5, .int .i64 1)]) [.int .i64 0, .int .i64 1, .int .i64 0, .int .i64 100, .int .i64 0, .int .i64 1] rfl (by kernel_rfl)) rfl ?_; clear hE a; intro a hE
  refine WL.lit hE hS (e := 78) (es := 6) (vs := [(0, .agg [.int .i64 0, .int .i64 1, .int .i64 0, .int .i64 100, .int .i64 0, .int .i64 1].toArray)]) (cs := [.int .i64 0, .int .i64 1, .int .i64 0, .int .i64 100, .int .i64 0, .int .i64 1]) (runs_plain rfl) rfl (by kernel_rfl) rfl ?_; clear hE hS a w; intro b51 a w hE hS
  replace hS := hS.ptVec (es := 6) (m := 1) rfl (by decide)
  have h53 : Ev 6 RFleetTask s [.int .i64 0, .int .i64 1, .int .i64 0, .int .i64 100, .int .i64 0, .int .i64 1] [(FleetTask.mk 0 1 0 100 0 1)] := (Ev.cons (c1 := [.int .i64 0, .int .i64 1, .int .i64 0, .int .i64 100, .int .i64 0, .int .i64 1]) rfl rfl (Ev.nil))
  have hF := hS.fixD RFleetTask.mono 0 rfl h53 (rfl); clear hS; obtain ⟨s54, hle55, hS, h56⟩ := hF
  refine WL.vS hS hE (runs_plain rfl) (Gives.p hE rfl) rfl ?_; clear hE a; intro a hE
  refine WL.nil ?_
  refine W.seq ?_
  refine W.region ?_
  refine WL.vS hS hE (runs_plain rfl) (Gives.p hE rfl) rfl ?_; clear hE a; intro a hE
  refine WL.lit hE hS (e := 3) (es := 1) (vs := [(0, .int .i64 0)]) (cs := [.int .i64 0]) (runs_plain rfl) rfl (by kernel_rfl) rfl ?_; clear hE hS a w; intro b57 a w hE hS
  replace hS := hS.ptVec (es := 1) (m := 1) rfl (by decide)
  have h59 : Ev 1 (RI .i64) s54 [.int .i64 0] [0] := (Ev.cons (c1 := [.int .i64 0]) rfl rfl (Ev.nil))
  have hF := hS.fixD RI.mono 0 rfl h59 (rfl); clear hS; obtain ⟨s60, hle61, hS, h62⟩ := hF
  replace h56 := Sl.mono RFleetTask.mono hle61 h56
  refine WL.vS hS hE (runs_plain rfl) (Gives.build hE (vs := [(1, .int .i64 100), (2, .int .i64 100), (3, .int .i64 100), (6, .int .i64 1)]) [.int .i64 0, .int .i64 100, .int .i64 100, .int .i64 100, .int .i64 0, .int .i64 0, .int .i64 1] rfl (by kernel_rfl)) rfl ?_; clear hE a; intro a hE
  obtain ⟨q63, hq64, hr⟩ := bindS hr
  have hc_ := FleetJudge_ok hS h56 h62 hq64
  refine WL.fnq hE (hc_) (runs_plain rfl) bd52 rfl rfl rfl ?_
  clear hE hS hc_; rintro e w ⟨rfl, hS⟩; refine ⟨_, rfl, ?_⟩; clear a; intro a hE
  refine WL.vS hS hE (runs_plain rfl) (Gives.p hE rfl) rfl ?_; clear hE a; intro a hE
  refine WL.vS hS hE (runs_plain rfl) (Gives.p hE rfl) rfl ?_; clear hE a; intro a hE
  refine WL.vS hS hE (runs_plain rfl) (Gives.p hE rfl) rfl ?_; clear hE a; intro a hE
  refine WL.vS hS hE (runs_plain rfl) (Gives.p hE rfl) rfl ?_; clear hE a; intro a hE
  refine WL.vS hS hE (runs_plain rfl) (Gives.p hE rfl) rfl ?_; clear hE a; intro a hE
  refine WL.nil ?_
  refine W.seq ?_
  obtain ⟨q66, hq65, hr⟩ := bndS hr
  refine W.cut (fun a w => ∃ (q69 : Bool), q69 = q66 ∧ Rep a 19 [(0, .bool q69)] ∧ St w s60 (R)) ?_ ?_
  · refine W.gen fun K70 hK70 => ?_
    refine W.region ?_
    refine WL.vS hS hE (runs_plain rfl) (Gives.p hE rfl) rfl ?_; clear hE a; intro a hE
    refine WL.vS hS hE (runs_plain rfl) (Gives.p hE rfl) rfl ?_; clear hE a; intro a hE
    refine WL.vS hS hE (runs_plain rfl) (Gives.p hE rfl) rfl ?_; clear hE a; intro a hE
    rcases Bool.eq_false_or_eq_true (q63.2 == 0) with hg71 | hg71
    · replace hq65 := iteT hg71 hq65
      refine WL.vS hS hE (runs_if hE rfl rfl rfl hg71) (Gives.p hE rfl) rfl ?_; clear hE a; intro a hE
      refine WL.vS hS hE (runs_if hE rfl rfl rfl hg71) (Gives.p hE rfl) rfl ?_; clear hE a; intro a hE
      refine WL.vS hS hE (runs_plain rfl) (Gives.pickT hE rfl hg71 rfl) rfl ?_; clear hE a; intro a hE
      refine WL.vS hS hE (runs_plain rfl) (Gives.p hE rfl) rfl ?_; clear hE a; intro a hE
      refine WL.nil ?_
      subst hK70
      exact ⟨(q63.1 == 5), hq65, hE.pick _ ⟨rfl, trivial⟩, hS⟩
    · replace hq65 := iteF hg71 hq65
      refine WL.no hE (runs_not hE rfl rfl rfl (by rw [hg71]; decide)) rfl ?_; clear hE a; intro a hE
      refine WL.no hE (runs_not hE rfl rfl rfl (by rw [hg71]; decide)) rfl ?_; clear hE a; intro a hE
      refine WL.vS hS hE (runs_plain rfl) (Gives.pickF hE rfl hg71 rfl) rfl ?_; clear hE a; intro a hE
      refine WL.vS hS hE (runs_plain rfl) (Gives.p hE rfl) rfl ?_; clear hE a; intro a hE
      refine WL.nil ?_
      subst hK70
      exact ⟨false, hq65, hE.pick _ ⟨rfl, trivial⟩, hS⟩
  · clear hE hS a w; rintro a w ⟨q69, rfl, hE, hS⟩
    refine W.ret ?_
    refine finG (fn := Try.f12) (rs := [.tmp 0]) (vs := [_]) hE rfl ⟨rfl, trivial⟩ ?_
    obtain rfl := Option.some.inj hr
    exact ⟨rfl, (hS.down (Sg.Le.trans hle55 hle61))⟩
set_option maxHeartbeats 8000000 in
theorem SlicesEqualLint_ok  {w : World} {s : Sg} {R : List HP} {x0 : List Int} {a0 : Option Addr} {c0 : Nat} {x1 : List Int} {a1 : Option Addr} {c1 : Nat} (hS : St w s (R)) (h0 : Sl 1 (RI .i64) s a0 c0 x0) (h1 : Sl 1 (RI .i64) s a1 c1 x1) {r : Bool} (hr : SlicesEqualLint x0 x1 = some r) :
    Calls Try.prog 30 [.slice a0 x0.length c0, .slice a1 x1.length c1].toArray w (fun e w => e = .returned (.bool r) ∧ St w s (R)) := by
  refine enter Try.func30 rfl rfl rfl fun a hE => ?_
  rw [SlicesEqualLint] at hr
  refine W.seq ?_
  refine W.region ?_
  refine WL.vS hS hE (runs_plain rfl) (Gives.p hE rfl) rfl ?_; clear hE a; intro a hE
  refine WL.nil ?_
  refine W.seq ?_
  refine W.seq ?_
  refine W.region ?_
  refine WL.vS hS hE (runs_plain rfl) (Gives.p hE rfl) rfl ?_; clear hE a; intro a hE
  refine WL.vS hS hE (runs_plain rfl) (Gives.len hE rfl sl44) rfl ?_; clear hE a; intro a hE
  refine WL.vS hS hE (runs_plain rfl) (Gives.p hE rfl) rfl ?_; clear hE a; intro a hE
  refine WL.vS hS hE (runs_plain rfl) (Gives.len hE rfl sl44) rfl ?_; clear hE a; intro a hE
  refine WL.vS hS hE (runs_plain rfl) (Gives.p hE rfl) rfl ?_; clear hE a; intro a hE
  refine WL.nil ?_
  refine W.cond hE rfl (fun hc51 => ?_) (fun hc51 => ?_)
  · replace hr := iteT hc51 hr
    refine W.seq ?_
    refine W.region ?_
    refine WL.vS hS hE (runs_plain rfl) (Gives.p hE rfl) rfl ?_; clear hE a; intro a hE
    refine WL.nil ?_
    refine W.ret ?_
    refine finG (fn := Try.f30) (rs := [.tmp 4]) (vs := [_]) hE rfl ⟨rfl, trivial⟩ ?_
    obtain rfl := Option.some.inj hr
    exact ⟨rfl, hS⟩
  · replace hr := iteF hc51 hr
    refine W.skip ?_
    refine W.seq ?_
    refine W.seq ?_
    refine W.region ?_
    refine WL.vS hS hE (runs_plain rfl) (Gives.p hE rfl) rfl ?_; clear hE a; intro a hE
    refine WL.vS hS hE (runs_plain rfl) (Gives.len hE rfl sl44) rfl ?_; clear hE a; intro a hE
    refine WL.vS hS hE (runs_plain rfl) (Gives.p hE rfl) rfl ?_; clear hE a; intro a hE
    refine WL.nil ?_
    obtain ⟨q53, hq52, hr⟩ := bindS hr
    refine W.cut (fun a w => (.next ()) = q53 ∧ Rep a 26 [] ∧ St w s (R)) ?_ ?_
    · refine W.block ?_
      refine W.loop (fun m a w => ∃ (rest56 : List Int) (k54 : Nat), rest56.length = m ∧ x0.drop k54 = rest56 ∧ SlicesEqualLint.loop1 x1 rest56 k54 = some q53 ∧ Rep a 26 [(0, .slice a0 x0.length c0), (1, .slice a1 x1.length c1), (12, .int .i64 ((x0).length : Int)), (13, .int .i64 ((k54 : Nat) : Int))] ∧ St w s (R)) (m := x0.length) ⟨x0, 0, rfl, rfl, hq52, hE.pick _ ⟨rfl, rfl, rfl, rfl, trivial⟩, hS⟩ ?_
      clear hE hS a w hq52; rintro m60 a w ⟨rest56, k54, rfl, hd57, hq52, hE, hS⟩
      refine W.gen fun K63 hK63 => ?_
      rcases rest56 with _ | ⟨x55, rest56⟩
      · have hlt58 := drop_nil hd57
        refine W.seq ?_
        refine W.region ?_
        refine WL.vS hS hE (runs_plain rfl) (Gives.p hE rfl) rfl ?_; clear hE a; intro a hE
        refine WL.nil ?_
        refine W.seq ?_
        refine W.condF hE rfl (decide_eq_false (by omega)) ?_
        subst hK63
        refine W.exit rfl ?_
        exact ⟨Option.some.inj hq52, hE.pick _ trivial, hS⟩
      · obtain ⟨hlt58, hx59, hd57⟩ := drop_cons hd57
        rw [SlicesEqualLint.loop1] at hq52
        refine W.seq ?_
        refine W.region ?_
        refine WL.vS hS hE (runs_plain rfl) (Gives.p hE rfl) rfl ?_; clear hE a; intro a hE
        refine WL.nil ?_
        refine W.seq ?_
        refine W.condT hE rfl (decide_eq_true (by omega)) ?_
        refine W.skip ?_
        refine W.seq ?_
        refine W.block ?_
        refine W.seq ?_
        refine W.region ?_
        refine WL.vS hS hE (runs_plain rfl) (Gives.p hE rfl) rfl ?_; clear hE a; intro a hE
        refine WL.vS hS hE (runs_plain rfl) (Gives.p hE rfl) rfl ?_; clear hE a; intro a hE
        refine WL.nil ?_
        refine W.seq ?_
        refine W.regionQ (C := fun w => St w s (R)) mixed (by kernel_rfl) hS.drew ?_
        refine QL.v hE (runs_plain rfl) (Gives.p hE rfl) rfl ?_; clear hE a; intro a hE
        refine QL.v hE (runs_plain rfl) (Gives.p hE rfl) rfl ?_; clear hE a; intro a hE
        obtain ⟨cs64, hl65, hR66, hat67⟩ := h0.at hx59
        subst hR66
        refine QL.v hE (runs_plain rfl) (Gives.idx hE k54 rfl rfl sl44 rfl hlt58 (h0.aok hlt58)) rfl ?_; clear hE a; intro a hE
        refine QL.v hE (runs_plain rfl) (Gives.load1 hE rfl (fun w h => hat67 w _ h) ty3) rfl ?_; clear hE a; intro a hE
        refine QL.v hE (runs_plain rfl) (Gives.p hE rfl) rfl ?_; clear hE a; intro a hE
        refine QL.v hE (runs_plain rfl) (Gives.p hE rfl) rfl ?_; clear hE a; intro a hE
        obtain ⟨x68, hx69, hq52⟩ := bindS hq52
        obtain ⟨hi70, hlt71, hy72⟩ := gx_some hx69
        obtain ⟨cs73, hl74, hR75, hat76⟩ := h1.at hy72
        subst hR75
        refine QL.v hE (runs_plain rfl) (Gives.idx hE (((k54 : Nat) : Int)).toNat rfl rfl sl44 hi70 hlt71 (h1.aok hlt71)) rfl ?_; clear hE a; intro a hE
        refine QL.v hE (runs_plain rfl) (Gives.load1 hE rfl (fun w h => hat76 w _ h) ty3) rfl ?_; clear hE a; intro a hE
        refine QL.v hE (runs_plain rfl) (Gives.p hE rfl) rfl ?_; clear hE a; intro a hE
        refine QL.nil ?_; clear hS w; intro w hS
        refine W.cond hE rfl (fun hc77 => ?_) (fun hc77 => ?_)
        · replace hq52 := iteT hc77 hq52
          refine W.seq ?_
          refine W.region ?_
          refine WL.vS hS hE (runs_plain rfl) (Gives.p hE rfl) rfl ?_; clear hE a; intro a hE
          refine WL.nil ?_
          refine W.ret ?_
          subst hK63
          rw [← Option.some.inj hq52] at hr
          dsimp only at hr
          refine finG (fn := Try.f30) (rs := [.tmp 4]) (vs := [_]) hE rfl ⟨rfl, trivial⟩ ?_
          obtain rfl := Option.some.inj hr
          exact ⟨rfl, hS⟩
        · replace hq52 := iteF hc77 hq52
          refine W.skip ?_
          refine W.region ?_
          refine WL.vS hS hE (runs_plain rfl) (Gives.inc hE rfl (by have := h0.small; omega)) rfl ?_; clear hE a; intro a hE
          refine WL.vS hS hE (runs_plain rfl) (Gives.p hE rfl) rfl ?_; clear hE a; intro a hE
          refine WL.nil ?_
          subst hK63
          exact ⟨rest56.length, Nat.lt_succ_self _, rest56, k54 + 1, rfl, hd57, hq52, hE.pick _ ⟨rfl, rfl, rfl, rfl, trivial⟩, hS⟩
    · clear hE hS a w; rintro a w ⟨rfl, hE, hS⟩
      dsimp only at hr
      refine W.seq ?_
      refine W.region ?_
      refine WL.vS hS hE (runs_plain rfl) (Gives.p hE rfl) rfl ?_; clear hE a; intro a hE
      refine WL.nil ?_
      refine W.ret ?_
      refine finG (fn := Try.f30) (rs := [.tmp 4]) (vs := [_]) hE rfl ⟨rfl, trivial⟩ ?_
      obtain rfl := Option.some.inj hr
      exact ⟨rfl, hS⟩
set_option maxHeartbeats 8000000 in
theorem SlicesEqualFuncLLint_v1_ok  {w : World} {s : Sg} {R : List HP} {x0 : List (List Int)} {a0 : Option Addr} {c0 : Nat} {x1 : List (List Int)} {a1 : Option Addr} {c1 : Nat} (hS : St w s (R)) (h0 : Sl 1 (RL 1 (RI .i64)) s a0 c0 x0) (h1 : Sl 1 (RL 1 (RI .i64)) s a1 c1 x1) {r : Bool} (hr : SlicesEqualFuncLLint_v1 x0 x1 = some r) :
    Calls Try.prog 53 [.slice a0 x0.length c0, .slice a1 x1.length c1, .func (.func 30) #[] #[]].toArray w (fun e w => e = .returned (.bool r) ∧ St w s (R)) := by
  refine enter Try.func53 rfl rfl rfl fun a hE => ?_
  rw [SlicesEqualFuncLLint_v1] at hr
  refine W.seq ?_
  refine W.region ?_
  refine WL.vS hS hE (runs_plain rfl) (Gives.p hE rfl) rfl ?_; clear hE a; intro a hE
  refine WL.nil ?_
  refine W.seq ?_
  refine W.seq ?_
  refine W.region ?_
  refine WL.vS hS hE (runs_plain rfl) (Gives.p hE rfl) rfl ?_; clear hE a; intro a hE
  refine WL.vS hS hE (runs_plain rfl) (Gives.len hE rfl sl25) rfl ?_; clear hE a; intro a hE
  refine WL.vS hS hE (runs_plain rfl) (Gives.p hE rfl) rfl ?_; clear hE a; intro a hE
  refine WL.vS hS hE (runs_plain rfl) (Gives.len hE rfl sl25) rfl ?_; clear hE a; intro a hE
  refine WL.vS hS hE (runs_plain rfl) (Gives.p hE rfl) rfl ?_; clear hE a; intro a hE
  refine WL.nil ?_
  refine W.cond hE rfl (fun hc51 => ?_) (fun hc51 => ?_)
  · replace hr := iteT hc51 hr
    refine W.seq ?_
    refine W.region ?_
    refine WL.vS hS hE (runs_plain rfl) (Gives.p hE rfl) rfl ?_; clear hE a; intro a hE
    refine WL.nil ?_
    refine W.ret ?_
    refine finG (fn := Try.f53) (rs := [.tmp 6]) (vs := [_]) hE rfl ⟨rfl, trivial⟩ ?_
    obtain rfl := Option.some.inj hr
    exact ⟨rfl, hS⟩
  · replace hr := iteF hc51 hr
    refine W.skip ?_
    refine W.seq ?_
    refine W.seq ?_
    refine W.region ?_
    refine WL.vS hS hE (runs_plain rfl) (Gives.p hE rfl) rfl ?_; clear hE a; intro a hE
    refine WL.vS hS hE (runs_plain rfl) (Gives.len hE rfl sl25) rfl ?_; clear hE a; intro a hE
    refine WL.vS hS hE (runs_plain rfl) (Gives.p hE rfl) rfl ?_; clear hE a; intro a hE
    refine WL.nil ?_
    obtain ⟨q53, hq52, hr⟩ := bindS hr
    refine W.cut (fun a w => (.next ()) = q53 ∧ Rep a 32 [] ∧ St w s (R)) ?_ ?_
    · refine W.block ?_
      refine W.loop (fun m a w => ∃ (rest56 : List (List Int)) (k54 : Nat), rest56.length = m ∧ x0.drop k54 = rest56 ∧ SlicesEqualFuncLLint_v1.loop1 x1 rest56 k54 = some q53 ∧ Rep a 32 [(1, .slice a1 x1.length c1), (2, .func (.func 30) #[] #[]), (15, .slice a0 x0.length c0), (16, .int .i64 ((x0).length : Int)), (17, .int .i64 ((k54 : Nat) : Int))] ∧ St w s (R)) (m := x0.length) ⟨x0, 0, rfl, rfl, hq52, hE.pick _ ⟨rfl, rfl, rfl, rfl, rfl, trivial⟩, hS⟩ ?_
      clear hE hS a w hq52; rintro m60 a w ⟨rest56, k54, rfl, hd57, hq52, hE, hS⟩
      refine W.gen fun K63 hK63 => ?_
      rcases rest56 with _ | ⟨x55, rest56⟩
      · have hlt58 := drop_nil hd57
        refine W.seq ?_
        refine W.region ?_
        refine WL.vS hS hE (runs_plain rfl) (Gives.p hE rfl) rfl ?_; clear hE a; intro a hE
        refine WL.nil ?_
        refine W.seq ?_
        refine W.condF hE rfl (decide_eq_false (by omega)) ?_
        subst hK63
        refine W.exit rfl ?_
        exact ⟨Option.some.inj hq52, hE.pick _ trivial, hS⟩
      · obtain ⟨hlt58, hx59, hd57⟩ := drop_cons hd57
        rw [SlicesEqualFuncLLint_v1.loop1] at hq52
        refine W.seq ?_
        refine W.region ?_
        refine WL.vS hS hE (runs_plain rfl) (Gives.p hE rfl) rfl ?_; clear hE a; intro a hE
        refine WL.nil ?_
        refine W.seq ?_
        refine W.condT hE rfl (decide_eq_true (by omega)) ?_
        refine W.skip ?_
        refine W.seq ?_
        refine W.block ?_
        refine W.seq ?_
        refine W.region ?_
        refine WL.vS hS hE (runs_plain rfl) (Gives.p hE rfl) rfl ?_; clear hE a; intro a hE
        obtain ⟨cs64, hl65, hR66, hat67⟩ := h0.at hx59
        obtain ⟨a68, c69, rfl, h70⟩ := hR66
        refine WL.vS hS hE (runs_plain rfl) (Gives.idx hE k54 rfl rfl sl25 rfl hlt58 (h0.aok hlt58)) rfl ?_; clear hE a; intro a hE
        refine WL.vS hS hE (runs_plain rfl) (Gives.load1 hE rfl (fun w h => hat67 w _ h) ty44) rfl ?_; clear hE a; intro a hE
        refine WL.vS hS hE (runs_plain rfl) (Gives.p hE rfl) rfl ?_; clear hE a; intro a hE
        refine WL.vS hS hE (runs_plain rfl) (Gives.p hE rfl) rfl ?_; clear hE a; intro a hE
        refine WL.nil ?_
        refine W.seq ?_
        refine W.region ?_
        refine WL.vS hS hE (runs_plain rfl) (Gives.p hE rfl) rfl ?_; clear hE a; intro a hE
        refine WL.vS hS hE (runs_plain rfl) (Gives.p hE rfl) rfl ?_; clear hE a; intro a hE
        obtain ⟨x71, hx72, hq52⟩ := bindS hq52
        obtain ⟨hi73, hlt74, hy75⟩ := gx_some hx72
        obtain ⟨cs76, hl77, hR78, hat79⟩ := h1.at hy75
        obtain ⟨a80, c81, rfl, h82⟩ := hR78
        refine WL.vS hS hE (runs_plain rfl) (Gives.idx hE (((k54 : Nat) : Int)).toNat rfl rfl sl25 hi73 hlt74 (h1.aok hlt74)) rfl ?_; clear hE a; intro a hE
        refine WL.vS hS hE (runs_plain rfl) (Gives.load1 hE rfl (fun w h => hat79 w _ h) ty44) rfl ?_; clear hE a; intro a hE
        refine WL.vS hS hE (runs_plain rfl) (Gives.p hE rfl) rfl ?_; clear hE a; intro a hE
        refine WL.nil ?_
        refine W.seq ?_
        refine W.region ?_
        refine WL.vS hS hE (runs_plain rfl) (Gives.p hE rfl) rfl ?_; clear hE a; intro a hE
        refine WL.vS hS hE (runs_plain rfl) (Gives.p hE rfl) rfl ?_; clear hE a; intro a hE
        refine WL.vS hS hE (runs_plain rfl) (Gives.p hE rfl) rfl ?_; clear hE a; intro a hE
        obtain ⟨q83, hq84, hq52⟩ := bindS hq52
        have hc_ := SlicesEqualLint_ok hS h70 h82 hq84
        refine WL.fnw hE (hc_) rfl (runs_plain rfl) bd30 rfl rfl rfl ?_
        clear hE hS hc_; rintro e w ⟨rfl, hS⟩; refine ⟨_, rfl, ?_⟩; clear a; intro a hE
        refine WL.vS hS hE (runs_plain rfl) (Gives.p hE rfl) rfl ?_; clear hE a; intro a hE
        refine WL.nil ?_
        refine W.cond hE rfl (fun hc85 => ?_) (fun hc85 => ?_)
        · replace hq52 := iteT hc85 hq52
          refine W.seq ?_
          refine W.region ?_
          refine WL.vS hS hE (runs_plain rfl) (Gives.p hE rfl) rfl ?_; clear hE a; intro a hE
          refine WL.nil ?_
          refine W.ret ?_
          subst hK63
          rw [← Option.some.inj hq52] at hr
          dsimp only at hr
          refine finG (fn := Try.f53) (rs := [.tmp 6]) (vs := [_]) hE rfl ⟨rfl, trivial⟩ ?_
          obtain rfl := Option.some.inj hr
          exact ⟨rfl, hS⟩
        · replace hq52 := iteF hc85 hq52
          refine W.skip ?_
          refine W.region ?_
          refine WL.vS hS hE (runs_plain rfl) (Gives.inc hE rfl (by have := h0.small; omega)) rfl ?_; clear hE a; intro a hE
          refine WL.vS hS hE (runs_plain rfl) (Gives.p hE rfl) rfl ?_; clear hE a; intro a hE
          refine WL.nil ?_
          subst hK63
          exact ⟨rest56.length, Nat.lt_succ_self _, rest56, k54 + 1, rfl, hd57, hq52, hE.pick _ ⟨rfl, rfl, rfl, rfl, rfl, trivial⟩, hS⟩
    · clear hE hS a w; rintro a w ⟨rfl, hE, hS⟩
      dsimp only at hr
      refine W.seq ?_
      refine W.region ?_
      refine WL.vS hS hE (runs_plain rfl) (Gives.p hE rfl) rfl ?_; clear hE a; intro a hE
      refine WL.nil ?_
      refine W.ret ?_
      refine finG (fn := Try.f53) (rs := [.tmp 6]) (vs := [_]) hE rfl ⟨rfl, trivial⟩ ?_
      obtain rfl := Option.some.inj hr
      exact ⟨rfl, hS⟩
set_option maxHeartbeats 8000000 in
theorem Fishlaw2lists_ok  {w : World} {s : Sg} {R : List HP} {x0 : List (List Int)} {a0 : Option Addr} {c0 : Nat} {x1 : List (List Int)} {a1 : Option Addr} {c1 : Nat} (hS : St w s (R)) (h0 : Sl 1 (RL 1 (RI .i64)) s a0 c0 x0) (h1 : Sl 1 (RL 1 (RI .i64)) s a1 c1 x1) {r : Bool} (hr : Fishlaw2lists x0 x1 = some r) :
    Calls Try.prog 13 [.slice a0 x0.length c0, .slice a1 x1.length c1].toArray w (fun e w => e = .returned (.bool r) ∧ St w s (R)) := by
  refine enter Try.func13 rfl rfl rfl fun a hE => ?_
  rw [Fishlaw2lists] at hr
  refine W.seq ?_
  refine W.region ?_
  refine WL.vS hS hE (runs_plain rfl) (Gives.p hE rfl) rfl ?_; clear hE a; intro a hE
  refine WL.nil ?_
  refine W.seq ?_
  refine W.region ?_
  refine WL.vS hS hE (runs_plain rfl) (Gives.p hE rfl) rfl ?_; clear hE a; intro a hE
  refine WL.vS hS hE (runs_plain rfl) (Gives.p hE rfl) rfl ?_; clear hE a; intro a hE
  obtain ⟨q51, hq52, hr⟩ := bindS hr
  have hc_ := SlicesEqualFuncLLint_v1_ok hS h0 h1 hq52
  refine WL.fnq hE (hc_) (runs_plain rfl) bd53 rfl rfl rfl ?_
  clear hE hS hc_; rintro e w ⟨rfl, hS⟩; refine ⟨_, rfl, ?_⟩; clear a; intro a hE
  refine WL.vS hS hE (runs_plain rfl) (Gives.p hE rfl) rfl ?_; clear hE a; intro a hE
  refine WL.nil ?_
  refine W.ret ?_
  refine finG (fn := Try.f13) (rs := [.tmp 4]) (vs := [_]) hE rfl ⟨rfl, trivial⟩ ?_
  obtain rfl := Option.some.inj hr
  exact ⟨rfl, hS⟩
set_option maxHeartbeats 8000000 in
theorem Fishlaw2FleetDuties_ok {fu : Nat}  {w : World} {s : Sg} {R : List HP} {x0 : List FleetTask} {a0 : Option Addr} {c0 : Nat} {x1 : FleetLimits} (hS : St w s (R)) (h0 : Sl 6 RFleetTask s a0 c0 x0) {r : Bool} (hr : Fishlaw2FleetDuties fu x0 x1 = some r) :
    Calls Try.prog 8 [.slice a0 x0.length c0, .agg (FleetLimits.cells x1).toArray].toArray w (fun e w => e = .returned (.bool r) ∧ St w s (R)) := by
  refine enter Try.func8 rfl rfl rfl fun a hE => ?_
  rw [Fishlaw2FleetDuties] at hr
  refine W.seq ?_
  refine W.region ?_
  refine WL.box hE hS (runs_plain rfl) rfl rfl rfl ?_; clear hE hS a w; intro b51 a w hE hS
  refine WL.vS hS hE (runs_plain rfl) (Gives.p hE rfl) rfl ?_; clear hE a; intro a hE
  refine WL.nil ?_
  refine W.seq ?_
  refine W.region ?_
  refine WL.vS hS hE (runs_plain rfl) (Gives.p hE rfl) rfl ?_; clear hE a; intro a hE
  refine WL.vS hS hE (runs_plain rfl) (Gives.loadBA hE 0 rfl rfl ty24) rfl ?_; clear hE a; intro a hE
  obtain ⟨q52, hq53, hr⟩ := bindS hr
  have hc_ := FleetDuties_ok hS h0 hq53
  refine WL.fnq hE (hc_) (runs_plain rfl) bd31 rfl rfl rfl ?_
  clear hE hS hc_; rintro e w ⟨a54, c55, n56, cs57, s60, rfl, hle61, h58, rfl, hS⟩; refine ⟨_, rfl, ?_⟩; clear a; intro a hE
  replace h0 := Sl.mono RFleetTask.mono hle61 h0
  refine WL.vS hS hE (runs_plain rfl) (Gives.p hE rfl) rfl ?_; clear hE a; intro a hE
  refine WL.vS hS hE (runs_plain rfl) (Gives.p hE rfl) rfl ?_; clear hE a; intro a hE
  refine WL.vS hS hE (runs_plain rfl) (Gives.p hE rfl) rfl ?_; clear hE a; intro a hE
  refine WL.vS hS hE (runs_plain rfl) (Gives.p hE rfl) rfl ?_; clear hE a; intro a hE
  refine WL.vS hS hE (runs_plain rfl) (Gives.p hE rfl) rfl ?_; clear hE a; intro a hE
  refine WL.nil ?_
  refine W.seq ?_
  refine W.region ?_
  refine WL.vS hS hE (runs_plain rfl) (Gives.p hE rfl) rfl ?_; clear hE a; intro a hE
  refine WL.vS hS hE (runs_plain rfl) (Gives.loadBA hE 1 rfl rfl ty24) rfl ?_; clear hE a; intro a hE
  obtain ⟨q62, hq63, hr⟩ := bindS hr
  have hc_ := Fishref2DutiesOf_ok hS h0 hq63
  refine WL.fnq hE (hc_) (runs_plain rfl) bd32 rfl rfl rfl ?_
  clear hE hS hc_; rintro e w ⟨a64, c65, s67, rfl, hle68, h66, hS⟩; refine ⟨_, rfl, ?_⟩; clear a; intro a hE
  replace h0 := Sl.mono RFleetTask.mono hle68 h0
  replace h58 := Ev.mono (RL.mono RI.mono) hle68 h58
  refine WL.vS hS hE (runs_plain rfl) (Gives.p hE rfl) rfl ?_; clear hE a; intro a hE
  refine WL.vS hS hE (runs_plain rfl) (Gives.p hE rfl) rfl ?_; clear hE a; intro a hE
  refine WL.vS hS hE (runs_plain rfl) (Gives.p hE rfl) rfl ?_; clear hE a; intro a hE
  refine WL.vS hS hE (runs_plain rfl) (Gives.p hE rfl) rfl ?_; clear hE a; intro a hE
  refine WL.vS hS hE (runs_plain rfl) (Gives.p hE rfl) rfl ?_; clear hE a; intro a hE
  refine WL.nil ?_
  refine W.seq ?_
  obtain ⟨q70, hq69, hr⟩ := bindS hr
  refine W.cut (fun a w => ∃ (q73 : Bool), q73 = q70 ∧ Rep a 32 [(4, .bool q73)] ∧ St w s67 (pt b51 (.cells (FleetLimits.cells x1).toArray 24 (0, 0)) :: R)) ?_ ?_
  · refine W.gen fun K74 hK74 => ?_
    refine W.region ?_
    obtain ⟨q75, hq76, hq69⟩ := bindS hq69
    have hc_ := Fishlaw2crews_ok hS  hq76
    refine WL.fnq hE (hc_) (runs_plain rfl) bd12 rfl rfl rfl ?_
    clear hE hS hc_; rintro e w ⟨rfl, hS⟩; refine ⟨_, rfl, ?_⟩; clear a; intro a hE
    refine WL.vS hS hE (runs_plain rfl) (Gives.p hE rfl) rfl ?_; clear hE a; intro a hE
    rcases Bool.eq_false_or_eq_true q75 with hg77 | hg77
    · replace hq69 := iteT hg77 hq69
      refine WL.vS hS hE (runs_if hE rfl rfl rfl hg77) (Gives.p hE rfl) rfl ?_; clear hE a; intro a hE
      refine WL.vS hS hE (runs_if hE rfl rfl rfl hg77) (Gives.p hE rfl) rfl ?_; clear hE a; intro a hE
      refine WL.vS hS hE (runs_if hE rfl rfl rfl hg77) (Gives.p hE rfl) rfl ?_; clear hE a; intro a hE
      refine WL.vS hS hE (runs_plain rfl) (Gives.pickT hE rfl hg77 rfl) rfl ?_; clear hE a; intro a hE
      refine WL.vS hS hE (runs_plain rfl) (Gives.p hE rfl) rfl ?_; clear hE a; intro a hE
      rcases Bool.eq_false_or_eq_true (q52.2 == q62.2) with hg78 | hg78
      · replace hq69 := iteT hg78 hq69
        refine WL.vS hS hE (runs_if hE rfl rfl rfl hg78) (Gives.p hE rfl) rfl ?_; clear hE a; intro a hE
        refine WL.vS hS hE (runs_if hE rfl rfl rfl hg78) (Gives.p hE rfl) rfl ?_; clear hE a; intro a hE
        obtain ⟨q79, hq80, hq69⟩ := bindS hq69
        have hF := hS.lendV (RL.mono RI.mono) 0 rfl h58 rfl; clear hS; obtain ⟨t81, hle82, hS, hs83, bk84⟩ := hF
        have hc_ := Fishlaw2lists_ok hS hs83 (Sl.mono (RL.mono RI.mono) hle82 h66) hq80
        refine WL.fnq hE (hc_) (runs_if hE rfl rfl rfl hg78) bd13 rfl rfl rfl ?_
        clear hE hS hc_; rintro e w ⟨rfl, hS⟩; refine ⟨_, rfl, ?_⟩; clear a; intro a hE
        replace hS := bk84 _ _ hS
        refine WL.vS hS hE (runs_plain rfl) (Gives.pickT hE rfl hg78 rfl) rfl ?_; clear hE a; intro a hE
        refine WL.vS hS hE (runs_plain rfl) (Gives.p hE rfl) rfl ?_; clear hE a; intro a hE
        refine WL.nil ?_
        replace hS := hS.tail
        subst hK74
        exact ⟨q79, Option.some.inj hq69, hE.pick _ ⟨rfl, trivial⟩, hS⟩
      · replace hq69 := iteF hg78 hq69
        refine WL.no hE (runs_not hE rfl rfl rfl (by rw [hg78]; decide)) rfl ?_; clear hE a; intro a hE
        refine WL.no hE (runs_not hE rfl rfl rfl (by rw [hg78]; decide)) rfl ?_; clear hE a; intro a hE
        refine WL.no hE (runs_not hE rfl rfl rfl (by rw [hg78]; decide)) rfl ?_; clear hE a; intro a hE
        refine WL.vS hS hE (runs_plain rfl) (Gives.pickF hE rfl hg78 rfl) rfl ?_; clear hE a; intro a hE
        refine WL.vS hS hE (runs_plain rfl) (Gives.p hE rfl) rfl ?_; clear hE a; intro a hE
        refine WL.nil ?_
        replace hS := hS.tail
        subst hK74
        exact ⟨false, Option.some.inj hq69, hE.pick _ ⟨rfl, trivial⟩, hS⟩
    · replace hq69 := iteF hg77 hq69
      refine WL.no hE (runs_not hE rfl rfl rfl (by rw [hg77]; decide)) rfl ?_; clear hE a; intro a hE
      refine WL.no hE (runs_not hE rfl rfl rfl (by rw [hg77]; decide)) rfl ?_; clear hE a; intro a hE
      refine WL.no hE (runs_not hE rfl rfl rfl (by rw [hg77]; decide)) rfl ?_; clear hE a; intro a hE
      refine WL.vS hS hE (runs_plain rfl) (Gives.pickF hE rfl hg77 rfl) rfl ?_; clear hE a; intro a hE
      refine WL.vS hS hE (runs_plain rfl) (Gives.p hE rfl) rfl ?_; clear hE a; intro a hE
      refine WL.no hE (runs_not hE rfl rfl rfl (by decide)) rfl ?_; clear hE a; intro a hE
      refine WL.no hE (runs_not hE rfl rfl rfl (by decide)) rfl ?_; clear hE a; intro a hE
      refine WL.no hE (runs_not hE rfl rfl rfl (by decide)) rfl ?_; clear hE a; intro a hE
      refine WL.vS hS hE (runs_plain rfl) (Gives.pickF hE rfl rfl rfl) rfl ?_; clear hE a; intro a hE
      refine WL.vS hS hE (runs_plain rfl) (Gives.p hE rfl) rfl ?_; clear hE a; intro a hE
      refine WL.nil ?_
      replace hS := hS.tail
      subst hK74
      exact ⟨false, Option.some.inj hq69, hE.pick _ ⟨rfl, trivial⟩, hS⟩
  · clear hE hS a w; rintro a w ⟨q73, rfl, hE, hS⟩
    refine W.ret ?_
    refine finG (fn := Try.f8) (rs := [.tmp 4]) (vs := [_]) hE rfl ⟨rfl, trivial⟩ ?_
    obtain rfl := Option.some.inj hr
    replace hS := hS.tail
    exact ⟨rfl, (hS.down (Sg.Le.trans hle61 hle68))⟩
end Go.Proofs.Ytfhkpdnohcidgaa
