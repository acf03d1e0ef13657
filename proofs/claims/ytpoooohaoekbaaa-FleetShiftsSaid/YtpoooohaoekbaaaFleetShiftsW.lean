/- The walks of the functions that FleetShifts reaches: each call comes to what its mirror says. The conditions are those of each contract. -/
import Derived.Test.YtpoooohaoekbaaaProg
import Derived.Test.YtpoooohaoekbaaaFleetShiftsM
import Derived.Test.YtpoooohaoekbaaaFpMore
import Derived.Test.YtpoooohaoekbaaaFleetShiftsW1
namespace Go.Proofs.Ytpoooohaoekbaaa
open Go Go.Fp
set_option maxHeartbeats 8000000 in
theorem SlicesIndexLint_ok  {w : World} {s : Sg} {R : List HP} {x0 : List Int} {a0 : Option Addr} {c0 : Nat} {x1 : Int} (hS : St w s (R)) (h0 : Sl 1 (RI .i64) s a0 c0 x0) {r : Int} (hr : SlicesIndexLint x0 x1 = r) :
    Calls Try.prog 16 [.slice a0 x0.length c0, .int .i64 x1].toArray w (fun e w => e = .returned (.int .i64 r) ∧ St w s (R)) := by
  refine enter Try.func16 rfl rfl rfl fun a hE => ?_
  rw [SlicesIndexLint] at hr
  refine W.seq ?_
  refine W.region ?_
  refine WL.vS hS hE (runs_plain rfl) (Gives.p hE rfl) rfl ?_; clear hE a; intro a hE
  refine WL.nil ?_
  refine W.seq ?_
  refine W.seq ?_
  refine W.region ?_
  refine WL.vS hS hE (runs_plain rfl) (Gives.p hE rfl) rfl ?_; clear hE a; intro a hE
  refine WL.vS hS hE (runs_plain rfl) (Gives.len hE rfl sl22) rfl ?_; clear hE a; intro a hE
  refine WL.vS hS hE (runs_plain rfl) (Gives.p hE rfl) rfl ?_; clear hE a; intro a hE
  refine WL.nil ?_
  obtain ⟨q52, hq51, hr⟩ := bndS hr
  refine W.cut (fun a w => (.next ()) = q52 ∧ Rep a 19 [] ∧ St w s (R)) ?_ ?_
  · refine W.block ?_
    refine W.loop (fun m a w => ∃ (rest55 : List Int) (k53 : Nat), rest55.length = m ∧ x0.drop k53 = rest55 ∧ SlicesIndexLint.loop1 x1 rest55 k53 = q52 ∧ Rep a 19 [(0, .slice a0 x0.length c0), (1, .int .i64 x1), (7, .int .i64 ((x0).length : Int)), (8, .int .i64 ((k53 : Nat) : Int))] ∧ St w s (R)) (m := x0.length) ⟨x0, 0, rfl, rfl, hq51, hE.pick _ ⟨rfl, rfl, rfl, rfl, trivial⟩, hS⟩ ?_
    clear hE hS a w hq51; rintro m59 a w ⟨rest55, k53, rfl, hd56, hq51, hE, hS⟩
    refine W.gen fun K62 hK62 => ?_
    rcases rest55 with _ | ⟨x54, rest55⟩
    · have hlt57 := drop_nil hd56
      refine W.seq ?_
      refine W.region ?_
      refine WL.vS hS hE (runs_plain rfl) (Gives.p hE rfl) rfl ?_; clear hE a; intro a hE
      refine WL.nil ?_
      refine W.seq ?_
      refine W.condF hE rfl (decide_eq_false (by omega)) ?_
      subst hK62
      refine W.exit rfl ?_
      exact ⟨hq51, hE.pick _ trivial, hS⟩
    · obtain ⟨hlt57, hx58, hd56⟩ := drop_cons hd56
      rw [SlicesIndexLint.loop1] at hq51
      refine W.seq ?_
      refine W.region ?_
      refine WL.vS hS hE (runs_plain rfl) (Gives.p hE rfl) rfl ?_; clear hE a; intro a hE
      refine WL.nil ?_
      refine W.seq ?_
      refine W.condT hE rfl (decide_eq_true (by omega)) ?_
      refine W.skip ?_
      refine W.seq ?_
      refine W.block ?_
      refine W.seq ?_
      refine W.region ?_
      refine WL.vS hS hE (runs_plain rfl) (Gives.p hE rfl) rfl ?_; clear hE a; intro a hE
      refine WL.vS hS hE (runs_plain rfl) (Gives.p hE rfl) rfl ?_; clear hE a; intro a hE
      refine WL.nil ?_
      refine W.seq ?_
      refine W.region ?_
      refine WL.vS hS hE (runs_plain rfl) (Gives.p hE rfl) rfl ?_; clear hE a; intro a hE
      refine WL.vS hS hE (runs_plain rfl) (Gives.p hE rfl) rfl ?_; clear hE a; intro a hE
      refine WL.vS hS hE (runs_plain rfl) (Gives.p hE rfl) rfl ?_; clear hE a; intro a hE
      obtain ⟨cs63, hl64, hR65, hat66⟩ := h0.at hx58
      subst hR65
      refine WL.vS hS hE (runs_plain rfl) (Gives.idx hE k53 rfl rfl sl22 rfl hlt57 (h0.aok hlt57)) rfl ?_; clear hE a; intro a hE
      refine WL.vS hS hE (runs_plain rfl) (Gives.load1 hE rfl (fun w h => hat66 w _ h) ty3) rfl ?_; clear hE a; intro a hE
      refine WL.vS hS hE (runs_plain rfl) (Gives.p hE rfl) rfl ?_; clear hE a; intro a hE
      refine WL.nil ?_
      refine W.cond hE rfl (fun hc67 => ?_) (fun hc67 => ?_)
      · replace hq51 := iteT hc67 hq51
        refine W.seq ?_
        refine W.region ?_
        refine WL.vS hS hE (runs_plain rfl) (Gives.p hE rfl) rfl ?_; clear hE a; intro a hE
        refine WL.vS hS hE (runs_plain rfl) (Gives.p hE rfl) rfl ?_; clear hE a; intro a hE
        refine WL.nil ?_
        refine W.ret ?_
        subst hK62
        rw [← hq51] at hr
        dsimp only at hr
        refine finG (fn := Try.f16) (rs := [.tmp 4]) (vs := [_]) hE rfl ⟨rfl, trivial⟩ ?_
        subst hr
        exact ⟨rfl, hS⟩
      · replace hq51 := iteF hc67 hq51
        refine W.skip ?_
        refine W.region ?_
        refine WL.vS hS hE (runs_plain rfl) (Gives.inc hE rfl (by have := h0.small; omega)) rfl ?_; clear hE a; intro a hE
        refine WL.vS hS hE (runs_plain rfl) (Gives.p hE rfl) rfl ?_; clear hE a; intro a hE
        refine WL.nil ?_
        subst hK62
        exact ⟨rest55.length, Nat.lt_succ_self _, rest55, k53 + 1, rfl, hd56, hq51, hE.pick _ ⟨rfl, rfl, rfl, rfl, trivial⟩, hS⟩
  · clear hE hS a w; rintro a w ⟨rfl, hE, hS⟩
    dsimp only at hr
    refine W.seq ?_
    refine W.region ?_
    refine WL.vS hS hE (runs_plain rfl) (Gives.p hE rfl) rfl ?_; clear hE a; intro a hE
    refine WL.nil ?_
    refine W.ret ?_
    refine finG (fn := Try.f16) (rs := [.tmp 4]) (vs := [_]) hE rfl ⟨rfl, trivial⟩ ?_
    subst hr
    exact ⟨rfl, hS⟩
set_option maxHeartbeats 8000000 in
theorem SlicesContainsLint_ok  {w : World} {s : Sg} {R : List HP} {x0 : List Int} {a0 : Option Addr} {c0 : Nat} {x1 : Int} (hS : St w s (R)) (h0 : Sl 1 (RI .i64) s a0 c0 x0) {r : Bool} (hr : SlicesContainsLint x0 x1 = r) :
    Calls Try.prog 50 [.slice a0 x0.length c0, .int .i64 x1].toArray w (fun e w => e = .returned (.bool r) ∧ St w s (R)) := by
  refine enter Try.func50 rfl rfl rfl fun a hE => ?_
  rw [SlicesContainsLint] at hr
  refine W.seq ?_
  refine W.region ?_
  refine WL.vS hS hE (runs_plain rfl) (Gives.p hE rfl) rfl ?_; clear hE a; intro a hE
  refine WL.nil ?_
  refine W.seq ?_
  refine W.region ?_
  refine WL.vS hS hE (runs_plain rfl) (Gives.p hE rfl) rfl ?_; clear hE a; intro a hE
  refine WL.vS hS hE (runs_plain rfl) (Gives.p hE rfl) rfl ?_; clear hE a; intro a hE
  refine WL.fn hE (SlicesIndexLint_ok hS h0 rfl) (runs_plain rfl) bd16 rfl rfl ?_
  clear hE hS; rintro e w ⟨rfl, hS⟩; refine ⟨_, rfl, ?_⟩; clear a; intro a hE
  refine WL.vS hS hE (runs_plain rfl) (Gives.p hE rfl) rfl ?_; clear hE a; intro a hE
  refine WL.vS hS hE (runs_plain rfl) (Gives.p hE rfl) rfl ?_; clear hE a; intro a hE
  refine WL.nil ?_
  refine W.ret ?_
  refine finG (fn := Try.f50) (rs := [.tmp 4]) (vs := [_]) hE rfl ⟨rfl, trivial⟩ ?_
  subst hr
  exact ⟨rfl, hS⟩
set_option maxHeartbeats 8000000 in
theorem Fleetjudge_1_v1_ok  {w : World} {s : Sg} {R : List HP} {pb0 : Nat} {pb1 : Nat} {pb2 : Nat} {x0 : Int} {y0 : Int} {y1 : FleetLimits} {y2 : Int} (hS : St w s (pt pb0 (.cells #[.int .i64 y0] 3 (0, 0)) :: pt pb1 (.cells #[.int .i64 y1.Change, .int .i64 y1.Long, .int .i64 y1.Work, .int .i64 y1.After, .int .i64 y1.Break, .int .i64 y1.Rest, .int .i64 y1.Row] 35 (0, 0)) :: pt pb2 (.cells #[.int .i64 y2] 3 (0, 0)) :: R))  {r : Int} (hr : Fleetjudge_1_v1 x0 y0 y1 y2 = r) :
    Calls Try.prog 67 [.int .i64 x0, .pointer (some ⟨pb0, 0, none⟩), .pointer (some ⟨pb1, 0, none⟩), .pointer (some ⟨pb2, 0, none⟩)].toArray w (fun e w => e = .returned (.tuple #[]) ∧ St w s (pt pb0 (.cells #[.int .i64 y0] 3 (0, 0)) :: pt pb1 (.cells #[.int .i64 y1.Change, .int .i64 y1.Long, .int .i64 y1.Work, .int .i64 y1.After, .int .i64 y1.Break, .int .i64 y1.Rest, .int .i64 y1.Row] 35 (0, 0)) :: pt pb2 (.cells #[.int .i64 r] 3 (0, 0)) :: R)) := by
  refine enter Try.func67 rfl rfl rfl fun a hE => ?_
  rw [Fleetjudge_1_v1] at hr
  refine W.seq ?_
  refine W.region ?_
  refine WL.vS hS hE (runs_plain rfl) (Gives.p hE rfl) rfl ?_; clear hE a; intro a hE
  refine WL.vS hS hE (runs_plain rfl) (Gives.loadB hE 0 rfl rfl rfl ty3) rfl ?_; clear hE a; intro a hE
  refine WL.vS hS hE (runs_plain rfl) (Gives.p hE rfl) rfl ?_; clear hE a; intro a hE
  refine WL.vS hS hE (runs_plain rfl) (Gives.fld hE rfl fl35_3) rfl ?_; clear hE a; intro a hE
  refine WL.vS hS hE (runs_plain rfl) (Gives.loadB hE 1 rfl rfl rfl ty3) rfl ?_; clear hE a; intro a hE
  refine WL.vS hS hE (runs_plain rfl) (Gives.p hE rfl) rfl ?_; clear hE a; intro a hE
  refine WL.nil ?_
  obtain ⟨q53, hq52, hr⟩ := bndS hr
  refine W.cut (fun a w => ∃ (q56 : Int), q56 = q53 ∧ Rep a 11 [] ∧ St w s (pt pb0 (.cells #[.int .i64 y0] 3 (0, 0)) :: pt pb1 (.cells #[.int .i64 y1.Change, .int .i64 y1.Long, .int .i64 y1.Work, .int .i64 y1.After, .int .i64 y1.Break, .int .i64 y1.Rest, .int .i64 y1.Row] 35 (0, 0)) :: pt pb2 (.cells #[.int .i64 q56] 3 (0, 0)) :: R)) ?_ ?_
  · refine W.gen fun K57 hK57 => ?_
    refine W.cond hE rfl (fun hc58 => ?_) (fun hc58 => ?_)
    · replace hq52 := iteT hc58 hq52
      refine W.region ?_
      refine WL.storeI hE hS 2 rfl [.int .i64 4] (runs_plain rfl) rfl rfl rfl ty3 rfl rfl rfl rfl ?_; clear hE hS a w; intro a w hE hS
      refine WL.nil ?_
      subst hK57
      exact ⟨4, hq52, hE.pick _ trivial, hS⟩
    · replace hq52 := iteF hc58 hq52
      refine W.skip ?_
      subst hK57
      exact ⟨y2, hq52, hE.pick _ trivial, hS⟩
  · clear hE hS a w; rintro a w ⟨q56, rfl, hE, hS⟩
    refine finG (fn := Try.f67) (rs := []) (vs := []) hE rfl trivial ?_
    subst hr
    exact ⟨rfl, hS⟩
set_option maxHeartbeats 8000000 in
theorem Fleetjudge_ok  {w : World} {s : Sg} {R : List HP} {x0 : List FleetTask} {a0 : Option Addr} {c0 : Nat} {x1 : List Int} {a1 : Option Addr} {c1 : Nat} {x2 : FleetLimits} (hS : St w s (R)) (h0 : Sl 6 RFleetTask s a0 c0 x0) (h1 : Sl 1 (RI .i64) s a1 c1 x1) {r : Int} (hr : Fleetjudge x0 x1 x2 = some r) :
    Calls Try.prog 53 [.slice a0 x0.length c0, .slice a1 x1.length c1, .agg (FleetLimits.cells x2).toArray].toArray w (fun e w => e = .returned (.int .i64 r) ∧ St w s (R)) := by
  refine enter Try.func53 rfl rfl rfl fun a hE => ?_
  rw [Fleetjudge] at hr
  refine W.seq ?_
  refine W.region ?_
  refine WL.box hE hS (runs_plain rfl) rfl rfl rfl ?_; clear hE hS a w; intro b51 a w hE hS
  refine WL.vS hS hE (runs_plain rfl) (Gives.p hE rfl) rfl ?_; clear hE a; intro a hE
  refine WL.nil ?_
  refine W.seq ?_
  refine W.gen fun K52 hK52 => ?_
  refine W.regionE (sel (fun w => St w s (pt b51 (.cells (FleetLimits.cells x2).toArray 35 (0, 0)) :: R)) (fun w => St w s (pt b51 (.cells (FleetLimits.cells x2).toArray 35 (0, 0)) :: R))) (fun b i => cond b ([0, 1, 2, 3, 4, 5, 6, 7, 8, 9, 10, 11, 12, 13, 14, 15, 16, 17, 18].contains i) ([0, 1, 2, 3, 4, 5, 6, 7, 8, 9, 10, 11, 12, 13, 14, 15, 16, 17, 18].contains i)) mixed ?_
  replace hS := hS.drew
  refine Rg.takeP (i := 0) hE rfl (by kernel_rfl) (runs_plain rfl) (Gives.p hE rfl) rfl (tw_sel (fun _ => hS) (fun _ => hS)) ?_; clear hE a; intro a hE
  refine Rg.takeP (i := 1) hE rfl (by kernel_rfl) (runs_plain rfl) (Gives.p hE rfl) rfl (tw_sel (fun _ => hS) (fun _ => hS)) ?_; clear hE a; intro a hE
  obtain ⟨x53, hx54, hr⟩ := bindS hr
  obtain ⟨hi55, hlt56, hy57⟩ := gx_some hx54
  obtain ⟨cs58, hl59, hR60, hat61⟩ := h1.at hy57
  subst hR60
  refine Rg.takeP (i := 2) hE rfl (by kernel_rfl) (runs_plain rfl) (Gives.idx hE ((0 : Int)).toNat rfl rfl sl22 hi55 hlt56 (h1.aok hlt56)) rfl (tw_sel (fun _ => hS) (fun _ => hS)) ?_; clear hE a; intro a hE
  have hT := tw_sel (A := fun w => St w s (pt b51 (.cells (FleetLimits.cells x2).toArray 35 (0, 0)) :: R)) (B := fun w => St w s (pt b51 (.cells (FleetLimits.cells x2).toArray 35 (0, 0)) :: R)) (w := _) (x := true) (y := true) (fun _ => hS) (fun _ => hS)
  have hF := hS; replace hS := hS
  refine Rg.take (i := 3) true rfl hE rfl (by kernel_rfl) (runs_plain rfl) (Gives.load1 hE rfl (fun w h => hat61 w _ h) ty3) rfl hT ?_; clear hE a; intro a hE
  replace hS := hF; clear hF hT
  obtain ⟨x62, hx63, hr⟩ := bindS hr
  obtain ⟨hi64, hlt65, hy66⟩ := gx_some hx63
  obtain ⟨cs67, hl68, hR69, hat70⟩ := h0.at hy66
  subst hR69
  refine Rg.takeP (i := 4) hE rfl (by kernel_rfl) (runs_plain rfl) (Gives.idx hE (x53).toNat rfl rfl sl33 hi64 hlt65 (h0.aok hlt65)) rfl (tw_sel (fun _ => hS) (fun _ => hS)) ?_; clear hE a; intro a hE
  have hT := tw_sel (A := fun w => St w s (pt b51 (.cells (FleetLimits.cells x2).toArray 35 (0, 0)) :: R)) (B := fun w => St w s (pt b51 (.cells (FleetLimits.cells x2).toArray 35 (0, 0)) :: R)) (w := _) (x := true) (y := true) (fun _ => hS) (fun _ => hS)
  have hF := hS; replace hS := hS
  refine Rg.take (i := 5) true rfl hE rfl (by kernel_rfl) (runs_plain rfl) (Gives.loadA hE rfl (fun w h => hat70 w _ h) ty84) rfl hT ?_; clear hE a; intro a hE
  replace hS := hF; clear hF hT
  refine Rg.takeP (i := 6) hE rfl (by kernel_rfl) (runs_plain rfl) (Gives.p hE rfl) rfl (tw_sel (fun _ => hS) (fun _ => hS)) ?_; clear hE a; intro a hE
  refine Rg.takeP (i := 7) hE rfl (by kernel_rfl) (runs_plain rfl) (Gives.p hE rfl) rfl (tw_sel (fun _ => hS) (fun _ => hS)) ?_; clear hE a; intro a hE
  refine Rg.takeP (i := 8) hE rfl (by kernel_rfl) (runs_plain rfl) (Gives.p hE rfl) rfl (tw_sel (fun _ => hS) (fun _ => hS)) ?_; clear hE a; intro a hE
  refine Rg.takeP (i := 9) hE rfl (by kernel_rfl) (runs_plain rfl) (Gives.len hE rfl sl22) rfl (tw_sel (fun _ => hS) (fun _ => hS)) ?_; clear hE a; intro a hE
  refine Rg.takeP (i := 10) hE rfl (by kernel_rfl) (runs_plain rfl) (Gives.p hE rfl) rfl (tw_sel (fun _ => hS) (fun _ => hS)) ?_; clear hE a; intro a hE
  obtain ⟨x71, hx72, hr⟩ := bindS hr
  obtain ⟨hi73, hlt74, hy75⟩ := gx_some hx72
  obtain ⟨cs76, hl77, hR78, hat79⟩ := h1.at hy75
  subst hR78
  refine Rg.takeP (i := 11) hE rfl (by kernel_rfl) (runs_plain rfl) (Gives.idx hE (w64 (((x1).length : Int) - 1)).toNat rfl rfl sl22 hi73 hlt74 (h1.aok hlt74)) rfl (tw_sel (fun _ => hS) (fun _ => hS)) ?_; clear hE a; intro a hE
  have hT := tw_sel (A := fun w => St w s (pt b51 (.cells (FleetLimits.cells x2).toArray 35 (0, 0)) :: R)) (B := fun w => St w s (pt b51 (.cells (FleetLimits.cells x2).toArray 35 (0, 0)) :: R)) (w := _) (x := true) (y := true) (fun _ => hS) (fun _ => hS)
  have hF := hS; replace hS := hS
  refine Rg.take (i := 12) true rfl hE rfl (by kernel_rfl) (runs_plain rfl) (Gives.load1 hE rfl (fun w h => hat79 w _ h) ty3) rfl hT ?_; clear hE a; intro a hE
  replace hS := hF; clear hF hT
  obtain ⟨x80, hx81, hr⟩ := bindS hr
  obtain ⟨hi82, hlt83, hy84⟩ := gx_some hx81
  obtain ⟨cs85, hl86, hR87, hat88⟩ := h0.at hy84
  subst hR87
  refine Rg.takeP (i := 13) hE rfl (by kernel_rfl) (runs_plain rfl) (Gives.idx hE (x71).toNat rfl rfl sl33 hi82 hlt83 (h0.aok hlt83)) rfl (tw_sel (fun _ => hS) (fun _ => hS)) ?_; clear hE a; intro a hE
  have hT := tw_sel (A := fun w => St w s (pt b51 (.cells (FleetLimits.cells x2).toArray 35 (0, 0)) :: R)) (B := fun w => St w s (pt b51 (.cells (FleetLimits.cells x2).toArray 35 (0, 0)) :: R)) (w := _) (x := true) (y := true) (fun _ => hS) (fun _ => hS)
  have hF := hS; replace hS := hS
  refine Rg.take (i := 14) true rfl hE rfl (by kernel_rfl) (runs_plain rfl) (Gives.loadA hE rfl (fun w h => hat88 w _ h) ty84) rfl hT ?_; clear hE a; intro a hE
  replace hS := hF; clear hF hT
  suffices key : ∀ (b89 b90 : Nat) (a : Act) (w : World), Rep a 121 [(0, .slice a0 x0.length c0), (1, .slice a1 x1.length c1), (5, .pointer (some ⟨b51, 0, none⟩)), (7, .pointer (some ⟨b89, 0, none⟩)), (8, .pointer (some ⟨b90, 0, none⟩))] → St w s (pt b90 (.cells (FleetTask.cells x80).toArray 84 (0, 0)) :: pt b89 (.cells (FleetTask.cells x62).toArray 84 (0, 0)) :: pt b51 (.cells (FleetLimits.cells x2).toArray 35 (0, 0)) :: R) → K52.nor a w by
    refine Rg.two (i := 15) (j := 16) true true true true rfl rfl (by kernel_rfl) (by kernel_rfl) (by kernel_rfl) (by kernel_rfl) (by kernel_rfl) ?_ ?_
    · refine WL.alloc hE hS (runs_plain rfl) zr84 rfl ?_; clear hE hS a w; intro b89 a w hE hS
      refine WL.nil ?_
      refine ⟨⟨fun _ => (hS.tail), fun _ => (hS.tail)⟩, ?_⟩
      refine Rg.one (i := 16) true true rfl (by kernel_rfl) (by kernel_rfl) (by kernel_rfl) ?_
      refine WL.alloc hE hS (runs_plain rfl) zr84 rfl ?_; clear hE hS a w; intro b90 a w hE hS
      refine WL.nil ?_
      refine ⟨⟨fun _ => ((hS.tail).tail), fun _ => ((hS.tail).tail)⟩, ?_⟩
      refine Rg.one (i := 17) true true rfl (by kernel_rfl) (by kernel_rfl) (by kernel_rfl) ?_
      refine WL.storeI hE hS 1 rfl (FleetTask.cells x62) (runs_plain rfl) rfl rfl rfl ty84 rfl rfl rfl rfl ?_; clear hE hS a w; intro a w hE hS
      refine WL.nil ?_
      refine ⟨⟨fun _ => ((hS.tail).tail), fun _ => ((hS.tail).tail)⟩, ?_⟩
      refine Rg.one (i := 18) true true rfl (by kernel_rfl) (by kernel_rfl) (by kernel_rfl) ?_
      refine WL.storeI hE hS 0 rfl (FleetTask.cells x80) (runs_plain rfl) rfl rfl rfl ty84 rfl rfl rfl rfl ?_; clear hE hS a w; intro a w hE hS
      refine WL.nil ?_
      refine ⟨⟨fun _ => ((hS.tail).tail), fun _ => ((hS.tail).tail)⟩, ?_⟩
      refine Rg.done (by kernel_rfl) ?_
      exact key b89 b90 _ _ (hE.pick _ ⟨rfl, rfl, rfl, rfl, rfl, trivial⟩) hS
    · refine WL.alloc hE hS (runs_plain rfl) zr84 rfl ?_; clear hE hS a w; intro b91 a w hE hS
      refine WL.nil ?_
      refine ⟨⟨fun _ => (hS.tail), fun _ => (hS.tail)⟩, ?_⟩
      refine Rg.one (i := 15) true true rfl (by kernel_rfl) (by kernel_rfl) (by kernel_rfl) ?_
      refine WL.alloc hE hS (runs_plain rfl) zr84 rfl ?_; clear hE hS a w; intro b92 a w hE hS
      refine WL.nil ?_
      refine ⟨⟨fun _ => ((hS.tail).tail), fun _ => ((hS.tail).tail)⟩, ?_⟩
      refine Rg.one (i := 17) true true rfl (by kernel_rfl) (by kernel_rfl) (by kernel_rfl) ?_
      refine WL.storeI hE hS 0 rfl (FleetTask.cells x62) (runs_plain rfl) rfl rfl rfl ty84 rfl rfl rfl rfl ?_; clear hE hS a w; intro a w hE hS
      refine WL.nil ?_
      refine ⟨⟨fun _ => ((hS.tail).tail), fun _ => ((hS.tail).tail)⟩, ?_⟩
      refine Rg.one (i := 18) true true rfl (by kernel_rfl) (by kernel_rfl) (by kernel_rfl) ?_
      refine WL.storeI hE hS 1 rfl (FleetTask.cells x80) (runs_plain rfl) rfl rfl rfl ty84 rfl rfl rfl rfl ?_; clear hE hS a w; intro a w hE hS
      refine WL.nil ?_
      refine ⟨⟨fun _ => ((hS.tail).tail), fun _ => ((hS.tail).tail)⟩, ?_⟩
      refine Rg.done (by kernel_rfl) ?_
      replace hS := hS.front 2 rfl
      replace hS := hS.front 1 rfl
      replace hS := hS.front 2 rfl
      exact key b92 b91 _ _ (hE.pick _ ⟨rfl, rfl, rfl, rfl, rfl, trivial⟩) hS
  clear hE hS a w; intro b89 b90 a w hE hS
  subst hK52
  refine W.seq ?_
  refine W.region ?_
  refine WL.alloc hE hS (runs_plain rfl) zr3 rfl ?_; clear hE hS a w; intro b93 a w hE hS
  refine WL.vS hS hE (runs_plain rfl) (Gives.p hE rfl) rfl ?_; clear hE a; intro a hE
  refine WL.storeI hE hS 0 rfl [.int .i64 0] (runs_plain rfl) rfl rfl rfl ty3 rfl rfl rfl rfl ?_; clear hE hS a w; intro a w hE hS
  refine WL.nil ?_
  refine W.seq ?_
  refine W.region ?_
  refine WL.vS hS hE (runs_plain rfl) (Gives.fld hE rfl fl84_2) rfl ?_; clear hE a; intro a hE
  refine WL.vS hS hE (runs_plain rfl) (Gives.loadB hE 2 rfl rfl rfl ty3) rfl ?_; clear hE a; intro a hE
  refine WL.alloc hE hS (runs_plain rfl) zr3 rfl ?_; clear hE hS a w; intro b94 a w hE hS
  refine WL.storeI hE hS 0 rfl [.int .i64 x62.Dep] (runs_plain rfl) rfl rfl rfl ty3 rfl rfl rfl rfl ?_; clear hE hS a w; intro a w hE hS
  refine WL.nil ?_
  refine W.seq ?_
  refine W.region ?_
  refine WL.vS hS hE (runs_plain rfl) (Gives.mkfn hE (vs := [.pointer (some ⟨b94, 0, none⟩), .pointer (some ⟨b51, 0, none⟩), .pointer (some ⟨b93, 0, none⟩)]) rfl) rfl ?_; clear hE a; intro a hE
  refine WL.vS hS hE (runs_plain rfl) (Gives.p hE rfl) rfl ?_; clear hE a; intro a hE
  refine WL.nil ?_
  refine W.seq ?_
  refine W.seq ?_
  refine W.region ?_
  refine WL.vS hS hE (runs_plain rfl) (Gives.p hE rfl) rfl ?_; clear hE a; intro a hE
  refine WL.vS hS hE (runs_plain rfl) (Gives.len hE rfl sl22) rfl ?_; clear hE a; intro a hE
  refine WL.vS hS hE (runs_plain rfl) (Gives.p hE rfl) rfl ?_; clear hE a; intro a hE
  refine WL.nil ?_
  obtain ⟨q96, hq95, hr⟩ := bindS hr
  refine W.cut (fun a w => ∃ (q106 : Int), ∃ (q107 : Int), ∃ (q108 : Int), (.next (q106, q107, q108)) = q96 ∧ Rep a 121 [(5, .pointer (some ⟨b51, 0, none⟩)), (7, .pointer (some ⟨b89, 0, none⟩)), (8, .pointer (some ⟨b90, 0, none⟩)), (9, .int .i64 q106), (10, .pointer (some ⟨b93, 0, none⟩)), (12, .func (.func 67) #[] #[.pointer (some ⟨b94, 0, none⟩), .pointer (some ⟨b51, 0, none⟩), .pointer (some ⟨b93, 0, none⟩)])] ∧ St w s (pt b94 (.cells #[.int .i64 q108] 3 (0, 0)) :: pt b93 (.cells #[.int .i64 q107] 3 (0, 0)) :: pt b90 (.cells (FleetTask.cells x80).toArray 84 (0, 0)) :: pt b89 (.cells (FleetTask.cells x62).toArray 84 (0, 0)) :: pt b51 (.cells (FleetLimits.cells x2).toArray 35 (0, 0)) :: R)) ?_ ?_
  · refine W.block ?_
    refine W.loop (fun m a w => ∃ (rest99 : List Int) (k97 : Nat), ∃ (q106 : Int), ∃ (q107 : Int), ∃ (q108 : Int), rest99.length = m ∧ x1.drop k97 = rest99 ∧ Fleetjudge.loop1 x0 x1 x2 rest99 k97 q106 q107 q108 = some q96 ∧ Rep a 121 [(0, .slice a0 x0.length c0), (1, .slice a1 x1.length c1), (5, .pointer (some ⟨b51, 0, none⟩)), (7, .pointer (some ⟨b89, 0, none⟩)), (8, .pointer (some ⟨b90, 0, none⟩)), (9, .int .i64 q106), (10, .pointer (some ⟨b93, 0, none⟩)), (11, .pointer (some ⟨b94, 0, none⟩)), (12, .func (.func 67) #[] #[.pointer (some ⟨b94, 0, none⟩), .pointer (some ⟨b51, 0, none⟩), .pointer (some ⟨b93, 0, none⟩)]), (35, .slice a1 x1.length c1), (36, .int .i64 ((x1).length : Int)), (37, .int .i64 ((k97 : Nat) : Int))] ∧ St w s (pt b94 (.cells #[.int .i64 q108] 3 (0, 0)) :: pt b93 (.cells #[.int .i64 q107] 3 (0, 0)) :: pt b90 (.cells (FleetTask.cells x80).toArray 84 (0, 0)) :: pt b89 (.cells (FleetTask.cells x62).toArray 84 (0, 0)) :: pt b51 (.cells (FleetLimits.cells x2).toArray 35 (0, 0)) :: R)) (m := x1.length) ⟨x1, 0, 0, 0, x62.Dep, rfl, rfl, hq95, hE.pick _ ⟨rfl, rfl, rfl, rfl, rfl, rfl, rfl, rfl, rfl, rfl, rfl, rfl, trivial⟩, hS⟩ ?_
    clear hE hS a w hq95; rintro m103 a w ⟨rest99, k97, q106, q107, q108, rfl, hd100, hq95, hE, hS⟩
    refine W.gen fun K109 hK109 => ?_
    rcases rest99 with _ | ⟨x98, rest99⟩
    · have hlt101 := drop_nil hd100
      refine W.seq ?_
      refine W.region ?_
      refine WL.vS hS hE (runs_plain rfl) (Gives.p hE rfl) rfl ?_; clear hE a; intro a hE
      refine WL.nil ?_
      refine W.seq ?_
      refine W.condF hE rfl (decide_eq_false (by omega)) ?_
      subst hK109
      refine W.exit rfl ?_
      exact ⟨q106, q107, q108, Option.some.inj hq95, hE.pick _ ⟨rfl, rfl, rfl, rfl, rfl, rfl, trivial⟩, hS⟩
    · obtain ⟨hlt101, hx102, hd100⟩ := drop_cons hd100
      rw [Fleetjudge.loop1] at hq95
      refine W.seq ?_
      refine W.region ?_
      refine WL.vS hS hE (runs_plain rfl) (Gives.p hE rfl) rfl ?_; clear hE a; intro a hE
      refine WL.nil ?_
      refine W.seq ?_
      refine W.condT hE rfl (decide_eq_true (by omega)) ?_
      refine W.skip ?_
      refine W.seq ?_
      refine W.block ?_
      refine W.seq ?_
      refine W.region ?_
      refine WL.vS hS hE (runs_plain rfl) (Gives.p hE rfl) rfl ?_; clear hE a; intro a hE
      obtain ⟨cs110, hl111, hR112, hat113⟩ := h1.at hx102
      subst hR112
      refine WL.vS hS hE (runs_plain rfl) (Gives.idx hE k97 rfl rfl sl22 rfl hlt101 (h1.aok hlt101)) rfl ?_; clear hE a; intro a hE
      refine WL.vS hS hE (runs_plain rfl) (Gives.load1 hE rfl (fun w h => hat113 w _ h) ty3) rfl ?_; clear hE a; intro a hE
      refine WL.vS hS hE (runs_plain rfl) (Gives.p hE rfl) rfl ?_; clear hE a; intro a hE
      refine WL.vS hS hE (runs_plain rfl) (Gives.p hE rfl) rfl ?_; clear hE a; intro a hE
      refine WL.nil ?_
      refine W.seq ?_
      refine W.region ?_
      refine WL.vS hS hE (runs_plain rfl) (Gives.p hE rfl) rfl ?_; clear hE a; intro a hE
      refine WL.vS hS hE (runs_plain rfl) (Gives.p hE rfl) rfl ?_; clear hE a; intro a hE
      obtain ⟨x114, hx115, hq95⟩ := bindS hq95
      obtain ⟨hi116, hlt117, hy118⟩ := gx_some hx115
      obtain ⟨cs119, hl120, hR121, hat122⟩ := h0.at hy118
      subst hR121
      refine WL.vS hS hE (runs_plain rfl) (Gives.idx hE (x98).toNat rfl rfl sl33 hi116 hlt117 (h0.aok hlt117)) rfl ?_; clear hE a; intro a hE
      refine WL.vS hS hE (runs_plain rfl) (Gives.loadA hE rfl (fun w h => hat122 w _ h) ty84) rfl ?_; clear hE a; intro a hE
      refine WL.alloc hE hS (runs_plain rfl) zr84 rfl ?_; clear hE hS a w; intro b123 a w hE hS
      refine WL.storeI hE hS 0 rfl (FleetTask.cells x114) (runs_plain rfl) rfl rfl rfl ty84 rfl rfl rfl rfl ?_; clear hE hS a w; intro a w hE hS
      refine WL.nil ?_
      refine W.seq ?_
      refine W.region ?_
      refine WL.vS hS hE (runs_plain rfl) (Gives.p hE rfl) rfl ?_; clear hE a; intro a hE
      refine WL.vS hS hE (runs_plain rfl) (Gives.fld hE rfl fl84_3) rfl ?_; clear hE a; intro a hE
      refine WL.vS hS hE (runs_plain rfl) (Gives.loadB hE 0 rfl rfl rfl ty3) rfl ?_; clear hE a; intro a hE
      refine WL.vS hS hE (runs_plain rfl) (Gives.fld hE rfl fl84_2) rfl ?_; clear hE a; intro a hE
      refine WL.vS hS hE (runs_plain rfl) (Gives.loadB hE 0 rfl rfl rfl ty3) rfl ?_; clear hE a; intro a hE
      refine WL.vS hS hE (runs_plain rfl) (Gives.p hE rfl) rfl ?_; clear hE a; intro a hE
      refine WL.vS hS hE (runs_plain rfl) (Gives.p hE rfl) rfl ?_; clear hE a; intro a hE
      refine WL.vS hS hE (runs_plain rfl) (Gives.p hE rfl) rfl ?_; clear hE a; intro a hE
      refine WL.nil ?_
      refine W.seq ?_
      refine W.seq ?_
      refine W.region ?_
      refine WL.vS hS hE (runs_plain rfl) (Gives.p hE rfl) rfl ?_; clear hE a; intro a hE
      refine WL.vS hS hE (runs_plain rfl) (Gives.p hE rfl) rfl ?_; clear hE a; intro a hE
      refine WL.nil ?_
      refine W.cond hE rfl (fun hc124 => ?_) (fun hc124 => ?_)
      · replace hq95 := iteT hc124 hq95
        refine W.exit rfl ?_
        refine W.region ?_
        refine WL.vS hS hE (runs_plain rfl) (Gives.inc hE rfl (by have := h1.small; omega)) rfl ?_; clear hE a; intro a hE
        refine WL.vS hS hE (runs_plain rfl) (Gives.p hE rfl) rfl ?_; clear hE a; intro a hE
        refine WL.nil ?_
        replace hS := hS.tail
        subst hK109
        exact ⟨rest99.length, Nat.lt_succ_self _, rest99, k97 + 1, (w64 (q106 + (w64 (x114.Arr - x114.Dep)))), q107, q108, rfl, hd100, hq95, hE.pick _ ⟨rfl, rfl, rfl, rfl, rfl, rfl, rfl, rfl, rfl, rfl, rfl, rfl, trivial⟩, hS⟩
      · replace hq95 := iteF hc124 hq95
        refine W.skip ?_
        refine W.seq ?_
        refine W.region ?_
        refine WL.vS hS hE (runs_plain rfl) (Gives.p hE rfl) rfl ?_; clear hE a; intro a hE
        refine WL.vS hS hE (runs_plain rfl) (Gives.p hE rfl) rfl ?_; clear hE a; intro a hE
        refine WL.vS hS hE (runs_plain rfl) (Gives.p hE rfl) rfl ?_; clear hE a; intro a hE
        refine WL.vS hS hE (runs_plain rfl) (Gives.p hE rfl) rfl ?_; clear hE a; intro a hE
        obtain ⟨x125, hx126, hq95⟩ := bindS hq95
        obtain ⟨hi127, hlt128, hy129⟩ := gx_some hx126
        obtain ⟨cs130, hl131, hR132, hat133⟩ := h1.at hy129
        subst hR132
        refine WL.vS hS hE (runs_plain rfl) (Gives.idx hE (w64 (((k97 : Nat) : Int) - 1)).toNat rfl rfl sl22 hi127 hlt128 (h1.aok hlt128)) rfl ?_; clear hE a; intro a hE
        refine WL.vS hS hE (runs_plain rfl) (Gives.load1 hE rfl (fun w h => hat133 w _ h) ty3) rfl ?_; clear hE a; intro a hE
        obtain ⟨x134, hx135, hq95⟩ := bindS hq95
        obtain ⟨hi136, hlt137, hy138⟩ := gx_some hx135
        obtain ⟨cs139, hl140, hR141, hat142⟩ := h0.at hy138
        subst hR141
        refine WL.vS hS hE (runs_plain rfl) (Gives.idx hE (x125).toNat rfl rfl sl33 hi136 hlt137 (h0.aok hlt137)) rfl ?_; clear hE a; intro a hE
        refine WL.vS hS hE (runs_plain rfl) (Gives.loadA hE rfl (fun w h => hat142 w _ h) ty84) rfl ?_; clear hE a; intro a hE
        refine WL.alloc hE hS (runs_plain rfl) zr84 rfl ?_; clear hE hS a w; intro b143 a w hE hS
        refine WL.storeI hE hS 0 rfl (FleetTask.cells x134) (runs_plain rfl) rfl rfl rfl ty84 rfl rfl rfl rfl ?_; clear hE hS a w; intro a w hE hS
        refine WL.nil ?_
        refine W.seq ?_
        refine W.seq ?_
        obtain ⟨q145, hq144, hq95⟩ := bndS hq95
        refine W.cut (fun a w => ∃ (q148 : Bool), q148 = q145 ∧ Rep a 121 [(0, .slice a0 x0.length c0), (1, .slice a1 x1.length c1), (5, .pointer (some ⟨b51, 0, none⟩)), (7, .pointer (some ⟨b89, 0, none⟩)), (8, .pointer (some ⟨b90, 0, none⟩)), (9, .int .i64 (w64 (q106 + (w64 (x114.Arr - x114.Dep))))), (10, .pointer (some ⟨b93, 0, none⟩)), (11, .pointer (some ⟨b94, 0, none⟩)), (12, .func (.func 67) #[] #[.pointer (some ⟨b94, 0, none⟩), .pointer (some ⟨b51, 0, none⟩), .pointer (some ⟨b93, 0, none⟩)]), (15, .pointer (some ⟨b123, 0, none⟩)), (16, .pointer (some ⟨b143, 0, none⟩)), (35, .slice a1 x1.length c1), (36, .int .i64 ((x1).length : Int)), (37, .int .i64 ((k97 : Nat) : Int)), (77, .bool q148)] ∧ St w s (pt b143 (.cells (FleetTask.cells x134).toArray 84 (0, 0)) :: pt b123 (.cells (FleetTask.cells x114).toArray 84 (0, 0)) :: pt b94 (.cells #[.int .i64 q108] 3 (0, 0)) :: pt b93 (.cells #[.int .i64 q107] 3 (0, 0)) :: pt b90 (.cells (FleetTask.cells x80).toArray 84 (0, 0)) :: pt b89 (.cells (FleetTask.cells x62).toArray 84 (0, 0)) :: pt b51 (.cells (FleetLimits.cells x2).toArray 35 (0, 0)) :: R)) ?_ ?_
        · refine W.gen fun K149 hK149 => ?_
          refine W.region ?_
          refine WL.vS hS hE (runs_plain rfl) (Gives.fld hE rfl fl84_0) rfl ?_; clear hE a; intro a hE
          refine WL.vS hS hE (runs_plain rfl) (Gives.loadB hE 1 rfl rfl rfl ty3) rfl ?_; clear hE a; intro a hE
          refine WL.vS hS hE (runs_plain rfl) (Gives.fld hE rfl fl84_1) rfl ?_; clear hE a; intro a hE
          refine WL.vS hS hE (runs_plain rfl) (Gives.loadB hE 0 rfl rfl rfl ty3) rfl ?_; clear hE a; intro a hE
          refine WL.vS hS hE (runs_plain rfl) (Gives.p hE rfl) rfl ?_; clear hE a; intro a hE
          refine WL.vS hS hE (runs_plain rfl) (Gives.p hE rfl) rfl ?_; clear hE a; intro a hE
          rcases Bool.eq_false_or_eq_true (x114.From != x134.To) with hg150 | hg150
          · replace hq144 := iteT hg150 hq144
            refine WL.no hE (runs_not hE rfl rfl rfl (by rw [hg150]; decide)) rfl ?_; clear hE a; intro a hE
            refine WL.no hE (runs_not hE rfl rfl rfl (by rw [hg150]; decide)) rfl ?_; clear hE a; intro a hE
            refine WL.no hE (runs_not hE rfl rfl rfl (by rw [hg150]; decide)) rfl ?_; clear hE a; intro a hE
            refine WL.no hE (runs_not hE rfl rfl rfl (by rw [hg150]; decide)) rfl ?_; clear hE a; intro a hE
            refine WL.no hE (runs_not hE rfl rfl rfl (by rw [hg150]; decide)) rfl ?_; clear hE a; intro a hE
            refine WL.no hE (runs_not hE rfl rfl rfl (by rw [hg150]; decide)) rfl ?_; clear hE a; intro a hE
            refine WL.no hE (runs_not hE rfl rfl rfl (by rw [hg150]; decide)) rfl ?_; clear hE a; intro a hE
            refine WL.no hE (runs_not hE rfl rfl rfl (by rw [hg150]; decide)) rfl ?_; clear hE a; intro a hE
            refine WL.vS hS hE (runs_plain rfl) (Gives.pickT hE rfl hg150 rfl) rfl ?_; clear hE a; intro a hE
            refine WL.nil ?_
            subst hK149
            exact ⟨true, hq144, hE.pick _ ⟨rfl, rfl, rfl, rfl, rfl, rfl, rfl, rfl, rfl, rfl, rfl, rfl, rfl, rfl, rfl, trivial⟩, hS⟩
          · replace hq144 := iteF hg150 hq144
            refine WL.vS hS hE (runs_if hE rfl rfl rfl hg150) (Gives.fld hE rfl fl84_2) rfl ?_; clear hE a; intro a hE
            refine WL.vS hS hE (runs_if hE rfl rfl rfl hg150) (Gives.loadB hE 1 rfl rfl rfl ty3) rfl ?_; clear hE a; intro a hE
            refine WL.vS hS hE (runs_if hE rfl rfl rfl hg150) (Gives.fld hE rfl fl84_3) rfl ?_; clear hE a; intro a hE
            refine WL.vS hS hE (runs_if hE rfl rfl rfl hg150) (Gives.loadB hE 0 rfl rfl rfl ty3) rfl ?_; clear hE a; intro a hE
            refine WL.vS hS hE (runs_if hE rfl rfl rfl hg150) (Gives.fld hE rfl fl35_0) rfl ?_; clear hE a; intro a hE
            refine WL.vS hS hE (runs_if hE rfl rfl rfl hg150) (Gives.loadB hE 6 rfl rfl rfl ty3) rfl ?_; clear hE a; intro a hE
            refine WL.vS hS hE (runs_if hE rfl rfl rfl hg150) (Gives.p hE rfl) rfl ?_; clear hE a; intro a hE
            refine WL.vS hS hE (runs_if hE rfl rfl rfl hg150) (Gives.p hE rfl) rfl ?_; clear hE a; intro a hE
            refine WL.vS hS hE (runs_plain rfl) (Gives.pickF hE rfl hg150 rfl) rfl ?_; clear hE a; intro a hE
            refine WL.nil ?_
            subst hK149
            exact ⟨decide (x114.Dep < (w64 (x134.Arr + x2.Change))), hq144, hE.pick _ ⟨rfl, rfl, rfl, rfl, rfl, rfl, rfl, rfl, rfl, rfl, rfl, rfl, rfl, rfl, rfl, trivial⟩, hS⟩
        · clear hE hS a w; rintro a w ⟨q148, rfl, hE, hS⟩
          refine W.cond hE rfl (fun hc151 => ?_) (fun hc151 => ?_)
          · replace hq95 := iteT hc151 hq95
            refine W.seq ?_
            refine W.region ?_
            refine WL.vS hS hE (runs_plain rfl) (Gives.p hE rfl) rfl ?_; clear hE a; intro a hE
            refine WL.nil ?_
            refine W.ret ?_
            subst hK109
            rw [← Option.some.inj hq95] at hr
            dsimp only at hr
            refine finG (fn := Try.f53) (rs := [.tmp 6]) (vs := [_]) hE rfl ⟨rfl, trivial⟩ ?_
            obtain rfl := Option.some.inj hr
            replace hS := hS.tail
            replace hS := hS.tail
            replace hS := hS.tail
            replace hS := hS.tail
            replace hS := hS.tail
            replace hS := hS.tail
            replace hS := hS.tail
            exact ⟨rfl, hS⟩
          · replace hq95 := iteF hc151 hq95
            refine W.skip ?_
            refine W.seq ?_
            refine W.region ?_
            refine WL.vS hS hE (runs_plain rfl) (Gives.fld hE rfl fl84_2) rfl ?_; clear hE a; intro a hE
            refine WL.vS hS hE (runs_plain rfl) (Gives.loadB hE 1 rfl rfl rfl ty3) rfl ?_; clear hE a; intro a hE
            refine WL.vS hS hE (runs_plain rfl) (Gives.fld hE rfl fl84_3) rfl ?_; clear hE a; intro a hE
            refine WL.vS hS hE (runs_plain rfl) (Gives.loadB hE 0 rfl rfl rfl ty3) rfl ?_; clear hE a; intro a hE
            refine WL.vS hS hE (runs_plain rfl) (Gives.p hE rfl) rfl ?_; clear hE a; intro a hE
            refine WL.vS hS hE (runs_plain rfl) (Gives.fld hE rfl fl35_4) rfl ?_; clear hE a; intro a hE
            refine WL.vS hS hE (runs_plain rfl) (Gives.loadB hE 6 rfl rfl rfl ty3) rfl ?_; clear hE a; intro a hE
            refine WL.vS hS hE (runs_plain rfl) (Gives.p hE rfl) rfl ?_; clear hE a; intro a hE
            refine WL.nil ?_
            obtain ⟨q153, hq152, hq95⟩ := bndS hq95
            refine W.cut (fun a w => ∃ (q156 : Int), ∃ (q157 : Int), (q156, q157) = q153 ∧ Rep a 121 [(0, .slice a0 x0.length c0), (1, .slice a1 x1.length c1), (5, .pointer (some ⟨b51, 0, none⟩)), (7, .pointer (some ⟨b89, 0, none⟩)), (8, .pointer (some ⟨b90, 0, none⟩)), (9, .int .i64 (w64 (q106 + (w64 (x114.Arr - x114.Dep))))), (10, .pointer (some ⟨b93, 0, none⟩)), (11, .pointer (some ⟨b94, 0, none⟩)), (12, .func (.func 67) #[] #[.pointer (some ⟨b94, 0, none⟩), .pointer (some ⟨b51, 0, none⟩), .pointer (some ⟨b93, 0, none⟩)]), (35, .slice a1 x1.length c1), (36, .int .i64 ((x1).length : Int)), (37, .int .i64 ((k97 : Nat) : Int))] ∧ St w s (pt b143 (.cells (FleetTask.cells x134).toArray 84 (0, 0)) :: pt b123 (.cells (FleetTask.cells x114).toArray 84 (0, 0)) :: pt b94 (.cells #[.int .i64 q157] 3 (0, 0)) :: pt b93 (.cells #[.int .i64 q156] 3 (0, 0)) :: pt b90 (.cells (FleetTask.cells x80).toArray 84 (0, 0)) :: pt b89 (.cells (FleetTask.cells x62).toArray 84 (0, 0)) :: pt b51 (.cells (FleetLimits.cells x2).toArray 35 (0, 0)) :: R)) ?_ ?_
            · refine W.gen fun K158 hK158 => ?_
              refine W.cond hE rfl (fun hc159 => ?_) (fun hc159 => ?_)
              · replace hq152 := iteT hc159 hq152
                refine W.seq ?_
                refine W.region ?_
                refine WL.vS hS hE (runs_plain rfl) (Gives.p hE rfl) rfl ?_; clear hE a; intro a hE
                refine WL.vS hS hE (runs_plain rfl) (Gives.fld hE rfl fl84_3) rfl ?_; clear hE a; intro a hE
                refine WL.vS hS hE (runs_plain rfl) (Gives.loadB hE 0 rfl rfl rfl ty3) rfl ?_; clear hE a; intro a hE
                obtain ⟨q160, hq161, hq152⟩ := bndS hq152
                replace hS := hS.front 3 rfl
                replace hS := hS.front 6 rfl
                replace hS := hS.front 4 rfl
                refine WL.fnv hE (vs := [.int .i64 x134.Arr]) (cs := [.pointer (some ⟨b94, 0, none⟩), .pointer (some ⟨b51, 0, none⟩), .pointer (some ⟨b93, 0, none⟩)]) rfl (Fleetjudge_1_v1_ok hS  hq161) (runs_plain rfl) bd67 rfl rfl ?_
                clear hE hS; rintro e w ⟨rfl, hS⟩; refine ⟨_, rfl, ?_⟩; clear a; intro a hE
                refine WL.nil ?_
                refine W.region ?_
                refine WL.vS hS hE (runs_plain rfl) (Gives.fld hE rfl fl84_2) rfl ?_; clear hE a; intro a hE
                refine WL.vS hS hE (runs_plain rfl) (Gives.loadB hE 4 rfl rfl rfl ty3) rfl ?_; clear hE a; intro a hE
                refine WL.storeI hE hS 0 rfl [.int .i64 x114.Dep] (runs_plain rfl) rfl rfl rfl ty3 rfl rfl rfl rfl ?_; clear hE hS a w; intro a w hE hS
                refine WL.nil ?_
                replace hS := hS.front 1 rfl
                replace hS := hS.front 6 rfl
                replace hS := hS.front 6 rfl
                replace hS := hS.front 4 rfl
                replace hS := hS.front 4 rfl
                replace hS := hS.front 6 rfl
                replace hS := hS.front 6 rfl
                subst hK158
                exact ⟨q160, x114.Dep, hq152, hE.pick _ ⟨rfl, rfl, rfl, rfl, rfl, rfl, rfl, rfl, rfl, rfl, rfl, rfl, trivial⟩, hS⟩
              · replace hq152 := iteF hc159 hq152
                refine W.skip ?_
                subst hK158
                exact ⟨q107, q108, hq152, hE.pick _ ⟨rfl, rfl, rfl, rfl, rfl, rfl, rfl, rfl, rfl, rfl, rfl, rfl, trivial⟩, hS⟩
            · clear hE hS a w; rintro a w ⟨q156, q157, rfl, hE, hS⟩
              dsimp only at hq95
              refine W.region ?_
              refine WL.vS hS hE (runs_plain rfl) (Gives.inc hE rfl (by have := h1.small; omega)) rfl ?_; clear hE a; intro a hE
              refine WL.vS hS hE (runs_plain rfl) (Gives.p hE rfl) rfl ?_; clear hE a; intro a hE
              refine WL.nil ?_
              replace hS := hS.tail
              replace hS := hS.tail
              subst hK109
              exact ⟨rest99.length, Nat.lt_succ_self _, rest99, k97 + 1, (w64 (q106 + (w64 (x114.Arr - x114.Dep)))), q156, q157, rfl, hd100, hq95, hE.pick _ ⟨rfl, rfl, rfl, rfl, rfl, rfl, rfl, rfl, rfl, rfl, rfl, rfl, trivial⟩, hS⟩
  · clear hE hS a w; rintro a w ⟨q106, q107, q108, rfl, hE, hS⟩
    dsimp only at hr
    refine W.seq ?_
    refine W.region ?_
    refine WL.vS hS hE (runs_plain rfl) (Gives.p hE rfl) rfl ?_; clear hE a; intro a hE
    refine WL.vS hS hE (runs_plain rfl) (Gives.fld hE rfl fl84_3) rfl ?_; clear hE a; intro a hE
    refine WL.vS hS hE (runs_plain rfl) (Gives.loadB hE 2 rfl rfl rfl ty3) rfl ?_; clear hE a; intro a hE
    obtain ⟨q162, hq163, hr⟩ := bndS hr
    replace hS := hS.front 1 rfl
    replace hS := hS.front 4 rfl
    replace hS := hS.front 2 rfl
    refine WL.fnv hE (vs := [.int .i64 x80.Arr]) (cs := [.pointer (some ⟨b94, 0, none⟩), .pointer (some ⟨b51, 0, none⟩), .pointer (some ⟨b93, 0, none⟩)]) rfl (Fleetjudge_1_v1_ok hS  hq163) (runs_plain rfl) bd67 rfl rfl ?_
    clear hE hS; rintro e w ⟨rfl, hS⟩; refine ⟨_, rfl, ?_⟩; clear a; intro a hE
    refine WL.nil ?_
    refine W.seq ?_
    refine W.block ?_
    refine W.seq ?_
    refine W.region ?_
    refine WL.vS hS hE (runs_plain rfl) (Gives.fld hE rfl fl84_3) rfl ?_; clear hE a; intro a hE
    refine WL.vS hS hE (runs_plain rfl) (Gives.loadB hE 3 rfl rfl rfl ty3) rfl ?_; clear hE a; intro a hE
    refine WL.vS hS hE (runs_plain rfl) (Gives.fld hE rfl fl84_2) rfl ?_; clear hE a; intro a hE
    refine WL.vS hS hE (runs_plain rfl) (Gives.loadB hE 4 rfl rfl rfl ty3) rfl ?_; clear hE a; intro a hE
    refine WL.vS hS hE (runs_plain rfl) (Gives.p hE rfl) rfl ?_; clear hE a; intro a hE
    refine WL.vS hS hE (runs_plain rfl) (Gives.fld hE rfl fl35_1) rfl ?_; clear hE a; intro a hE
    refine WL.vS hS hE (runs_plain rfl) (Gives.loadB hE 1 rfl rfl rfl ty3) rfl ?_; clear hE a; intro a hE
    refine WL.vS hS hE (runs_plain rfl) (Gives.p hE rfl) rfl ?_; clear hE a; intro a hE
    refine WL.vS hS hE (runs_plain rfl) (Gives.p hE rfl) rfl ?_; clear hE a; intro a hE
    refine WL.nil ?_
    refine W.cond hE rfl (fun hc164 => ?_) (fun hc164 => ?_)
    · replace hr := iteT hc164 hr
      refine W.seq ?_
      refine W.region ?_
      refine WL.vS hS hE (runs_plain rfl) (Gives.p hE rfl) rfl ?_; clear hE a; intro a hE
      refine WL.nil ?_
      refine W.ret ?_
      refine finG (fn := Try.f53) (rs := [.tmp 6]) (vs := [_]) hE rfl ⟨rfl, trivial⟩ ?_
      obtain rfl := Option.some.inj hr
      replace hS := hS.tail
      replace hS := hS.tail
      replace hS := hS.tail
      replace hS := hS.tail
      replace hS := hS.tail
      exact ⟨rfl, hS⟩
    · replace hr := iteF hc164 hr
      refine W.seq ?_
      refine W.region ?_
      refine WL.vS hS hE (runs_plain rfl) (Gives.p hE rfl) rfl ?_; clear hE a; intro a hE
      refine WL.vS hS hE (runs_plain rfl) (Gives.fld hE rfl fl35_2) rfl ?_; clear hE a; intro a hE
      refine WL.vS hS hE (runs_plain rfl) (Gives.loadB hE 1 rfl rfl rfl ty3) rfl ?_; clear hE a; intro a hE
      refine WL.vS hS hE (runs_plain rfl) (Gives.p hE rfl) rfl ?_; clear hE a; intro a hE
      refine WL.vS hS hE (runs_plain rfl) (Gives.p hE rfl) rfl ?_; clear hE a; intro a hE
      refine WL.nil ?_
      refine W.cond hE rfl (fun hc165 => ?_) (fun hc165 => ?_)
      · replace hr := iteT hc165 hr
        refine W.seq ?_
        refine W.region ?_
        refine WL.vS hS hE (runs_plain rfl) (Gives.p hE rfl) rfl ?_; clear hE a; intro a hE
        refine WL.nil ?_
        refine W.ret ?_
        refine finG (fn := Try.f53) (rs := [.tmp 6]) (vs := [_]) hE rfl ⟨rfl, trivial⟩ ?_
        obtain rfl := Option.some.inj hr
        replace hS := hS.tail
        replace hS := hS.tail
        replace hS := hS.tail
        replace hS := hS.tail
        replace hS := hS.tail
        exact ⟨rfl, hS⟩
      · replace hr := iteF hc165 hr
        refine W.seq ?_
        refine W.region ?_
        refine WL.vS hS hE (runs_plain rfl) (Gives.loadB hE 2 rfl rfl rfl ty3) rfl ?_; clear hE a; intro a hE
        refine WL.vS hS hE (runs_plain rfl) (Gives.p hE rfl) rfl ?_; clear hE a; intro a hE
        refine WL.vS hS hE (runs_plain rfl) (Gives.p hE rfl) rfl ?_; clear hE a; intro a hE
        refine WL.nil ?_
        refine W.cond hE rfl (fun hc166 => ?_) (fun hc166 => ?_)
        · replace hr := iteT hc166 hr
          refine W.seq ?_
          refine W.region ?_
          refine WL.vS hS hE (runs_plain rfl) (Gives.loadB hE 2 rfl rfl rfl ty3) rfl ?_; clear hE a; intro a hE
          refine WL.vS hS hE (runs_plain rfl) (Gives.p hE rfl) rfl ?_; clear hE a; intro a hE
          refine WL.nil ?_
          refine W.ret ?_
          refine finG (fn := Try.f53) (rs := [.tmp 6]) (vs := [_]) hE rfl ⟨rfl, trivial⟩ ?_
          obtain rfl := Option.some.inj hr
          replace hS := hS.tail
          replace hS := hS.tail
          replace hS := hS.tail
          replace hS := hS.tail
          replace hS := hS.tail
          exact ⟨rfl, hS⟩
        · replace hr := iteF hc166 hr
          refine W.seq ?_
          refine W.region ?_
          refine WL.vS hS hE (runs_plain rfl) (Gives.fld hE rfl fl84_1) rfl ?_; clear hE a; intro a hE
          refine WL.vS hS hE (runs_plain rfl) (Gives.loadB hE 3 rfl rfl rfl ty3) rfl ?_; clear hE a; intro a hE
          refine WL.vS hS hE (runs_plain rfl) (Gives.fld hE rfl fl84_0) rfl ?_; clear hE a; intro a hE
          refine WL.vS hS hE (runs_plain rfl) (Gives.loadB hE 4 rfl rfl rfl ty3) rfl ?_; clear hE a; intro a hE
          refine WL.vS hS hE (runs_plain rfl) (Gives.p hE rfl) rfl ?_; clear hE a; intro a hE
          refine WL.vS hS hE (runs_plain rfl) (Gives.p hE rfl) rfl ?_; clear hE a; intro a hE
          refine WL.nil ?_
          refine W.cond hE rfl (fun hc167 => ?_) (fun hc167 => ?_)
          · replace hr := iteT hc167 hr
            refine W.seq ?_
            refine W.region ?_
            refine WL.vS hS hE (runs_plain rfl) (Gives.p hE rfl) rfl ?_; clear hE a; intro a hE
            refine WL.nil ?_
            refine W.ret ?_
            refine finG (fn := Try.f53) (rs := [.tmp 6]) (vs := [_]) hE rfl ⟨rfl, trivial⟩ ?_
            obtain rfl := Option.some.inj hr
            replace hS := hS.tail
            replace hS := hS.tail
            replace hS := hS.tail
            replace hS := hS.tail
            replace hS := hS.tail
            exact ⟨rfl, hS⟩
          · replace hr := iteF hc167 hr
            refine W.skip ?_
            refine W.seq ?_
            refine W.region ?_
            refine WL.vS hS hE (runs_plain rfl) (Gives.p hE rfl) rfl ?_; clear hE a; intro a hE
            refine WL.nil ?_
            refine W.ret ?_
            refine finG (fn := Try.f53) (rs := [.tmp 6]) (vs := [_]) hE rfl ⟨rfl, trivial⟩ ?_
            obtain rfl := Option.some.inj hr
            replace hS := hS.tail
            replace hS := hS.tail
            replace hS := hS.tail
            replace hS := hS.tail
            replace hS := hS.tail
            exact ⟨rfl, hS⟩
set_option maxHeartbeats 8000000 in
theorem FleetJudge_ok  {w : World} {s : Sg} {R : List HP} {x0 : List FleetTask} {a0 : Option Addr} {c0 : Nat} {x1 : List Int} {a1 : Option Addr} {c1 : Nat} {x2 : FleetLimits} (hS : St w s (R)) (h0 : Sl 6 RFleetTask s a0 c0 x0) (h1 : Sl 1 (RI .i64) s a1 c1 x1) {r : Int × Int} (hr : FleetJudge x0 x1 x2 = some r) :
    Calls Try.prog 17 [.slice a0 x0.length c0, .slice a1 x1.length c1, .agg (FleetLimits.cells x2).toArray].toArray w (fun e w => e = .returned (.tuple #[.int .i64 r.1, .int .i64 r.2]) ∧ St w s (R)) := by
  refine enter Try.func17 rfl rfl rfl fun a hE => ?_
  rw [FleetJudge] at hr
  refine W.seq ?_
  refine W.region ?_
  refine WL.box hE hS (runs_plain rfl) rfl rfl rfl ?_; clear hE hS a w; intro b51 a w hE hS
  refine WL.vS hS hE (runs_plain rfl) (Gives.p hE rfl) rfl ?_; clear hE a; intro a hE
  refine WL.vS hS hE (runs_plain rfl) (Gives.p hE rfl) rfl ?_; clear hE a; intro a hE
  refine WL.nil ?_
  refine W.seq ?_
  refine W.seq ?_
  refine W.region ?_
  refine WL.vS hS hE (runs_plain rfl) (Gives.p hE rfl) rfl ?_; clear hE a; intro a hE
  refine WL.vS hS hE (runs_plain rfl) (Gives.loadBA hE 0 rfl rfl ty35) rfl ?_; clear hE a; intro a hE
  refine WL.fn hE (FleetcheckTasks_ok hS h0 rfl) (runs_plain rfl) bd52 rfl rfl ?_
  clear hE hS; rintro e w ⟨rfl, hS⟩; refine ⟨_, rfl, ?_⟩; clear a; intro a hE
  refine WL.vS hS hE (runs_plain rfl) (Gives.p hE rfl) rfl ?_; clear hE a; intro a hE
  refine WL.nil ?_
  refine W.seq ?_
  refine W.region ?_
  refine WL.vS hS hE (runs_plain rfl) (Gives.p hE rfl) rfl ?_; clear hE a; intro a hE
  refine WL.vS hS hE (runs_plain rfl) (Gives.p hE rfl) rfl ?_; clear hE a; intro a hE
  refine WL.nil ?_
  refine W.cond hE rfl (fun hc52 => ?_) (fun hc52 => ?_)
  · replace hr := iteT hc52 hr
    refine W.seq ?_
    refine W.region ?_
    refine WL.vS hS hE (runs_plain rfl) (Gives.p hE rfl) rfl ?_; clear hE a; intro a hE
    refine WL.vS hS hE (runs_plain rfl) (Gives.p hE rfl) rfl ?_; clear hE a; intro a hE
    refine WL.vS hS hE (runs_plain rfl) (Gives.p hE rfl) rfl ?_; clear hE a; intro a hE
    refine WL.nil ?_
    refine W.ret ?_
    refine finG (fn := Try.f17) (rs := [.tmp 6, .tmp 7]) (vs := [_, _]) hE rfl ⟨rfl, rfl, trivial⟩ ?_
    obtain rfl := Option.some.inj hr
    replace hS := hS.tail
    exact ⟨rfl, hS⟩
  · replace hr := iteF hc52 hr
    refine W.skip ?_
    refine W.seq ?_
    refine W.seq ?_
    refine W.region ?_
    refine WL.vS hS hE (runs_plain rfl) (Gives.p hE rfl) rfl ?_; clear hE a; intro a hE
    refine WL.vS hS hE (runs_plain rfl) (Gives.len hE rfl sl22) rfl ?_; clear hE a; intro a hE
    refine WL.vS hS hE (runs_plain rfl) (Gives.p hE rfl) rfl ?_; clear hE a; intro a hE
    refine WL.nil ?_
    refine W.cond hE rfl (fun hc53 => ?_) (fun hc53 => ?_)
    · replace hr := iteT hc53 hr
      refine W.seq ?_
      refine W.region ?_
      refine WL.vS hS hE (runs_plain rfl) (Gives.p hE rfl) rfl ?_; clear hE a; intro a hE
      refine WL.vS hS hE (runs_plain rfl) (Gives.p hE rfl) rfl ?_; clear hE a; intro a hE
      refine WL.nil ?_
      refine W.ret ?_
      refine finG (fn := Try.f17) (rs := [.tmp 6, .tmp 7]) (vs := [_, _]) hE rfl ⟨rfl, rfl, trivial⟩ ?_
      obtain rfl := Option.some.inj hr
      replace hS := hS.tail
      exact ⟨rfl, hS⟩
    · replace hr := iteF hc53 hr
      refine W.skip ?_
      refine W.seq ?_
      refine W.seq ?_
      refine W.region ?_
      refine WL.vS hS hE (runs_plain rfl) (Gives.p hE rfl) rfl ?_; clear hE a; intro a hE
      refine WL.vS hS hE (runs_plain rfl) (Gives.len hE rfl sl22) rfl ?_; clear hE a; intro a hE
      refine WL.vS hS hE (runs_plain rfl) (Gives.p hE rfl) rfl ?_; clear hE a; intro a hE
      refine WL.nil ?_
      obtain ⟨q55, hq54, hr⟩ := bindS hr
      refine W.cut (fun a w => (.next ()) = q55 ∧ Rep a 45 [(0, .slice a0 x0.length c0), (1, .slice a1 x1.length c1), (5, .pointer (some ⟨b51, 0, none⟩))] ∧ St w s (pt b51 (.cells (FleetLimits.cells x2).toArray 35 (0, 0)) :: R)) ?_ ?_
      · refine W.block ?_
        refine W.loop (fun m a w => ∃ (rest58 : List Int) (k56 : Nat), rest58.length = m ∧ x1.drop k56 = rest58 ∧ FleetJudge.loop1 x0 x1 rest58 k56 = some q55 ∧ Rep a 45 [(0, .slice a0 x0.length c0), (1, .slice a1 x1.length c1), (5, .pointer (some ⟨b51, 0, none⟩)), (20, .slice a1 x1.length c1), (21, .int .i64 ((x1).length : Int)), (22, .int .i64 ((k56 : Nat) : Int))] ∧ St w s (pt b51 (.cells (FleetLimits.cells x2).toArray 35 (0, 0)) :: R)) (m := x1.length) ⟨x1, 0, rfl, rfl, hq54, hE.pick _ ⟨rfl, rfl, rfl, rfl, rfl, rfl, trivial⟩, hS⟩ ?_
        clear hE hS a w hq54; rintro m62 a w ⟨rest58, k56, rfl, hd59, hq54, hE, hS⟩
        refine W.gen fun K65 hK65 => ?_
        rcases rest58 with _ | ⟨x57, rest58⟩
        · have hlt60 := drop_nil hd59
          refine W.seq ?_
          refine W.region ?_
          refine WL.vS hS hE (runs_plain rfl) (Gives.p hE rfl) rfl ?_; clear hE a; intro a hE
          refine WL.nil ?_
          refine W.seq ?_
          refine W.condF hE rfl (decide_eq_false (by omega)) ?_
          subst hK65
          refine W.exit rfl ?_
          exact ⟨Option.some.inj hq54, hE.pick _ ⟨rfl, rfl, rfl, trivial⟩, hS⟩
        · obtain ⟨hlt60, hx61, hd59⟩ := drop_cons hd59
          rw [FleetJudge.loop1] at hq54
          refine W.seq ?_
          refine W.region ?_
          refine WL.vS hS hE (runs_plain rfl) (Gives.p hE rfl) rfl ?_; clear hE a; intro a hE
          refine WL.nil ?_
          refine W.seq ?_
          refine W.condT hE rfl (decide_eq_true (by omega)) ?_
          refine W.skip ?_
          refine W.seq ?_
          refine W.block ?_
          refine W.seq ?_
          refine W.region ?_
          refine WL.vS hS hE (runs_plain rfl) (Gives.p hE rfl) rfl ?_; clear hE a; intro a hE
          obtain ⟨cs66, hl67, hR68, hat69⟩ := h1.at hx61
          subst hR68
          refine WL.vS hS hE (runs_plain rfl) (Gives.idx hE k56 rfl rfl sl22 rfl hlt60 (h1.aok hlt60)) rfl ?_; clear hE a; intro a hE
          refine WL.vS hS hE (runs_plain rfl) (Gives.load1 hE rfl (fun w h => hat69 w _ h) ty3) rfl ?_; clear hE a; intro a hE
          refine WL.vS hS hE (runs_plain rfl) (Gives.p hE rfl) rfl ?_; clear hE a; intro a hE
          refine WL.vS hS hE (runs_plain rfl) (Gives.p hE rfl) rfl ?_; clear hE a; intro a hE
          refine WL.nil ?_
          refine W.block ?_
          refine W.seq ?_
          refine W.region ?_
          refine WL.vS hS hE (runs_plain rfl) (Gives.p hE rfl) rfl ?_; clear hE a; intro a hE
          refine WL.vS hS hE (runs_plain rfl) (Gives.p hE rfl) rfl ?_; clear hE a; intro a hE
          refine WL.vS hS hE (runs_plain rfl) (Gives.len hE rfl sl33) rfl ?_; clear hE a; intro a hE
          refine WL.vS hS hE (runs_plain rfl) (Gives.p hE rfl) rfl ?_; clear hE a; intro a hE
          refine WL.fn hE (Fleetwithin_ok hS  rfl) (runs_plain rfl) bd51 rfl rfl ?_
          clear hE hS; rintro e w ⟨rfl, hS⟩; refine ⟨_, rfl, ?_⟩; clear a; intro a hE
          refine WL.vS hS hE (runs_plain rfl) (Gives.p hE rfl) rfl ?_; clear hE a; intro a hE
          refine WL.vS hS hE (runs_plain rfl) (Gives.p hE rfl) rfl ?_; clear hE a; intro a hE
          refine WL.nil ?_
          refine W.cond hE rfl (fun hc70 => ?_) (fun hc70 => ?_)
          · replace hq54 := iteT hc70 hq54
            refine W.seq ?_
            refine W.region ?_
            refine WL.vS hS hE (runs_plain rfl) (Gives.p hE rfl) rfl ?_; clear hE a; intro a hE
            refine WL.vS hS hE (runs_plain rfl) (Gives.p hE rfl) rfl ?_; clear hE a; intro a hE
            refine WL.nil ?_
            refine W.ret ?_
            subst hK65
            rw [← Option.some.inj hq54] at hr
            dsimp only at hr
            refine finG (fn := Try.f17) (rs := [.tmp 6, .tmp 7]) (vs := [_, _]) hE rfl ⟨rfl, rfl, trivial⟩ ?_
            obtain rfl := Option.some.inj hr
            replace hS := hS.tail
            exact ⟨rfl, hS⟩
          · replace hq54 := iteF hc70 hq54
            refine W.seq ?_
            refine W.region ?_
            refine WL.vS hS hE (runs_plain rfl) (Gives.p hE rfl) rfl ?_; clear hE a; intro a hE
            refine WL.vS hS hE (runs_plain rfl) (Gives.p hE rfl) rfl ?_; clear hE a; intro a hE
            obtain ⟨x71, hx72, hq54⟩ := bindS hq54
            obtain ⟨a73, c74, heq75, h76⟩ := h1.cut hx72
            obtain ⟨h77, h78, h79, _⟩ := cutl_some hx72
            refine WL.vS hS hE (runs_plain rfl) (Gives.slH hE sl22 rfl rfl (by omega) (by have := h1.len; omega) heq75) rfl ?_; clear hE a; intro a hE
            refine WL.vS hS hE (runs_plain rfl) (Gives.p hE rfl) rfl ?_; clear hE a; intro a hE
            refine WL.fn hE (SlicesContainsLint_ok hS h76 rfl) (runs_plain rfl) bd50 rfl rfl ?_
            clear hE hS; rintro e w ⟨rfl, hS⟩; refine ⟨_, rfl, ?_⟩; clear a; intro a hE
            refine WL.vS hS hE (runs_plain rfl) (Gives.p hE rfl) rfl ?_; clear hE a; intro a hE
            refine WL.nil ?_
            refine W.cond hE rfl (fun hc80 => ?_) (fun hc80 => ?_)
            · replace hq54 := iteT hc80 hq54
              refine W.seq ?_
              refine W.region ?_
              refine WL.vS hS hE (runs_plain rfl) (Gives.p hE rfl) rfl ?_; clear hE a; intro a hE
              refine WL.vS hS hE (runs_plain rfl) (Gives.p hE rfl) rfl ?_; clear hE a; intro a hE
              refine WL.nil ?_
              refine W.ret ?_
              subst hK65
              rw [← Option.some.inj hq54] at hr
              dsimp only at hr
              refine finG (fn := Try.f17) (rs := [.tmp 6, .tmp 7]) (vs := [_, _]) hE rfl ⟨rfl, rfl, trivial⟩ ?_
              obtain rfl := Option.some.inj hr
              replace hS := hS.tail
              exact ⟨rfl, hS⟩
            · replace hq54 := iteF hc80 hq54
              refine W.skip ?_
              refine W.region ?_
              refine WL.vS hS hE (runs_plain rfl) (Gives.inc hE rfl (by have := h1.small; omega)) rfl ?_; clear hE a; intro a hE
              refine WL.vS hS hE (runs_plain rfl) (Gives.p hE rfl) rfl ?_; clear hE a; intro a hE
              refine WL.nil ?_
              subst hK65
              exact ⟨rest58.length, Nat.lt_succ_self _, rest58, k56 + 1, rfl, hd59, hq54, hE.pick _ ⟨rfl, rfl, rfl, rfl, rfl, rfl, trivial⟩, hS⟩
      · clear hE hS a w; rintro a w ⟨rfl, hE, hS⟩
        dsimp only at hr
        refine W.seq ?_
        refine W.region ?_
        refine WL.vS hS hE (runs_plain rfl) (Gives.p hE rfl) rfl ?_; clear hE a; intro a hE
        refine WL.vS hS hE (runs_plain rfl) (Gives.p hE rfl) rfl ?_; clear hE a; intro a hE
        refine WL.vS hS hE (runs_plain rfl) (Gives.loadBA hE 0 rfl rfl ty35) rfl ?_; clear hE a; intro a hE
        obtain ⟨q81, hq82, hr⟩ := bindS hr
        refine WL.fn hE (Fleetjudge_ok hS h0 h1 hq82) (runs_plain rfl) bd53 rfl rfl ?_
        clear hE hS; rintro e w ⟨rfl, hS⟩; refine ⟨_, rfl, ?_⟩; clear a; intro a hE
        refine WL.vS hS hE (runs_plain rfl) (Gives.p hE rfl) rfl ?_; clear hE a; intro a hE
        refine WL.vS hS hE (runs_plain rfl) (Gives.p hE rfl) rfl ?_; clear hE a; intro a hE
        refine WL.nil ?_
        refine W.ret ?_
        refine finG (fn := Try.f17) (rs := [.tmp 6, .tmp 7]) (vs := [_, _]) hE rfl ⟨rfl, rfl, trivial⟩ ?_
        obtain rfl := Option.some.inj hr
        replace hS := hS.tail
        exact ⟨rfl, hS⟩
set_option maxHeartbeats 8000000 in
theorem Fishlaw2crews_ok  {w : World} {s : Sg} {R : List HP}  (hS : St w s (R))  {r : Bool} (hr : Fishlaw2crews = some r) :
    Calls Try.prog 19 [].toArray w (fun e w => e = .returned (.bool r) ∧ St w s (R)) := by
  refine enter Try.func19 rfl rfl rfl fun a hE => ?_
  rw [Fishlaw2crews] at hr
  refine W.seq ?_
  refine W.region ?_
  refine WL.vS hS hE (runs_plain rfl) (Gives.p hE rfl) rfl ?_; clear hE a; intro a hE
  refine WL.nil ?_
  refine W.seq ?_
  refine W.region ?_
  refine WL.vS hS hE (runs_plain rfl) (Gives.build hE (vs := [(0, .int .i64 0), (1, .int .i64 1), (2, .int .i64 0), (3, .int .i64 100), (5, .int .i64 1)]) [.int .i64 0, .int .i64 1, .int .i64 0, .int .i64 100, .int .i64 0, .int .i64 1] rfl (by kernel_rfl)) rfl ?_; clear hE a; intro a hE
  refine WL.lit hE hS (e := 84) (es := 6) (vs := [(0, .agg [.int .i64 0, .int .i64 1, .int .i64 0, .int .i64 100, .int .i64 0, .int .i64 1].toArray)]) (cs := [.int .i64 0, .int .i64 1, .int .i64 0, .int .i64 100, .int .i64 0, .int .i64 1]) (runs_plain rfl) rfl (by kernel_rfl) rfl ?_; clear hE hS a w; intro b51 a w hE hS
  replace hS := hS.ptVec (es := 6) (m := 1) rfl (by decide)
  have h53 : Ev 6 RFleetTask s [.int .i64 0, .int .i64 1, .int .i64 0, .int .i64 100, .int .i64 0, .int .i64 1] [(FleetTask.mk 0 1 0 100 0 1)] := (Ev.cons (c1 := [.int .i64 0, .int .i64 1, .int .i64 0, .int .i64 100, .int .i64 0, .int .i64 1]) rfl rfl (Ev.nil))
  have hF := hS.fixD RFleetTask.mono 0 rfl h53 (rfl); clear hS; obtain ⟨s54, hle55, hS, h56⟩ := hF
  refine WL.vS hS hE (runs_plain rfl) (Gives.p hE rfl) rfl ?_; clear hE a; intro a hE
  refine WL.nil ?_
  refine W.seq ?_
  refine W.region ?_
  refine WL.vS hS hE (runs_plain rfl) (Gives.p hE rfl) rfl ?_; clear hE a; intro a hE
  refine WL.lit hE hS (e := 3) (es := 1) (vs := [(0, .int .i64 0)]) (cs := [.int .i64 0]) (runs_plain rfl) rfl (by kernel_rfl) rfl ?_; clear hE hS a w; intro b57 a w hE hS
  replace hS := hS.ptVec (es := 1) (m := 1) rfl (by decide)
  have h59 : Ev 1 (RI .i64) s54 [.int .i64 0] [0] := (Ev.cons (c1 := [.int .i64 0]) rfl rfl (Ev.nil))
  have hF := hS.fixD RI.mono 0 rfl h59 (rfl); clear hS; obtain ⟨s60, hle61, hS, h62⟩ := hF
  replace h56 := Sl.mono RFleetTask.mono hle61 h56
  refine WL.vS hS hE (runs_plain rfl) (Gives.build hE (vs := [(1, .int .i64 100), (2, .int .i64 100), (3, .int .i64 100), (6, .int .i64 1)]) [.int .i64 0, .int .i64 100, .int .i64 100, .int .i64 100, .int .i64 0, .int .i64 0, .int .i64 1] rfl (by kernel_rfl)) rfl ?_; clear hE a; intro a hE
  obtain ⟨q63, hq64, hr⟩ := bindS hr
  refine WL.fn hE (FleetJudge_ok hS h56 h62 hq64) (runs_plain rfl) bd17 rfl rfl ?_
  clear hE hS; rintro e w ⟨rfl, hS⟩; refine ⟨_, rfl, ?_⟩; clear a; intro a hE
  refine WL.vS hS hE (runs_plain rfl) (Gives.p hE rfl) rfl ?_; clear hE a; intro a hE
  refine WL.vS hS hE (runs_plain rfl) (Gives.p hE rfl) rfl ?_; clear hE a; intro a hE
  refine WL.vS hS hE (runs_plain rfl) (Gives.p hE rfl) rfl ?_; clear hE a; intro a hE
  refine WL.vS hS hE (runs_plain rfl) (Gives.p hE rfl) rfl ?_; clear hE a; intro a hE
  refine WL.vS hS hE (runs_plain rfl) (Gives.p hE rfl) rfl ?_; clear hE a; intro a hE
  refine WL.nil ?_
  refine W.seq ?_
  obtain ⟨q66, hq65, hr⟩ := bndS hr
  refine W.cut (fun a w => ∃ (q69 : Bool), q69 = q66 ∧ Rep a 19 [(0, .bool q69)] ∧ St w s60 (R)) ?_ ?_
  · refine W.gen fun K70 hK70 => ?_
    refine W.region ?_
    refine WL.vS hS hE (runs_plain rfl) (Gives.p hE rfl) rfl ?_; clear hE a; intro a hE
    refine WL.vS hS hE (runs_plain rfl) (Gives.p hE rfl) rfl ?_; clear hE a; intro a hE
    refine WL.vS hS hE (runs_plain rfl) (Gives.p hE rfl) rfl ?_; clear hE a; intro a hE
    rcases Bool.eq_false_or_eq_true (q63.2 == 0) with hg71 | hg71
    · replace hq65 := iteT hg71 hq65
      refine WL.vS hS hE (runs_if hE rfl rfl rfl hg71) (Gives.p hE rfl) rfl ?_; clear hE a; intro a hE
      refine WL.vS hS hE (runs_if hE rfl rfl rfl hg71) (Gives.p hE rfl) rfl ?_; clear hE a; intro a hE
      refine WL.vS hS hE (runs_plain rfl) (Gives.pickT hE rfl hg71 rfl) rfl ?_; clear hE a; intro a hE
      refine WL.vS hS hE (runs_plain rfl) (Gives.p hE rfl) rfl ?_; clear hE a; intro a hE
      refine WL.nil ?_
      subst hK70
      exact ⟨(q63.1 == 5), hq65, hE.pick _ ⟨rfl, trivial⟩, hS⟩
    · replace hq65 := iteF hg71 hq65
      refine WL.no hE (runs_not hE rfl rfl rfl (by rw [hg71]; decide)) rfl ?_; clear hE a; intro a hE
      refine WL.no hE (runs_not hE rfl rfl rfl (by rw [hg71]; decide)) rfl ?_; clear hE a; intro a hE
      refine WL.vS hS hE (runs_plain rfl) (Gives.pickF hE rfl hg71 rfl) rfl ?_; clear hE a; intro a hE
      refine WL.vS hS hE (runs_plain rfl) (Gives.p hE rfl) rfl ?_; clear hE a; intro a hE
      refine WL.nil ?_
      subst hK70
      exact ⟨false, hq65, hE.pick _ ⟨rfl, trivial⟩, hS⟩
  · clear hE hS a w; rintro a w ⟨q69, rfl, hE, hS⟩
    refine W.ret ?_
    refine finG (fn := Try.f19) (rs := [.tmp 0]) (vs := [_]) hE rfl ⟨rfl, trivial⟩ ?_
    obtain rfl := Option.some.inj hr
    exact ⟨rfl, (hS.down (Sg.Le.trans hle55 hle61))⟩
set_option maxHeartbeats 8000000 in
theorem Fishref2LoadsOf_ok  {w : World} {s : Sg} {R : List HP} {x0 : List FleetShift} {a0 : Option Addr} {c0 : Nat} {x1 : List (List Int)} {a1 : Option Addr} {c1 : Nat} (hS : St w s (R)) (h0 : Sl 3 RFleetShift s a0 c0 x0) (h1 : Sl 1 (RL 1 (RI .i64)) s a1 c1 x1) {r : (List Int)} (hr : Fishref2LoadsOf x0 x1 = some r) :
    Calls Try.prog 32 [.slice a0 x0.length c0, .slice a1 x1.length c1].toArray w (fun e w => ∃ (a0 : Option Addr) (c0 n0 : Nat) (cs0 : List Value), e = .returned (.slice a0 n0 c0) ∧ Ev 1 (RI .i64) s cs0 r ∧ r.length = n0 ∧ St w s (vecC 3 1 a0 c0 n0 cs0 :: R)) := by
  refine enter Try.func32 rfl rfl rfl fun a hE => ?_
  rw [Fishref2LoadsOf] at hr
  refine W.seq ?_
  refine W.region ?_
  refine WL.vS hS hE (runs_plain rfl) (Gives.p hE rfl) rfl ?_; clear hE a; intro a hE
  refine WL.nil ?_
  refine W.seq ?_
  refine W.region ?_
  replace hS := hS.vecNil 3 1
  refine WL.vS hS hE (runs_plain rfl) (Gives.p hE rfl) rfl ?_; clear hE a; intro a hE
  refine WL.nil ?_
  refine W.seq ?_
  refine W.seq ?_
  refine W.region ?_
  refine WL.vS hS hE (runs_plain rfl) (Gives.p hE rfl) rfl ?_; clear hE a; intro a hE
  refine WL.vS hS hE (runs_plain rfl) (Gives.len hE rfl sl23) rfl ?_; clear hE a; intro a hE
  refine WL.vS hS hE (runs_plain rfl) (Gives.p hE rfl) rfl ?_; clear hE a; intro a hE
  refine WL.nil ?_
  obtain ⟨q53, hq52, hr⟩ := bindS hr
  refine W.cut (fun a w => ∃ (q63 : List Int), ∃ (a64 : Option Addr), ∃ (c65 : Nat), ∃ (n67 : Nat), ∃ (cs68 : List Value), q63 = q53 ∧ Ev 1 (RI .i64) s cs68 q63 ∧ q63.length = n67 ∧ Rep a 43 [(5, .slice a64 n67 c65)] ∧ St w s (vecC 3 1 a64 c65 n67 cs68 :: R)) ?_ ?_
  · refine W.block ?_
    refine W.loop (fun m a w => ∃ (rest56 : List (List Int)) (k54 : Nat), ∃ (q63 : List Int), ∃ (a64 : Option Addr), ∃ (c65 : Nat), ∃ (n67 : Nat), ∃ (cs68 : List Value), rest56.length = m ∧ x1.drop k54 = rest56 ∧ Fishref2LoadsOf.loop1 x0 rest56 q63 = some q53 ∧ Ev 1 (RI .i64) s cs68 q63 ∧ q63.length = n67 ∧ Rep a 43 [(0, .slice a0 x0.length c0), (5, .slice a64 n67 c65), (11, .slice a1 x1.length c1), (12, .int .i64 ((x1).length : Int)), (13, .int .i64 ((k54 : Nat) : Int))] ∧ St w s (vecC 3 1 a64 c65 n67 cs68 :: R)) (m := x1.length) ⟨x1, 0, [], none, 0, 0, [], rfl, rfl, hq52, (Ev.nil), (rfl), hE.pick _ ⟨rfl, rfl, rfl, rfl, rfl, trivial⟩, hS⟩ ?_
    clear hE hS a w hq52; rintro m60 a w ⟨rest56, k54, q63, a64, c65, n67, cs68, rfl, hd57, hq52, h66, rfl, hE, hS⟩
    refine W.gen fun K70 hK70 => ?_
    rcases rest56 with _ | ⟨x55, rest56⟩
    · have hlt58 := drop_nil hd57
      refine W.seq ?_
      refine W.region ?_
      refine WL.vS hS hE (runs_plain rfl) (Gives.p hE rfl) rfl ?_; clear hE a; intro a hE
      refine WL.nil ?_
      refine W.seq ?_
      refine W.condF hE rfl (decide_eq_false (by omega)) ?_
      subst hK70
      refine W.exit rfl ?_
      exact ⟨q63, a64, c65, q63.length, cs68, Option.some.inj hq52, h66, rfl, hE.pick _ ⟨rfl, trivial⟩, hS⟩
    · obtain ⟨hlt58, hx59, hd57⟩ := drop_cons hd57
      rw [Fishref2LoadsOf.loop1] at hq52
      refine W.seq ?_
      refine W.region ?_
      refine WL.vS hS hE (runs_plain rfl) (Gives.p hE rfl) rfl ?_; clear hE a; intro a hE
      refine WL.nil ?_
      refine W.seq ?_
      refine W.condT hE rfl (decide_eq_true (by omega)) ?_
      refine W.skip ?_
      refine W.seq ?_
      refine W.block ?_
      refine W.seq ?_
      refine W.region ?_
      obtain ⟨cs71, hl72, hR73, hat74⟩ := h1.at hx59
      obtain ⟨a75, c76, rfl, h77⟩ := hR73
      refine WL.vS hS hE (runs_plain rfl) (Gives.idx hE k54 rfl rfl sl23 rfl hlt58 (h1.aok hlt58)) rfl ?_; clear hE a; intro a hE
      refine WL.vS hS hE (runs_plain rfl) (Gives.load1 hE rfl (fun w h => hat74 w _ h) ty22) rfl ?_; clear hE a; intro a hE
      refine WL.vS hS hE (runs_plain rfl) (Gives.p hE rfl) rfl ?_; clear hE a; intro a hE
      refine WL.nil ?_
      refine W.seq ?_
      refine W.region ?_
      refine WL.vS hS hE (runs_plain rfl) (Gives.p hE rfl) rfl ?_; clear hE a; intro a hE
      refine WL.nil ?_
      refine W.seq ?_
      refine W.seq ?_
      refine W.region ?_
      refine WL.vS hS hE (runs_plain rfl) (Gives.p hE rfl) rfl ?_; clear hE a; intro a hE
      refine WL.vS hS hE (runs_plain rfl) (Gives.len hE rfl sl22) rfl ?_; clear hE a; intro a hE
      refine WL.vS hS hE (runs_plain rfl) (Gives.p hE rfl) rfl ?_; clear hE a; intro a hE
      refine WL.nil ?_
      obtain ⟨q79, hq78, hq52⟩ := bindS hq52
      refine W.cut (fun a w => ∃ (q89 : Int), q89 = q79 ∧ Rep a 43 [(0, .slice a0 x0.length c0), (5, .slice a64 q63.length c65), (8, .int .i64 q89), (11, .slice a1 x1.length c1), (12, .int .i64 ((x1).length : Int)), (13, .int .i64 ((k54 : Nat) : Int))] ∧ St w s (vecC 3 1 a64 c65 q63.length cs68 :: R)) ?_ ?_
      · refine W.block ?_
        refine W.loop (fun m a w => ∃ (rest82 : List Int) (k80 : Nat), ∃ (q89 : Int), rest82.length = m ∧ x55.drop k80 = rest82 ∧ Fishref2LoadsOf.loop2 x0 rest82 q89 = some q79 ∧ Rep a 43 [(0, .slice a0 x0.length c0), (5, .slice a64 q63.length c65), (8, .int .i64 q89), (11, .slice a1 x1.length c1), (12, .int .i64 ((x1).length : Int)), (13, .int .i64 ((k54 : Nat) : Int)), (17, .slice a75 x55.length c76), (18, .int .i64 ((x55).length : Int)), (19, .int .i64 ((k80 : Nat) : Int))] ∧ St w s (vecC 3 1 a64 c65 q63.length cs68 :: R)) (m := x55.length) ⟨x55, 0, 0, rfl, rfl, hq78, hE.pick _ ⟨rfl, rfl, rfl, rfl, rfl, rfl, rfl, rfl, rfl, trivial⟩, hS⟩ ?_
        clear hE hS a w hq78; rintro m86 a w ⟨rest82, k80, q89, rfl, hd83, hq78, hE, hS⟩
        refine W.gen fun K90 hK90 => ?_
        rcases rest82 with _ | ⟨x81, rest82⟩
        · have hlt84 := drop_nil hd83
          refine W.seq ?_
          refine W.region ?_
          refine WL.vS hS hE (runs_plain rfl) (Gives.p hE rfl) rfl ?_; clear hE a; intro a hE
          refine WL.nil ?_
          refine W.seq ?_
          refine W.condF hE rfl (decide_eq_false (by omega)) ?_
          subst hK90
          refine W.exit rfl ?_
          exact ⟨q89, Option.some.inj hq78, hE.pick _ ⟨rfl, rfl, rfl, rfl, rfl, rfl, trivial⟩, hS⟩
        · obtain ⟨hlt84, hx85, hd83⟩ := drop_cons hd83
          rw [Fishref2LoadsOf.loop2] at hq78
          refine W.seq ?_
          refine W.region ?_
          refine WL.vS hS hE (runs_plain rfl) (Gives.p hE rfl) rfl ?_; clear hE a; intro a hE
          refine WL.nil ?_
          refine W.seq ?_
          refine W.condT hE rfl (decide_eq_true (by omega)) ?_
          refine W.skip ?_
          refine W.seq ?_
          refine W.block ?_
          refine W.seq ?_
          refine W.region ?_
          obtain ⟨cs91, hl92, hR93, hat94⟩ := h77.at hx85
          subst hR93
          refine WL.vS hS hE (runs_plain rfl) (Gives.idx hE k80 rfl rfl sl22 rfl hlt84 (h77.aok hlt84)) rfl ?_; clear hE a; intro a hE
          refine WL.vS hS hE (runs_plain rfl) (Gives.load1 hE rfl (fun w h => hat94 w _ h) ty3) rfl ?_; clear hE a; intro a hE
          refine WL.vS hS hE (runs_plain rfl) (Gives.p hE rfl) rfl ?_; clear hE a; intro a hE
          refine WL.nil ?_
          refine W.regionQ (C := fun w => St w s (vecC 3 1 a64 c65 q63.length cs68 :: R)) mixed (by kernel_rfl) hS.drew ?_
          refine QL.v hE (runs_plain rfl) (Gives.p hE rfl) rfl ?_; clear hE a; intro a hE
          refine QL.v hE (runs_plain rfl) (Gives.p hE rfl) rfl ?_; clear hE a; intro a hE
          refine QL.v hE (runs_plain rfl) (Gives.p hE rfl) rfl ?_; clear hE a; intro a hE
          obtain ⟨x95, hx96, hq78⟩ := bindS hq78
          obtain ⟨hi97, hlt98, hy99⟩ := gx_some hx96
          obtain ⟨cs100, hl101, hR102, hat103⟩ := h0.at hy99
          subst hR102
          refine QL.v hE (runs_plain rfl) (Gives.idx hE (x81).toNat rfl rfl sl50 hi97 hlt98 (h0.aok hlt98)) rfl ?_; clear hE a; intro a hE
          refine QL.v hE (runs_plain rfl) (Gives.fld hE rfl fl90_2) rfl ?_; clear hE a; intro a hE
          refine QL.v hE (runs_plain rfl) (Gives.load1 hE rfl (fun w h => (hat103 w _ h).one rfl) ty3) rfl ?_; clear hE a; intro a hE
          refine QL.v hE (runs_plain rfl) (Gives.p hE rfl) rfl ?_; clear hE a; intro a hE
          refine QL.v hE (runs_plain rfl) (Gives.p hE rfl) rfl ?_; clear hE a; intro a hE
          obtain ⟨x104, hx105, hq78⟩ := bindS hq78
          obtain ⟨hi106, hlt107, hy108⟩ := gx_some hx105
          obtain ⟨cs109, hl110, hR111, hat112⟩ := h0.at hy108
          subst hR111
          refine QL.v hE (runs_plain rfl) (Gives.idx hE (x81).toNat rfl rfl sl50 hi106 hlt107 (h0.aok hlt107)) rfl ?_; clear hE a; intro a hE
          refine QL.v hE (runs_plain rfl) (Gives.fld hE rfl fl90_1) rfl ?_; clear hE a; intro a hE
          refine QL.v hE (runs_plain rfl) (Gives.load1 hE rfl (fun w h => (hat112 w _ h).one rfl) ty3) rfl ?_; clear hE a; intro a hE
          refine QL.v hE (runs_plain rfl) (Gives.p hE rfl) rfl ?_; clear hE a; intro a hE
          refine QL.v hE (runs_plain rfl) (Gives.p hE rfl) rfl ?_; clear hE a; intro a hE
          refine QL.v hE (runs_plain rfl) (Gives.p hE rfl) rfl ?_; clear hE a; intro a hE
          refine QL.nil ?_; clear hS w; intro w hS
          refine W.region ?_
          refine WL.vS hS hE (runs_plain rfl) (Gives.inc hE rfl (by have := h77.small; omega)) rfl ?_; clear hE a; intro a hE
          refine WL.vS hS hE (runs_plain rfl) (Gives.p hE rfl) rfl ?_; clear hE a; intro a hE
          refine WL.nil ?_
          subst hK90
          exact ⟨rest82.length, Nat.lt_succ_self _, rest82, k80 + 1, (w64 (q89 + (w64 (x95.End - x104.Start)))), rfl, hd83, hq78, hE.pick _ ⟨rfl, rfl, rfl, rfl, rfl, rfl, rfl, rfl, rfl, trivial⟩, hS⟩
      · clear hE hS a w; rintro a w ⟨q89, rfl, hE, hS⟩
        refine W.region ?_
        refine WL.vS hS hE (runs_plain rfl) (Gives.p hE rfl) rfl ?_; clear hE a; intro a hE
        refine WL.vS hS hE (runs_plain rfl) (Gives.p hE rfl) rfl ?_; clear hE a; intro a hE
        refine WL.lit hE hS (e := 3) (es := 1) (vs := [(0, .int .i64 q89)]) (cs := [.int .i64 q89]) (runs_plain rfl) rfl (by kernel_rfl) rfl ?_; clear hE hS a w; intro b113 a w hE hS
        obtain ⟨x114, hx115, hq52⟩ := bindS hq52
        refine WL.appD hE hS 0 (m := 1) (runs_plain rfl) rfl rfl rfl ap22 rfl h66 rfl (xs := [q89]) (Ev.cons (c1 := [.int .i64 q89]) rfl rfl (Ev.nil)) rfl rfl hx115 rfl ?_; clear hE hS a w; intro a116 c117 cs118 a w h119 hE hS
        refine WL.vS hS hE (runs_plain rfl) (Gives.p hE rfl) rfl ?_; clear hE a; intro a hE
        refine WL.nil ?_
        refine W.region ?_
        refine WL.vS hS hE (runs_plain rfl) (Gives.inc hE rfl (by have := h1.small; omega)) rfl ?_; clear hE a; intro a hE
        refine WL.vS hS hE (runs_plain rfl) (Gives.p hE rfl) rfl ?_; clear hE a; intro a hE
        refine WL.nil ?_
        subst hK70
        exact ⟨rest56.length, Nat.lt_succ_self _, rest56, k54 + 1, x114, a116, c117, x114.length, cs118, rfl, hd57, hq52, h119, (rfl), hE.pick _ ⟨rfl, rfl, rfl, rfl, rfl, trivial⟩, hS⟩
  · clear hE hS a w; rintro a w ⟨q63, a64, c65, n67, cs68, rfl, h66, rfl, hE, hS⟩
    refine W.seq ?_
    refine W.region ?_
    refine WL.vS hS hE (runs_plain rfl) (Gives.p hE rfl) rfl ?_; clear hE a; intro a hE
    refine WL.vS hS hE (runs_plain rfl) (Gives.p hE rfl) rfl ?_; clear hE a; intro a hE
    refine WL.nil ?_
    refine W.ret ?_
    refine finG (fn := Try.f32) (rs := [.tmp 4]) (vs := [_]) hE rfl ⟨rfl, trivial⟩ ?_
    obtain rfl := Option.some.inj hr
    exact ⟨a64, c65, q63.length, cs68, rfl, h66, rfl, hS⟩
set_option maxHeartbeats 8000000 in
theorem SlicesEqualLint_ok  {w : World} {s : Sg} {R : List HP} {x0 : List Int} {a0 : Option Addr} {c0 : Nat} {x1 : List Int} {a1 : Option Addr} {c1 : Nat} (hS : St w s (R)) (h0 : Sl 1 (RI .i64) s a0 c0 x0) (h1 : Sl 1 (RI .i64) s a1 c1 x1) {r : Bool} (hr : SlicesEqualLint x0 x1 = some r) :
    Calls Try.prog 24 [.slice a0 x0.length c0, .slice a1 x1.length c1].toArray w (fun e w => e = .returned (.bool r) ∧ St w s (R)) := by
  refine enter Try.func24 rfl rfl rfl fun a hE => ?_
  rw [SlicesEqualLint] at hr
  refine W.seq ?_
  refine W.region ?_
  refine WL.vS hS hE (runs_plain rfl) (Gives.p hE rfl) rfl ?_; clear hE a; intro a hE
  refine WL.nil ?_
  refine W.seq ?_
  refine W.seq ?_
  refine W.region ?_
  refine WL.vS hS hE (runs_plain rfl) (Gives.p hE rfl) rfl ?_; clear hE a; intro a hE
  refine WL.vS hS hE (runs_plain rfl) (Gives.len hE rfl sl22) rfl ?_; clear hE a; intro a hE
  refine WL.vS hS hE (runs_plain rfl) (Gives.p hE rfl) rfl ?_; clear hE a; intro a hE
  refine WL.vS hS hE (runs_plain rfl) (Gives.len hE rfl sl22) rfl ?_; clear hE a; intro a hE
  refine WL.vS hS hE (runs_plain rfl) (Gives.p hE rfl) rfl ?_; clear hE a; intro a hE
  refine WL.nil ?_
  refine W.cond hE rfl (fun hc51 => ?_) (fun hc51 => ?_)
  · replace hr := iteT hc51 hr
    refine W.seq ?_
    refine W.region ?_
    refine WL.vS hS hE (runs_plain rfl) (Gives.p hE rfl) rfl ?_; clear hE a; intro a hE
    refine WL.nil ?_
    refine W.ret ?_
    refine finG (fn := Try.f24) (rs := [.tmp 4]) (vs := [_]) hE rfl ⟨rfl, trivial⟩ ?_
    obtain rfl := Option.some.inj hr
    exact ⟨rfl, hS⟩
  · replace hr := iteF hc51 hr
    refine W.skip ?_
    refine W.seq ?_
    refine W.seq ?_
    refine W.region ?_
    refine WL.vS hS hE (runs_plain rfl) (Gives.p hE rfl) rfl ?_; clear hE a; intro a hE
    refine WL.vS hS hE (runs_plain rfl) (Gives.len hE rfl sl22) rfl ?_; clear hE a; intro a hE
    refine WL.vS hS hE (runs_plain rfl) (Gives.p hE rfl) rfl ?_; clear hE a; intro a hE
    refine WL.nil ?_
    obtain ⟨q53, hq52, hr⟩ := bindS hr
    refine W.cut (fun a w => (.next ()) = q53 ∧ Rep a 26 [] ∧ St w s (R)) ?_ ?_
    · refine W.block ?_
      refine W.loop (fun m a w => ∃ (rest56 : List Int) (k54 : Nat), rest56.length = m ∧ x0.drop k54 = rest56 ∧ SlicesEqualLint.loop1 x1 rest56 k54 = some q53 ∧ Rep a 26 [(0, .slice a0 x0.length c0), (1, .slice a1 x1.length c1), (12, .int .i64 ((x0).length : Int)), (13, .int .i64 ((k54 : Nat) : Int))] ∧ St w s (R)) (m := x0.length) ⟨x0, 0, rfl, rfl, hq52, hE.pick _ ⟨rfl, rfl, rfl, rfl, trivial⟩, hS⟩ ?_
      clear hE hS a w hq52; rintro m60 a w ⟨rest56, k54, rfl, hd57, hq52, hE, hS⟩
      refine W.gen fun K63 hK63 => ?_
      rcases rest56 with _ | ⟨x55, rest56⟩
      · have hlt58 := drop_nil hd57
        refine W.seq ?_
        refine W.region ?_
        refine WL.vS hS hE (runs_plain rfl) (Gives.p hE rfl) rfl ?_; clear hE a; intro a hE
        refine WL.nil ?_
        refine W.seq ?_
        refine W.condF hE rfl (decide_eq_false (by omega)) ?_
        subst hK63
        refine W.exit rfl ?_
        exact ⟨Option.some.inj hq52, hE.pick _ trivial, hS⟩
      · obtain ⟨hlt58, hx59, hd57⟩ := drop_cons hd57
        rw [SlicesEqualLint.loop1] at hq52
        refine W.seq ?_
        refine W.region ?_
        refine WL.vS hS hE (runs_plain rfl) (Gives.p hE rfl) rfl ?_; clear hE a; intro a hE
        refine WL.nil ?_
        refine W.seq ?_
        refine W.condT hE rfl (decide_eq_true (by omega)) ?_
        refine W.skip ?_
        refine W.seq ?_
        refine W.block ?_
        refine W.seq ?_
        refine W.region ?_
        refine WL.vS hS hE (runs_plain rfl) (Gives.p hE rfl) rfl ?_; clear hE a; intro a hE
        refine WL.vS hS hE (runs_plain rfl) (Gives.p hE rfl) rfl ?_; clear hE a; intro a hE
        refine WL.nil ?_
        refine W.seq ?_
        refine W.regionQ (C := fun w => St w s (R)) mixed (by kernel_rfl) hS.drew ?_
        refine QL.v hE (runs_plain rfl) (Gives.p hE rfl) rfl ?_; clear hE a; intro a hE
        refine QL.v hE (runs_plain rfl) (Gives.p hE rfl) rfl ?_; clear hE a; intro a hE
        obtain ⟨cs64, hl65, hR66, hat67⟩ := h0.at hx59
        subst hR66
        refine QL.v hE (runs_plain rfl) (Gives.idx hE k54 rfl rfl sl22 rfl hlt58 (h0.aok hlt58)) rfl ?_; clear hE a; intro a hE
        refine QL.v hE (runs_plain rfl) (Gives.load1 hE rfl (fun w h => hat67 w _ h) ty3) rfl ?_; clear hE a; intro a hE
        refine QL.v hE (runs_plain rfl) (Gives.p hE rfl) rfl ?_; clear hE a; intro a hE
        refine QL.v hE (runs_plain rfl) (Gives.p hE rfl) rfl ?_; clear hE a; intro a hE
        obtain ⟨x68, hx69, hq52⟩ := bindS hq52
        obtain ⟨hi70, hlt71, hy72⟩ := gx_some hx69
        obtain ⟨cs73, hl74, hR75, hat76⟩ := h1.at hy72
        subst hR75
        refine QL.v hE (runs_plain rfl) (Gives.idx hE (((k54 : Nat) : Int)).toNat rfl rfl sl22 hi70 hlt71 (h1.aok hlt71)) rfl ?_; clear hE a; intro a hE
        refine QL.v hE (runs_plain rfl) (Gives.load1 hE rfl (fun w h => hat76 w _ h) ty3) rfl ?_; clear hE a; intro a hE
        refine QL.v hE (runs_plain rfl) (Gives.p hE rfl) rfl ?_; clear hE a; intro a hE
        refine QL.nil ?_; clear hS w; intro w hS
        refine W.cond hE rfl (fun hc77 => ?_) (fun hc77 => ?_)
        · replace hq52 := iteT hc77 hq52
          refine W.seq ?_
          refine W.region ?_
          refine WL.vS hS hE (runs_plain rfl) (Gives.p hE rfl) rfl ?_; clear hE a; intro a hE
          refine WL.nil ?_
          refine W.ret ?_
          subst hK63
          rw [← Option.some.inj hq52] at hr
          dsimp only at hr
          refine finG (fn := Try.f24) (rs := [.tmp 4]) (vs := [_]) hE rfl ⟨rfl, trivial⟩ ?_
          obtain rfl := Option.some.inj hr
          exact ⟨rfl, hS⟩
        · replace hq52 := iteF hc77 hq52
          refine W.skip ?_
          refine W.region ?_
          refine WL.vS hS hE (runs_plain rfl) (Gives.inc hE rfl (by have := h0.small; omega)) rfl ?_; clear hE a; intro a hE
          refine WL.vS hS hE (runs_plain rfl) (Gives.p hE rfl) rfl ?_; clear hE a; intro a hE
          refine WL.nil ?_
          subst hK63
          exact ⟨rest56.length, Nat.lt_succ_self _, rest56, k54 + 1, rfl, hd57, hq52, hE.pick _ ⟨rfl, rfl, rfl, rfl, trivial⟩, hS⟩
    · clear hE hS a w; rintro a w ⟨rfl, hE, hS⟩
      dsimp only at hr
      refine W.seq ?_
      refine W.region ?_
      refine WL.vS hS hE (runs_plain rfl) (Gives.p hE rfl) rfl ?_; clear hE a; intro a hE
      refine WL.nil ?_
      refine W.ret ?_
      refine finG (fn := Try.f24) (rs := [.tmp 4]) (vs := [_]) hE rfl ⟨rfl, trivial⟩ ?_
      obtain rfl := Option.some.inj hr
      exact ⟨rfl, hS⟩
set_option maxHeartbeats 8000000 in
theorem Fishlaw2FleetShifts_ok  {w : World} {s : Sg} {R : List HP} {x0 : List FleetShift} {a0 : Option Addr} {c0 : Nat} {x1 : List (List Int)} {a1 : Option Addr} {c1 : Nat} {x2 : FleetLimits} (hS : St w s (R)) (h0 : Sl 3 RFleetShift s a0 c0 x0) (h1 : Sl 1 (RL 1 (RI .i64)) s a1 c1 x1) {r : Bool} (hr : Fishlaw2FleetShifts x0 x1 x2 = some r) :
    Calls Try.prog 6 [.slice a0 x0.length c0, .slice a1 x1.length c1, .agg (FleetLimits.cells x2).toArray].toArray w (fun e w => e = .returned (.bool r) ∧ St w s (R)) := by
  refine enter Try.func6 rfl rfl rfl fun a hE => ?_
  rw [Fishlaw2FleetShifts] at hr
  refine W.seq ?_
  refine W.region ?_
  refine WL.box hE hS (runs_plain rfl) rfl rfl rfl ?_; clear hE hS a w; intro b51 a w hE hS
  refine WL.vS hS hE (runs_plain rfl) (Gives.p hE rfl) rfl ?_; clear hE a; intro a hE
  refine WL.nil ?_
  refine W.seq ?_
  refine W.region ?_
  refine WL.vS hS hE (runs_plain rfl) (Gives.p hE rfl) rfl ?_; clear hE a; intro a hE
  refine WL.vS hS hE (runs_plain rfl) (Gives.p hE rfl) rfl ?_; clear hE a; intro a hE
  refine WL.vS hS hE (runs_plain rfl) (Gives.loadBA hE 0 rfl rfl ty35) rfl ?_; clear hE a; intro a hE
  obtain ⟨q52, hq53, hr⟩ := bindS hr
  refine WL.fn hE (FleetJudgeRoster_ok hS h0 h1 hq53) (runs_plain rfl) bd26 rfl rfl ?_
  clear hE hS; rintro e w ⟨rfl, hS⟩; refine ⟨_, rfl, ?_⟩; clear a; intro a hE
  refine WL.vS hS hE (runs_plain rfl) (Gives.p hE rfl) rfl ?_; clear hE a; intro a hE
  refine WL.vS hS hE (runs_plain rfl) (Gives.p hE rfl) rfl ?_; clear hE a; intro a hE
  refine WL.vS hS hE (runs_plain rfl) (Gives.p hE rfl) rfl ?_; clear hE a; intro a hE
  refine WL.vS hS hE (runs_plain rfl) (Gives.p hE rfl) rfl ?_; clear hE a; intro a hE
  refine WL.vS hS hE (runs_plain rfl) (Gives.p hE rfl) rfl ?_; clear hE a; intro a hE
  refine WL.nil ?_
  refine W.seq ?_
  refine W.region ?_
  refine WL.vS hS hE (runs_plain rfl) (Gives.p hE rfl) rfl ?_; clear hE a; intro a hE
  refine WL.vS hS hE (runs_plain rfl) (Gives.p hE rfl) rfl ?_; clear hE a; intro a hE
  refine WL.vS hS hE (runs_plain rfl) (Gives.loadBA hE 0 rfl rfl ty35) rfl ?_; clear hE a; intro a hE
  obtain ⟨q54, hq55, hr⟩ := bindS hr
  refine WL.fn hE (Fishref2JudgeRosterOf_ok hS h0 h1 hq55) (runs_plain rfl) bd27 rfl rfl ?_
  clear hE hS; rintro e w ⟨rfl, hS⟩; refine ⟨_, rfl, ?_⟩; clear a; intro a hE
  refine WL.vS hS hE (runs_plain rfl) (Gives.p hE rfl) rfl ?_; clear hE a; intro a hE
  refine WL.vS hS hE (runs_plain rfl) (Gives.p hE rfl) rfl ?_; clear hE a; intro a hE
  refine WL.vS hS hE (runs_plain rfl) (Gives.p hE rfl) rfl ?_; clear hE a; intro a hE
  refine WL.vS hS hE (runs_plain rfl) (Gives.p hE rfl) rfl ?_; clear hE a; intro a hE
  refine WL.vS hS hE (runs_plain rfl) (Gives.p hE rfl) rfl ?_; clear hE a; intro a hE
  refine WL.nil ?_
  refine W.seq ?_
  refine W.region ?_
  refine WL.vS hS hE (runs_plain rfl) (Gives.p hE rfl) rfl ?_; clear hE a; intro a hE
  refine WL.vS hS hE (runs_plain rfl) (Gives.p hE rfl) rfl ?_; clear hE a; intro a hE
  obtain ⟨q56, hq57, hr⟩ := bindS hr
  refine WL.fn hE (FleetLoads_ok hS h0 h1 hq57) (runs_plain rfl) bd28 rfl rfl ?_
  clear hE hS; rintro e w ⟨a58, c59, n60, cs61, rfl, h62, rfl, hS⟩; refine ⟨_, rfl, ?_⟩; clear a; intro a hE
  refine WL.vS hS hE (runs_plain rfl) (Gives.p hE rfl) rfl ?_; clear hE a; intro a hE
  refine WL.vS hS hE (runs_plain rfl) (Gives.p hE rfl) rfl ?_; clear hE a; intro a hE
  refine WL.vS hS hE (runs_plain rfl) (Gives.p hE rfl) rfl ?_; clear hE a; intro a hE
  refine WL.vS hS hE (runs_plain rfl) (Gives.p hE rfl) rfl ?_; clear hE a; intro a hE
  refine WL.vS hS hE (runs_plain rfl) (Gives.p hE rfl) rfl ?_; clear hE a; intro a hE
  refine WL.nil ?_
  refine W.seq ?_
  refine W.region ?_
  refine WL.vS hS hE (runs_plain rfl) (Gives.p hE rfl) rfl ?_; clear hE a; intro a hE
  refine WL.fn hE (Fishref2ShiftsFault_ok hS h0 rfl) (runs_plain rfl) bd29 rfl rfl ?_
  clear hE hS; rintro e w ⟨rfl, hS⟩; refine ⟨_, rfl, ?_⟩; clear a; intro a hE
  refine WL.vS hS hE (runs_plain rfl) (Gives.p hE rfl) rfl ?_; clear hE a; intro a hE
  refine WL.nil ?_
  refine W.seq ?_
  refine W.seq ?_
  obtain ⟨q65, hq64, hr⟩ := bindS hr
  refine W.cut (fun a w => ∃ (q68 : Bool), q68 = q65 ∧ Rep a 78 [(0, .slice a0 x0.length c0), (1, .slice a1 x1.length c1), (11, .slice a58 q56.1.length c59), (12, .int .i64 q56.2), (13, .int .i64 (Fishref2ShiftsFault x0)), (53, .bool q68)] ∧ St w s (vecC 3 1 a58 c59 q56.1.length cs61 :: pt b51 (.cells (FleetLimits.cells x2).toArray 35 (0, 0)) :: R)) ?_ ?_
  · refine W.gen fun K69 hK69 => ?_
    refine W.region ?_
    obtain ⟨q70, hq71, hq64⟩ := bindS hq64
    refine WL.fn hE (Fishlaw2crews_ok hS  hq71) (runs_plain rfl) bd19 rfl rfl ?_
    clear hE hS; rintro e w ⟨rfl, hS⟩; refine ⟨_, rfl, ?_⟩; clear a; intro a hE
    refine WL.vS hS hE (runs_plain rfl) (Gives.p hE rfl) rfl ?_; clear hE a; intro a hE
    refine WL.vS hS hE (runs_plain rfl) (Gives.p hE rfl) rfl ?_; clear hE a; intro a hE
    rcases Bool.eq_false_or_eq_true !q70 with hg72 | hg72
    · replace hq64 := iteT hg72 hq64
      refine WL.no hE (runs_not hE rfl rfl rfl (by rw [hg72]; decide)) rfl ?_; clear hE a; intro a hE
      refine WL.no hE (runs_not hE rfl rfl rfl (by rw [hg72]; decide)) rfl ?_; clear hE a; intro a hE
      refine WL.no hE (runs_not hE rfl rfl rfl (by rw [hg72]; decide)) rfl ?_; clear hE a; intro a hE
      refine WL.no hE (runs_not hE rfl rfl rfl (by rw [hg72]; decide)) rfl ?_; clear hE a; intro a hE
      refine WL.vS hS hE (runs_plain rfl) (Gives.pickT hE rfl hg72 rfl) rfl ?_; clear hE a; intro a hE
      refine WL.vS hS hE (runs_plain rfl) (Gives.p hE rfl) rfl ?_; clear hE a; intro a hE
      refine WL.no hE (runs_not hE rfl rfl rfl (by decide)) rfl ?_; clear hE a; intro a hE
      refine WL.no hE (runs_not hE rfl rfl rfl (by decide)) rfl ?_; clear hE a; intro a hE
      refine WL.no hE (runs_not hE rfl rfl rfl (by decide)) rfl ?_; clear hE a; intro a hE
      refine WL.vS hS hE (runs_plain rfl) (Gives.pickT hE rfl rfl rfl) rfl ?_; clear hE a; intro a hE
      refine WL.vS hS hE (runs_plain rfl) (Gives.p hE rfl) rfl ?_; clear hE a; intro a hE
      refine WL.no hE (runs_not hE rfl rfl rfl (by decide)) rfl ?_; clear hE a; intro a hE
      refine WL.no hE (runs_not hE rfl rfl rfl (by decide)) rfl ?_; clear hE a; intro a hE
      refine WL.no hE (runs_not hE rfl rfl rfl (by decide)) rfl ?_; clear hE a; intro a hE
      refine WL.vS hS hE (runs_plain rfl) (Gives.pickT hE rfl rfl rfl) rfl ?_; clear hE a; intro a hE
      refine WL.nil ?_
      subst hK69
      exact ⟨true, Option.some.inj hq64, hE.pick _ ⟨rfl, rfl, rfl, rfl, rfl, rfl, trivial⟩, hS⟩
    · replace hq64 := iteF hg72 hq64
      refine WL.vS hS hE (runs_if hE rfl rfl rfl hg72) (Gives.p hE rfl) rfl ?_; clear hE a; intro a hE
      refine WL.fn hE (FleetCheckShifts_ok hS h0 rfl) (runs_if hE rfl rfl rfl hg72) bd30 rfl rfl ?_
      clear hE hS; rintro e w ⟨rfl, hS⟩; refine ⟨_, rfl, ?_⟩; clear a; intro a hE
      refine WL.vS hS hE (runs_if hE rfl rfl rfl hg72) (Gives.p hE rfl) rfl ?_; clear hE a; intro a hE
      refine WL.vS hS hE (runs_if hE rfl rfl rfl hg72) (Gives.p hE rfl) rfl ?_; clear hE a; intro a hE
      refine WL.vS hS hE (runs_plain rfl) (Gives.pickF hE rfl hg72 rfl) rfl ?_; clear hE a; intro a hE
      refine WL.vS hS hE (runs_plain rfl) (Gives.p hE rfl) rfl ?_; clear hE a; intro a hE
      rcases Bool.eq_false_or_eq_true ((FleetCheckShifts x0) != (Fishref2ShiftsFault x0)) with hg73 | hg73
      · replace hq64 := iteT hg73 hq64
        refine WL.no hE (runs_not hE rfl rfl rfl (by rw [hg73]; decide)) rfl ?_; clear hE a; intro a hE
        refine WL.no hE (runs_not hE rfl rfl rfl (by rw [hg73]; decide)) rfl ?_; clear hE a; intro a hE
        refine WL.no hE (runs_not hE rfl rfl rfl (by rw [hg73]; decide)) rfl ?_; clear hE a; intro a hE
        refine WL.vS hS hE (runs_plain rfl) (Gives.pickT hE rfl hg73 rfl) rfl ?_; clear hE a; intro a hE
        refine WL.vS hS hE (runs_plain rfl) (Gives.p hE rfl) rfl ?_; clear hE a; intro a hE
        refine WL.no hE (runs_not hE rfl rfl rfl (by decide)) rfl ?_; clear hE a; intro a hE
        refine WL.no hE (runs_not hE rfl rfl rfl (by decide)) rfl ?_; clear hE a; intro a hE
        refine WL.no hE (runs_not hE rfl rfl rfl (by decide)) rfl ?_; clear hE a; intro a hE
        refine WL.vS hS hE (runs_plain rfl) (Gives.pickT hE rfl rfl rfl) rfl ?_; clear hE a; intro a hE
        refine WL.nil ?_
        subst hK69
        exact ⟨true, Option.some.inj hq64, hE.pick _ ⟨rfl, rfl, rfl, rfl, rfl, rfl, trivial⟩, hS⟩
      · replace hq64 := iteF hg73 hq64
        refine WL.vS hS hE (runs_if hE rfl rfl rfl hg73) (Gives.p hE rfl) rfl ?_; clear hE a; intro a hE
        refine WL.vS hS hE (runs_if hE rfl rfl rfl hg73) (Gives.p hE rfl) rfl ?_; clear hE a; intro a hE
        refine WL.vS hS hE (runs_if hE rfl rfl rfl hg73) (Gives.p hE rfl) rfl ?_; clear hE a; intro a hE
        refine WL.vS hS hE (runs_plain rfl) (Gives.pickF hE rfl hg73 rfl) rfl ?_; clear hE a; intro a hE
        refine WL.vS hS hE (runs_plain rfl) (Gives.p hE rfl) rfl ?_; clear hE a; intro a hE
        rcases Bool.eq_false_or_eq_true (q52.1 != q54.1) with hg74 | hg74
        · replace hq64 := iteT hg74 hq64
          refine WL.no hE (runs_not hE rfl rfl rfl (by rw [hg74]; decide)) rfl ?_; clear hE a; intro a hE
          refine WL.no hE (runs_not hE rfl rfl rfl (by rw [hg74]; decide)) rfl ?_; clear hE a; intro a hE
          refine WL.no hE (runs_not hE rfl rfl rfl (by rw [hg74]; decide)) rfl ?_; clear hE a; intro a hE
          refine WL.vS hS hE (runs_plain rfl) (Gives.pickT hE rfl hg74 rfl) rfl ?_; clear hE a; intro a hE
          refine WL.nil ?_
          subst hK69
          exact ⟨true, Option.some.inj hq64, hE.pick _ ⟨rfl, rfl, rfl, rfl, rfl, rfl, trivial⟩, hS⟩
        · replace hq64 := iteF hg74 hq64
          refine WL.vS hS hE (runs_if hE rfl rfl rfl hg74) (Gives.p hE rfl) rfl ?_; clear hE a; intro a hE
          refine WL.vS hS hE (runs_if hE rfl rfl rfl hg74) (Gives.p hE rfl) rfl ?_; clear hE a; intro a hE
          refine WL.vS hS hE (runs_if hE rfl rfl rfl hg74) (Gives.p hE rfl) rfl ?_; clear hE a; intro a hE
          refine WL.vS hS hE (runs_plain rfl) (Gives.pickF hE rfl hg74 rfl) rfl ?_; clear hE a; intro a hE
          refine WL.nil ?_
          subst hK69
          exact ⟨(q52.2 != q54.2), Option.some.inj hq64, hE.pick _ ⟨rfl, rfl, rfl, rfl, rfl, rfl, trivial⟩, hS⟩
  · clear hE hS a w; rintro a w ⟨q68, rfl, hE, hS⟩
    refine W.cond hE rfl (fun hc75 => ?_) (fun hc75 => ?_)
    · replace hr := iteT hc75 hr
      refine W.seq ?_
      refine W.region ?_
      refine WL.vS hS hE (runs_plain rfl) (Gives.p hE rfl) rfl ?_; clear hE a; intro a hE
      refine WL.nil ?_
      refine W.ret ?_
      refine finG (fn := Try.f6) (rs := [.tmp 6]) (vs := [_]) hE rfl ⟨rfl, trivial⟩ ?_
      obtain rfl := Option.some.inj hr
      replace hS := hS.tail
      replace hS := hS.tail
      exact ⟨rfl, hS⟩
    · replace hr := iteF hc75 hr
      refine W.skip ?_
      refine W.seq ?_
      refine W.seq ?_
      refine W.region ?_
      refine WL.vS hS hE (runs_plain rfl) (Gives.p hE rfl) rfl ?_; clear hE a; intro a hE
      refine WL.vS hS hE (runs_plain rfl) (Gives.p hE rfl) rfl ?_; clear hE a; intro a hE
      refine WL.nil ?_
      obtain ⟨q77, hq76, hr⟩ := bndS hr
      refine W.cut (fun a w => ∃ (q80 : Int), q80 = q77 ∧ Rep a 78 [(0, .slice a0 x0.length c0), (1, .slice a1 x1.length c1), (11, .slice a58 q56.1.length c59), (12, .int .i64 q56.2), (13, .int .i64 q80)] ∧ St w s (vecC 3 1 a58 c59 q56.1.length cs61 :: pt b51 (.cells (FleetLimits.cells x2).toArray 35 (0, 0)) :: R)) ?_ ?_
      · refine W.gen fun K81 hK81 => ?_
        refine W.cond hE rfl (fun hc82 => ?_) (fun hc82 => ?_)
        · replace hq76 := iteT hc82 hq76
          refine W.region ?_
          refine WL.vS hS hE (runs_plain rfl) (Gives.p hE rfl) rfl ?_; clear hE a; intro a hE
          refine WL.vS hS hE (runs_plain rfl) (Gives.p hE rfl) rfl ?_; clear hE a; intro a hE
          refine WL.fn hE (Fishref2RosterFault_ok hS h0 h1 rfl) (runs_plain rfl) bd31 rfl rfl ?_
          clear hE hS; rintro e w ⟨rfl, hS⟩; refine ⟨_, rfl, ?_⟩; clear a; intro a hE
          refine WL.vS hS hE (runs_plain rfl) (Gives.p hE rfl) rfl ?_; clear hE a; intro a hE
          refine WL.nil ?_
          subst hK81
          exact ⟨(Fishref2RosterFault x0 x1), hq76, hE.pick _ ⟨rfl, rfl, rfl, rfl, rfl, trivial⟩, hS⟩
        · replace hq76 := iteF hc82 hq76
          refine W.skip ?_
          subst hK81
          exact ⟨(Fishref2ShiftsFault x0), hq76, hE.pick _ ⟨rfl, rfl, rfl, rfl, rfl, trivial⟩, hS⟩
      · clear hE hS a w; rintro a w ⟨q80, rfl, hE, hS⟩
        refine W.seq ?_
        refine W.seq ?_
        refine W.region ?_
        refine WL.vS hS hE (runs_plain rfl) (Gives.p hE rfl) rfl ?_; clear hE a; intro a hE
        refine WL.vS hS hE (runs_plain rfl) (Gives.p hE rfl) rfl ?_; clear hE a; intro a hE
        refine WL.nil ?_
        refine W.cond hE rfl (fun hc83 => ?_) (fun hc83 => ?_)
        · replace hr := iteT hc83 hr
          refine W.seq ?_
          obtain ⟨q85, hq84, hr⟩ := bndS hr
          refine W.cut (fun a w => ∃ (q88 : Bool), q88 = q85 ∧ Rep a 78 [(6, .bool q88)] ∧ St w s (vecC 3 1 a58 c59 q56.1.length cs61 :: pt b51 (.cells (FleetLimits.cells x2).toArray 35 (0, 0)) :: R)) ?_ ?_
          · refine W.gen fun K89 hK89 => ?_
            refine W.region ?_
            refine WL.vS hS hE (runs_plain rfl) (Gives.p hE rfl) rfl ?_; clear hE a; intro a hE
            refine WL.vS hS hE (runs_plain rfl) (Gives.p hE rfl) rfl ?_; clear hE a; intro a hE
            refine WL.vS hS hE (runs_plain rfl) (Gives.p hE rfl) rfl ?_; clear hE a; intro a hE
            refine WL.vS hS hE (runs_plain rfl) (Gives.p hE rfl) rfl ?_; clear hE a; intro a hE
            rcases Bool.eq_false_or_eq_true (q56.2 == q80) with hg90 | hg90
            · replace hq84 := iteT hg90 hq84
              refine WL.vS hS hE (runs_if hE rfl rfl rfl hg90) (Gives.p hE rfl) rfl ?_; clear hE a; intro a hE
              refine WL.vS hS hE (runs_if hE rfl rfl rfl hg90) (Gives.len hE rfl sl22) rfl ?_; clear hE a; intro a hE
              refine WL.vS hS hE (runs_if hE rfl rfl rfl hg90) (Gives.p hE rfl) rfl ?_; clear hE a; intro a hE
              refine WL.vS hS hE (runs_plain rfl) (Gives.pickT hE rfl hg90 rfl) rfl ?_; clear hE a; intro a hE
              refine WL.vS hS hE (runs_plain rfl) (Gives.p hE rfl) rfl ?_; clear hE a; intro a hE
              refine WL.nil ?_
              subst hK89
              exact ⟨(((q56.1.length : Nat) : Int) == 0), hq84, hE.pick _ ⟨rfl, trivial⟩, hS⟩
            · replace hq84 := iteF hg90 hq84
              refine WL.no hE (runs_not hE rfl rfl rfl (by rw [hg90]; decide)) rfl ?_; clear hE a; intro a hE
              refine WL.no hE (runs_not hE rfl rfl rfl (by rw [hg90]; decide)) rfl ?_; clear hE a; intro a hE
              refine WL.no hE (runs_not hE rfl rfl rfl (by rw [hg90]; decide)) rfl ?_; clear hE a; intro a hE
              refine WL.vS hS hE (runs_plain rfl) (Gives.pickF hE rfl hg90 rfl) rfl ?_; clear hE a; intro a hE
              refine WL.vS hS hE (runs_plain rfl) (Gives.p hE rfl) rfl ?_; clear hE a; intro a hE
              refine WL.nil ?_
              subst hK89
              exact ⟨false, hq84, hE.pick _ ⟨rfl, trivial⟩, hS⟩
          · clear hE hS a w; rintro a w ⟨q88, rfl, hE, hS⟩
            refine W.ret ?_
            refine finG (fn := Try.f6) (rs := [.tmp 6]) (vs := [_]) hE rfl ⟨rfl, trivial⟩ ?_
            obtain rfl := Option.some.inj hr
            replace hS := hS.tail
            replace hS := hS.tail
            exact ⟨rfl, hS⟩
        · replace hr := iteF hc83 hr
          refine W.skip ?_
          refine W.seq ?_
          obtain ⟨q92, hq91, hr⟩ := bindS hr
          refine W.cut (fun a w => ∃ (q95 : Bool), q95 = q92 ∧ Rep a 78 [(6, .bool q95)] ∧ St w s (vecC 3 1 a58 c59 q56.1.length cs61 :: pt b51 (.cells (FleetLimits.cells x2).toArray 35 (0, 0)) :: R)) ?_ ?_
          · refine W.gen fun K96 hK96 => ?_
            refine W.region ?_
            refine WL.vS hS hE (runs_plain rfl) (Gives.p hE rfl) rfl ?_; clear hE a; intro a hE
            refine WL.vS hS hE (runs_plain rfl) (Gives.p hE rfl) rfl ?_; clear hE a; intro a hE
            refine WL.vS hS hE (runs_plain rfl) (Gives.p hE rfl) rfl ?_; clear hE a; intro a hE
            rcases Bool.eq_false_or_eq_true (q56.2 == 0) with hg97 | hg97
            · replace hq91 := iteT hg97 hq91
              refine WL.vS hS hE (runs_if hE rfl rfl rfl hg97) (Gives.p hE rfl) rfl ?_; clear hE a; intro a hE
              refine WL.vS hS hE (runs_if hE rfl rfl rfl hg97) (Gives.p hE rfl) rfl ?_; clear hE a; intro a hE
              refine WL.vS hS hE (runs_if hE rfl rfl rfl hg97) (Gives.p hE rfl) rfl ?_; clear hE a; intro a hE
              obtain ⟨q98, hq99, hq91⟩ := bindS hq91
              refine WL.fn hE (Fishref2LoadsOf_ok hS h0 h1 hq99) (runs_if hE rfl rfl rfl hg97) bd32 rfl rfl ?_
              clear hE hS; rintro e w ⟨a100, c101, n102, cs103, rfl, h104, rfl, hS⟩; refine ⟨_, rfl, ?_⟩; clear a; intro a hE
              obtain ⟨q106, hq107, hq91⟩ := bindS hq91
              have hF := hS.lendV RI.mono 1 rfl h62 rfl; clear hS; obtain ⟨t108, hle109, hS, hs110, bk111⟩ := hF
              have hF := hS.lendV RI.mono 0 rfl (Ev.mono RI.mono hle109 h104) rfl; clear hS; obtain ⟨t112, hle113, hS, hs114, bk115⟩ := hF
              refine WL.fn hE (SlicesEqualLint_ok hS (Sl.mono RI.mono hle113 hs110) hs114 hq107) (runs_if hE rfl rfl rfl hg97) bd24 rfl rfl ?_
              clear hE hS; rintro e w ⟨rfl, hS⟩; refine ⟨_, rfl, ?_⟩; clear a; intro a hE
              replace hS := bk115 _ _ hS
              replace hS := bk111 _ _ hS
              refine WL.vS hS hE (runs_plain rfl) (Gives.pickT hE rfl hg97 rfl) rfl ?_; clear hE a; intro a hE
              refine WL.vS hS hE (runs_plain rfl) (Gives.p hE rfl) rfl ?_; clear hE a; intro a hE
              refine WL.nil ?_
              replace hS := hS.dropAt 1
              subst hK96
              exact ⟨q106, Option.some.inj hq91, hE.pick _ ⟨rfl, trivial⟩, hS⟩
            · replace hq91 := iteF hg97 hq91
              refine WL.no hE (runs_not hE rfl rfl rfl (by rw [hg97]; decide)) rfl ?_; clear hE a; intro a hE
              refine WL.no hE (runs_not hE rfl rfl rfl (by rw [hg97]; decide)) rfl ?_; clear hE a; intro a hE
              refine WL.no hE (runs_not hE rfl rfl rfl (by rw [hg97]; decide)) rfl ?_; clear hE a; intro a hE
              refine WL.no hE (runs_not hE rfl rfl rfl (by rw [hg97]; decide)) rfl ?_; clear hE a; intro a hE
              refine WL.no hE (runs_not hE rfl rfl rfl (by rw [hg97]; decide)) rfl ?_; clear hE a; intro a hE
              refine WL.vS hS hE (runs_plain rfl) (Gives.pickF hE rfl hg97 rfl) rfl ?_; clear hE a; intro a hE
              refine WL.vS hS hE (runs_plain rfl) (Gives.p hE rfl) rfl ?_; clear hE a; intro a hE
              refine WL.nil ?_
              subst hK96
              exact ⟨false, Option.some.inj hq91, hE.pick _ ⟨rfl, trivial⟩, hS⟩
          · clear hE hS a w; rintro a w ⟨q95, rfl, hE, hS⟩
            refine W.ret ?_
            refine finG (fn := Try.f6) (rs := [.tmp 6]) (vs := [_]) hE rfl ⟨rfl, trivial⟩ ?_
            obtain rfl := Option.some.inj hr
            replace hS := hS.tail
            replace hS := hS.tail
            exact ⟨rfl, hS⟩
end Go.Proofs.Ytpoooohaoekbaaa
