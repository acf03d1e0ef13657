/- The walks of the functions that MendBests reaches: each call comes to what its mirror says. The conditions are those of each contract. -/
import Derived.Test.YtfioafdipipcaaaProg
import Derived.Test.YtfioafdipipcaaaMendBestsM
import Derived.Test.YtfioafdipipcaaaFpMore
import Derived.Test.YtfioafdipipcaaaMendBestsW1
namespace Go.Proofs.Ytfioafdipipcaaa
open Go Go.Fp
set_option maxHeartbeats 8000000 in
theorem Mendstart_ok {fu : Nat}  {w : World} {s : Sg} {R : List HP} {x0 : MendGraph} {a0_0 : Option Addr} {c0_0 : Nat} {a0_1 : Option Addr} {c0_1 : Nat} {a0_2 : Option Addr} {c0_2 : Nat} {a0_3 : Option Addr} {c0_3 : Nat} {a0_4 : Option Addr} {c0_4 : Nat} (hS : St w s (R)) (h0_0 : Sl 1 (RI .i64) s a0_0 c0_0 x0.Ready) (h0_1 : Sl 1 (RI .i64) s a0_1 c0_1 x0.Last) (h0_2 : Sl 1 (RI .i64) s a0_2 c0_2 x0.Due) (h0_3 : Sl 3 RMendArc s a0_3 c0_3 x0.Arcs) (h0_4 : Sl 1 RMendChoice s a0_4 c0_4 x0.Choices) {r : (Option MendSolver) × Bool} (hr : Mendstart fu x0 = some r) :
    Calls Try.prog 78 [.agg [.slice a0_0 x0.Ready.length c0_0, .slice a0_1 x0.Last.length c0_1, .slice a0_2 x0.Due.length c0_2, .slice a0_3 x0.Arcs.length c0_3, .slice a0_4 x0.Choices.length c0_4].toArray].toArray w (fun e w => ∃ (a0 : Option Addr) (t : Sg), e = .returned (.tuple #[.pointer a0, .bool r.2]) ∧ s.Le t ∧ Pt 3 RMendSolver t a0 r.1 ∧ St w t (R)) := by
  refine enter Try.func78 rfl rfl rfl fun a hE => ?_
  rw [Mendstart] at hr
  refine W.seq ?_
  refine W.region ?_
  refine WL.box hE hS (runs_plain rfl) rfl rfl rfl ?_; clear hE hS a w; intro b51 a w hE hS
  refine WL.vS hS hE (runs_plain rfl) (Gives.p hE rfl) rfl ?_; clear hE a; intro a hE
  refine WL.vS hS hE (runs_plain rfl) (Gives.p hE rfl) rfl ?_; clear hE a; intro a hE
  refine WL.nil ?_
  refine W.seq ?_
  refine W.gen fun K52 hK52 => ?_
  refine W.regionE (sel (fun w => St w s (pt b51 (.cells #[.slice a0_0 x0.Ready.length c0_0, .slice a0_1 x0.Last.length c0_1, .slice a0_2 x0.Due.length c0_2, .slice a0_3 x0.Arcs.length c0_3, .slice a0_4 x0.Choices.length c0_4] 50 (0, 0)) :: R)) (fun w => St w s (pt b51 (.cells #[.slice a0_0 x0.Ready.length c0_0, .slice a0_1 x0.Last.length c0_1, .slice a0_2 x0.Due.length c0_2, .slice a0_3 x0.Arcs.length c0_3, .slice a0_4 x0.Choices.length c0_4] 50 (0, 0)) :: R))) (fun b i => cond b ([0, 1, 2, 3, 4, 5, 6, 7, 8, 9, 10, 11].contains i) ([0, 1, 2, 3, 4, 5, 6, 7, 8, 9, 10, 11].contains i)) mixed ?_
  replace hS := hS.drew
  refine Rg.takeP (i := 0) hE rfl (by kernel_rfl) (runs_plain rfl) (Gives.fld hE rfl fl50_0) rfl (tw_sel (fun _ => hS) (fun _ => hS)) ?_; clear hE a; intro a hE
  have hT := tw_sel (A := fun w => St w s (pt b51 (.cells #[.slice a0_0 x0.Ready.length c0_0, .slice a0_1 x0.Last.length c0_1, .slice a0_2 x0.Due.length c0_2, .slice a0_3 x0.Arcs.length c0_3, .slice a0_4 x0.Choices.length c0_4] 50 (0, 0)) :: R)) (B := fun w => St w s (pt b51 (.cells #[.slice a0_0 x0.Ready.length c0_0, .slice a0_1 x0.Last.length c0_1, .slice a0_2 x0.Due.length c0_2, .slice a0_3 x0.Arcs.length c0_3, .slice a0_4 x0.Choices.length c0_4] 50 (0, 0)) :: R)) (w := _) (x := true) (y := true) (fun _ => hS) (fun _ => hS)
  have hF := hS; replace hS := hS
  refine Rg.take (i := 1) true rfl hE rfl (by kernel_rfl) (runs_plain rfl) (Gives.loadB hE 0 rfl rfl rfl ty22) rfl hT ?_; clear hE a; intro a hE
  replace hS := hF; clear hF hT
  refine Rg.takeP (i := 3) hE rfl (by kernel_rfl) (runs_plain rfl) (Gives.fld hE rfl fl50_1) rfl (tw_sel (fun _ => hS) (fun _ => hS)) ?_; clear hE a; intro a hE
  have hT := tw_sel (A := fun w => St w s (pt b51 (.cells #[.slice a0_0 x0.Ready.length c0_0, .slice a0_1 x0.Last.length c0_1, .slice a0_2 x0.Due.length c0_2, .slice a0_3 x0.Arcs.length c0_3, .slice a0_4 x0.Choices.length c0_4] 50 (0, 0)) :: R)) (B := fun w => St w s (pt b51 (.cells #[.slice a0_0 x0.Ready.length c0_0, .slice a0_1 x0.Last.length c0_1, .slice a0_2 x0.Due.length c0_2, .slice a0_3 x0.Arcs.length c0_3, .slice a0_4 x0.Choices.length c0_4] 50 (0, 0)) :: R)) (w := _) (x := true) (y := true) (fun _ => hS) (fun _ => hS)
  have hF := hS; replace hS := hS
  refine Rg.take (i := 4) true rfl hE rfl (by kernel_rfl) (runs_plain rfl) (Gives.loadB hE 0 rfl rfl rfl ty22) rfl hT ?_; clear hE a; intro a hE
  replace hS := hF; clear hF hT
  refine Rg.takeP (i := 5) hE rfl (by kernel_rfl) (runs_plain rfl) (Gives.fld hE rfl fl50_0) rfl (tw_sel (fun _ => hS) (fun _ => hS)) ?_; clear hE a; intro a hE
  have hT := tw_sel (A := fun w => St w s (pt b51 (.cells #[.slice a0_0 x0.Ready.length c0_0, .slice a0_1 x0.Last.length c0_1, .slice a0_2 x0.Due.length c0_2, .slice a0_3 x0.Arcs.length c0_3, .slice a0_4 x0.Choices.length c0_4] 50 (0, 0)) :: R)) (B := fun w => St w s (pt b51 (.cells #[.slice a0_0 x0.Ready.length c0_0, .slice a0_1 x0.Last.length c0_1, .slice a0_2 x0.Due.length c0_2, .slice a0_3 x0.Arcs.length c0_3, .slice a0_4 x0.Choices.length c0_4] 50 (0, 0)) :: R)) (w := _) (x := true) (y := true) (fun _ => hS) (fun _ => hS)
  have hF := hS; replace hS := hS
  refine Rg.take (i := 6) true rfl hE rfl (by kernel_rfl) (runs_plain rfl) (Gives.loadB hE 0 rfl rfl rfl ty22) rfl hT ?_; clear hE a; intro a hE
  replace hS := hF; clear hF hT
  refine Rg.takeP (i := 7) hE rfl (by kernel_rfl) (runs_plain rfl) (Gives.len hE rfl sl22) rfl (tw_sel (fun _ => hS) (fun _ => hS)) ?_; clear hE a; intro a hE
  obtain ⟨q53, hq54, hr⟩ := bindS hr
  obtain ⟨x61, hx62, hr⟩ := bindS hr
  suffices key : ∀ cs64 cs58 b67 a55 c56 b63 (a : Act) (w : World), Sl 1 (RI .i64) s a0_1 c0_1 x0.Last → Ev 1 (RL 3 RMendArc) s cs64 x61 → Ev 1 (RI .i64) s cs58 q53 → Sl 1 (RI .i64) s a0_0 c0_0 x0.Ready → Sl 1 (RI .i64) s a0_2 c0_2 x0.Due → Sl 3 RMendArc s a0_3 c0_3 x0.Arcs → Sl 1 RMendChoice s a0_4 c0_4 x0.Choices → Rep a 50 [(1, .pointer (some ⟨b51, 0, none⟩)), (4, .pointer (some ⟨b67, 0, none⟩))] → St w s (pt b67 (.cells #[.slice a55 q53.length c56, .slice a0_1 x0.Last.length c0_1, .slice (some ⟨b63, 0, none⟩) x61.length x61.length] 105 (0, 0)) :: vecC 47 1 (some ⟨b63, 0, none⟩) x61.length x61.length cs64 :: vecC 3 1 a55 c56 q53.length cs58 :: pt b51 (.cells #[.slice a0_0 x0.Ready.length c0_0, .slice a0_1 x0.Last.length c0_1, .slice a0_2 x0.Due.length c0_2, .slice a0_3 x0.Arcs.length c0_3, .slice a0_4 x0.Choices.length c0_4] 50 (0, 0)) :: R) → K52.nor a w by
    refine Rg.many 2 [8] (by kernel_rfl) ⟨?_, ?_, trivial⟩
    · refine Br.mk (i := 2) true true rfl (by kernel_rfl) (by kernel_rfl) ?_
      have hc_ := SlicesCloneLint_ok hS h0_0 hq54
      refine WL.fnq hE (hc_) (runs_plain rfl) bd67 rfl rfl rfl ?_
      clear hE hS hc_; rintro e w ⟨a55, c56, n57, cs58, rfl, h59, rfl, hS⟩; refine ⟨_, rfl, ?_⟩; clear a; intro a hE
      refine WL.nil ?_
      refine ⟨⟨fun _ => (hS.tail), fun _ => (hS.tail)⟩, ?_⟩
      refine Rg.one (i := 8) true true rfl (by kernel_rfl) (by kernel_rfl) (by kernel_rfl) ?_
      refine WL.mkD (Rr := RL 3 RMendArc) hE hS (runs_plain rfl) rfl rfl ap95 zr47 ⟨_, _, rfl, Sl.nil⟩ hx62 rfl ?_; clear hE hS a w; intro b63 cs64 a w h65 hE hS
      refine WL.nil ?_
      refine ⟨⟨fun _ => ((hS.tail).tail), fun _ => ((hS.tail).tail)⟩, ?_⟩
      refine Rg.takeP (i := 9) hE rfl (by kernel_rfl) (runs_plain rfl) (Gives.build hE (vs := [(0, .slice a55 q53.length c56), (1, .slice a0_1 x0.Last.length c0_1), (2, .slice (some ⟨b63, 0, none⟩) x61.length x61.length)]) [.slice a55 q53.length c56, .slice a0_1 x0.Last.length c0_1, .slice (some ⟨b63, 0, none⟩) x61.length x61.length] rfl (by kernel_rfl)) rfl (tw_sel (fun _ => ((hS.tail).tail)) (fun _ => ((hS.tail).tail))) ?_; clear hE a; intro a hE
      refine Rg.one (i := 10) true true rfl (by kernel_rfl) (by kernel_rfl) (by kernel_rfl) ?_
      refine WL.box hE hS (runs_plain rfl) rfl rfl rfl ?_; clear hE hS a w; intro b67 a w hE hS
      refine WL.nil ?_
      refine ⟨⟨fun _ => (((hS.tail).tail).tail), fun _ => (((hS.tail).tail).tail)⟩, ?_⟩
      refine Rg.takeP (i := 11) hE rfl (by kernel_rfl) (runs_plain rfl) (Gives.p hE rfl) rfl (tw_sel (fun _ => (((hS.tail).tail).tail)) (fun _ => (((hS.tail).tail).tail))) ?_; clear hE a; intro a hE
      refine Rg.done (by kernel_rfl) ?_
      exact key _ _ _ _ _ _ _ _ h0_1 h65 h59 h0_0 h0_2 h0_3 h0_4 (hE.pick _ ⟨rfl, rfl, trivial⟩) hS
    · refine Br.mk (i := 8) true true rfl (by kernel_rfl) (by kernel_rfl) ?_
      refine WL.mkD (Rr := RL 3 RMendArc) hE hS (runs_plain rfl) rfl rfl ap95 zr47 ⟨_, _, rfl, Sl.nil⟩ hx62 rfl ?_; clear hE hS a w; intro b63 cs64 a w h65 hE hS
      refine WL.nil ?_
      refine ⟨⟨fun _ => (hS.tail), fun _ => (hS.tail)⟩, ?_⟩
      refine Rg.one (i := 2) true true rfl (by kernel_rfl) (by kernel_rfl) (by kernel_rfl) ?_
      have hc_ := SlicesCloneLint_ok hS h0_0 hq54
      refine WL.fnq hE (hc_) (runs_plain rfl) bd67 rfl rfl rfl ?_
      clear hE hS hc_; rintro e w ⟨a55, c56, n57, cs58, rfl, h59, rfl, hS⟩; refine ⟨_, rfl, ?_⟩; clear a; intro a hE
      refine WL.nil ?_
      refine ⟨⟨fun _ => ((hS.tail).tail), fun _ => ((hS.tail).tail)⟩, ?_⟩
      refine Rg.takeP (i := 9) hE rfl (by kernel_rfl) (runs_plain rfl) (Gives.build hE (vs := [(0, .slice a55 q53.length c56), (1, .slice a0_1 x0.Last.length c0_1), (2, .slice (some ⟨b63, 0, none⟩) x61.length x61.length)]) [.slice a55 q53.length c56, .slice a0_1 x0.Last.length c0_1, .slice (some ⟨b63, 0, none⟩) x61.length x61.length] rfl (by kernel_rfl)) rfl (tw_sel (fun _ => ((hS.tail).tail)) (fun _ => ((hS.tail).tail))) ?_; clear hE a; intro a hE
      refine Rg.one (i := 10) true true rfl (by kernel_rfl) (by kernel_rfl) (by kernel_rfl) ?_
      refine WL.box hE hS (runs_plain rfl) rfl rfl rfl ?_; clear hE hS a w; intro b67 a w hE hS
      refine WL.nil ?_
      refine ⟨⟨fun _ => (((hS.tail).tail).tail), fun _ => (((hS.tail).tail).tail)⟩, ?_⟩
      refine Rg.takeP (i := 11) hE rfl (by kernel_rfl) (runs_plain rfl) (Gives.p hE rfl) rfl (tw_sel (fun _ => (((hS.tail).tail).tail)) (fun _ => (((hS.tail).tail).tail))) ?_; clear hE a; intro a hE
      refine Rg.done (by kernel_rfl) ?_
      replace hS := hS.front 3 rfl
      replace hS := hS.front 2 rfl
      replace hS := hS.front 3 rfl
      replace hS := hS.front 3 rfl
      exact key _ _ _ _ _ _ _ _ h0_1 h65 h59 h0_0 h0_2 h0_3 h0_4 (hE.pick _ ⟨rfl, rfl, trivial⟩) hS
  clear hE hS a w; intro cs64 cs58 b67 a55 c56 b63 a w h0_1 h65 h59 h0_0 h0_2 h0_3 h0_4 hE hS
  subst hK52
  refine W.seq ?_
  refine W.seq ?_
  refine W.region ?_
  refine WL.vS hS hE (runs_plain rfl) (Gives.p hE rfl) rfl ?_; clear hE a; intro a hE
  refine WL.vS hS hE (runs_plain rfl) (Gives.nilOk hE rfl) rfl ?_; clear hE a; intro a hE
  refine WL.vS hS hE (runs_plain rfl) (Gives.fld hE rfl fl105_0) rfl ?_; clear hE a; intro a hE
  refine WL.vS hS hE (runs_plain rfl) (Gives.loadB hE 0 rfl rfl rfl ty22) rfl ?_; clear hE a; intro a hE
  refine WL.vS hS hE (runs_plain rfl) (Gives.len hE rfl sl22) rfl ?_; clear hE a; intro a hE
  refine WL.vS hS hE (runs_plain rfl) (Gives.p hE rfl) rfl ?_; clear hE a; intro a hE
  refine WL.nil ?_
  have hb80 : q53.length ≤ 9223372036854775807 := by have := hS.vecCap 2 rfl; unfold maxLen at this; omega
  obtain ⟨q70, hq69, hr⟩ := bindS hr
  refine W.cut (fun a w => (.next ()) = q70 ∧ Rep a 50 [(1, .pointer (some ⟨b51, 0, none⟩)), (4, .pointer (some ⟨b67, 0, none⟩))] ∧ St w s (pt b67 (.cells #[.slice a55 q53.length c56, .slice a0_1 x0.Last.length c0_1, .slice (some ⟨b63, 0, none⟩) x61.length x61.length] 105 (0, 0)) :: vecC 47 1 (some ⟨b63, 0, none⟩) x61.length x61.length cs64 :: vecC 3 1 a55 c56 q53.length cs58 :: pt b51 (.cells #[.slice a0_0 x0.Ready.length c0_0, .slice a0_1 x0.Last.length c0_1, .slice a0_2 x0.Due.length c0_2, .slice a0_3 x0.Arcs.length c0_3, .slice a0_4 x0.Choices.length c0_4] 50 (0, 0)) :: R)) ?_ ?_
  · refine W.block ?_
    refine W.loop (fun m a w => ∃ (rest73 : Nat) (k71 : Nat), rest73 = m ∧ k71 + rest73 = q53.length ∧ Mendstart.loop1 x0 q53 rest73 k71 = some q70 ∧ Rep a 50 [(1, .pointer (some ⟨b51, 0, none⟩)), (4, .pointer (some ⟨b67, 0, none⟩)), (21, .slice a55 q53.length c56), (22, .int .i64 ((q53.length : Nat) : Int)), (23, .int .i64 ((k71 : Nat) : Int))] ∧ St w s (pt b67 (.cells #[.slice a55 q53.length c56, .slice a0_1 x0.Last.length c0_1, .slice (some ⟨b63, 0, none⟩) x61.length x61.length] 105 (0, 0)) :: vecC 47 1 (some ⟨b63, 0, none⟩) x61.length x61.length cs64 :: vecC 3 1 a55 c56 q53.length cs58 :: pt b51 (.cells #[.slice a0_0 x0.Ready.length c0_0, .slice a0_1 x0.Last.length c0_1, .slice a0_2 x0.Due.length c0_2, .slice a0_3 x0.Arcs.length c0_3, .slice a0_4 x0.Choices.length c0_4] 50 (0, 0)) :: R)) (m := q53.length) ⟨q53.length, 0, rfl, by omega, hq69, hE.pick _ ⟨rfl, rfl, rfl, rfl, rfl, trivial⟩, hS⟩ ?_
    clear hE hS a w hq69; rintro m77 a w ⟨rest73, k71, rfl, hd74, hq69, hE, hS⟩
    refine W.gen fun K81 hK81 => ?_
    rcases rest73 with _ | rest73
    · skip
      refine W.seq ?_
      refine W.region ?_
      refine WL.vS hS hE (runs_plain rfl) (Gives.p hE rfl) rfl ?_; clear hE a; intro a hE
      refine WL.nil ?_
      refine W.seq ?_
      refine W.condF hE rfl (decide_eq_false (by omega)) ?_
      subst hK81
      refine W.exit rfl ?_
      exact ⟨Option.some.inj hq69, hE.pick _ ⟨rfl, rfl, trivial⟩, hS⟩
    · have hlt75 : k71 < q53.length := by omega
      rw [Mendstart.loop1] at hq69
      refine W.seq ?_
      refine W.region ?_
      refine WL.vS hS hE (runs_plain rfl) (Gives.p hE rfl) rfl ?_; clear hE a; intro a hE
      refine WL.nil ?_
      refine W.seq ?_
      refine W.condT hE rfl (decide_eq_true (by omega)) ?_
      refine W.skip ?_
      refine W.seq ?_
      refine W.block ?_
      refine W.seq ?_
      refine W.region ?_
      refine WL.vS hS hE (runs_plain rfl) (Gives.p hE rfl) rfl ?_; clear hE a; intro a hE
      obtain ⟨x82, hx83, hq69⟩ := bindS hq69
      obtain ⟨hi84, hlt85, hy86⟩ := gx_some hx83
      obtain ⟨vs87, hl88, hR89, hd90, hget91⟩ := h59.at hy86
      subst hR89
      refine WL.vS hS hE (runs_plain rfl) (Gives.idx hE ((((k71 : Nat) : Int)).toNat) rfl rfl sl22 hi84 (by omega) (hS.vecAok 2 rfl (by omega : (((k71 : Nat) : Int)).toNat < q53.length))) rfl ?_; clear hE a; intro a hE
      refine WL.vS hS hE (runs_plain rfl) (Gives.load1 hE rfl (fun w h => St.vecSees h 2 rfl ((((k71 : Nat) : Int)).toNat * 1) _ hget91) ty3) rfl ?_; clear hE a; intro a hE
      refine WL.vS hS hE (runs_plain rfl) (Gives.p hE rfl) rfl ?_; clear hE a; intro a hE
      refine WL.vS hS hE (runs_plain rfl) (Gives.p hE rfl) rfl ?_; clear hE a; intro a hE
      refine WL.nil ?_
      refine W.seq ?_
      obtain ⟨q93, hq92, hq69⟩ := bindS hq69
      refine W.cut (fun a w => ∃ (q96 : Bool), q96 = q93 ∧ Rep a 50 [(1, .pointer (some ⟨b51, 0, none⟩)), (4, .pointer (some ⟨b67, 0, none⟩)), (21, .slice a55 q53.length c56), (22, .int .i64 ((q53.length : Nat) : Int)), (23, .int .i64 ((k71 : Nat) : Int)), (42, .bool q96)] ∧ St w s (pt b67 (.cells #[.slice a55 q53.length c56, .slice a0_1 x0.Last.length c0_1, .slice (some ⟨b63, 0, none⟩) x61.length x61.length] 105 (0, 0)) :: vecC 47 1 (some ⟨b63, 0, none⟩) x61.length x61.length cs64 :: vecC 3 1 a55 c56 q53.length cs58 :: pt b51 (.cells #[.slice a0_0 x0.Ready.length c0_0, .slice a0_1 x0.Last.length c0_1, .slice a0_2 x0.Due.length c0_2, .slice a0_3 x0.Arcs.length c0_3, .slice a0_4 x0.Choices.length c0_4] 50 (0, 0)) :: R)) ?_ ?_
      · refine W.gen fun K97 hK97 => ?_
        refine W.region ?_
        refine WL.vS hS hE (runs_plain rfl) (Gives.fld hE rfl fl50_1) rfl ?_; clear hE a; intro a hE
        refine WL.vS hS hE (runs_plain rfl) (Gives.loadB hE 3 rfl rfl rfl ty22) rfl ?_; clear hE a; intro a hE
        refine WL.vS hS hE (runs_plain rfl) (Gives.p hE rfl) rfl ?_; clear hE a; intro a hE
        obtain ⟨x98, hx99, hq92⟩ := bindS hq92
        obtain ⟨hi100, hlt101, hy102⟩ := gx_some hx99
        obtain ⟨cs103, hl104, hR105, hat106⟩ := h0_1.at hy102
        subst hR105
        refine WL.vS hS hE (runs_plain rfl) (Gives.idx hE (((k71 : Nat) : Int)).toNat rfl rfl sl22 hi100 hlt101 (h0_1.aok hlt101)) rfl ?_; clear hE a; intro a hE
        refine WL.vS hS hE (runs_plain rfl) (Gives.load1 hE rfl (fun w h => hat106 w _ h) ty3) rfl ?_; clear hE a; intro a hE
        refine WL.vS hS hE (runs_plain rfl) (Gives.p hE rfl) rfl ?_; clear hE a; intro a hE
        refine WL.vS hS hE (runs_plain rfl) (Gives.p hE rfl) rfl ?_; clear hE a; intro a hE
        rcases Bool.eq_false_or_eq_true (decide (x98 ≥ 0)) with hg107 | hg107
        · replace hq92 := iteT hg107 hq92
          refine WL.vS hS hE (runs_if hE rfl rfl rfl hg107) (Gives.p hE rfl) rfl ?_; clear hE a; intro a hE
          refine WL.vS hS hE (runs_if hE rfl rfl rfl hg107) (Gives.fld hE rfl fl50_1) rfl ?_; clear hE a; intro a hE
          refine WL.vS hS hE (runs_if hE rfl rfl rfl hg107) (Gives.loadB hE 3 rfl rfl rfl ty22) rfl ?_; clear hE a; intro a hE
          refine WL.vS hS hE (runs_if hE rfl rfl rfl hg107) (Gives.p hE rfl) rfl ?_; clear hE a; intro a hE
          obtain ⟨x108, hx109, hq92⟩ := bindS hq92
          obtain ⟨hi110, hlt111, hy112⟩ := gx_some hx109
          obtain ⟨cs113, hl114, hR115, hat116⟩ := h0_1.at hy112
          subst hR115
          refine WL.vS hS hE (runs_if hE rfl rfl rfl hg107) (Gives.idx hE (((k71 : Nat) : Int)).toNat rfl rfl sl22 hi110 hlt111 (h0_1.aok hlt111)) rfl ?_; clear hE a; intro a hE
          refine WL.vS hS hE (runs_if hE rfl rfl rfl hg107) (Gives.load1 hE rfl (fun w h => hat116 w _ h) ty3) rfl ?_; clear hE a; intro a hE
          refine WL.vS hS hE (runs_if hE rfl rfl rfl hg107) (Gives.p hE rfl) rfl ?_; clear hE a; intro a hE
          refine WL.vS hS hE (runs_plain rfl) (Gives.pickT hE rfl hg107 rfl) rfl ?_; clear hE a; intro a hE
          refine WL.nil ?_
          subst hK97
          exact ⟨decide (x82 > x108), Option.some.inj hq92, hE.pick _ ⟨rfl, rfl, rfl, rfl, rfl, rfl, trivial⟩, hS⟩
        · replace hq92 := iteF hg107 hq92
          refine WL.no hE (runs_not hE rfl rfl rfl (by rw [hg107]; decide)) rfl ?_; clear hE a; intro a hE
          refine WL.no hE (runs_not hE rfl rfl rfl (by rw [hg107]; decide)) rfl ?_; clear hE a; intro a hE
          refine WL.no hE (runs_not hE rfl rfl rfl (by rw [hg107]; decide)) rfl ?_; clear hE a; intro a hE
          refine WL.no hE (runs_not hE rfl rfl rfl (by rw [hg107]; decide)) rfl ?_; clear hE a; intro a hE
          refine WL.no hE (runs_not hE rfl rfl rfl (by rw [hg107]; decide)) rfl ?_; clear hE a; intro a hE
          refine WL.no hE (runs_not hE rfl rfl rfl (by rw [hg107]; decide)) rfl ?_; clear hE a; intro a hE
          refine WL.no hE (runs_not hE rfl rfl rfl (by rw [hg107]; decide)) rfl ?_; clear hE a; intro a hE
          refine WL.vS hS hE (runs_plain rfl) (Gives.pickF hE rfl hg107 rfl) rfl ?_; clear hE a; intro a hE
          refine WL.nil ?_
          subst hK97
          exact ⟨false, Option.some.inj hq92, hE.pick _ ⟨rfl, rfl, rfl, rfl, rfl, rfl, trivial⟩, hS⟩
      · clear hE hS a w; rintro a w ⟨q96, rfl, hE, hS⟩
        refine W.cond hE rfl (fun hc117 => ?_) (fun hc117 => ?_)
        · replace hq69 := iteT hc117 hq69
          refine W.seq ?_
          refine W.region ?_
          refine WL.vS hS hE (runs_plain rfl) (Gives.p hE rfl) rfl ?_; clear hE a; intro a hE
          refine WL.vS hS hE (runs_plain rfl) (Gives.p hE rfl) rfl ?_; clear hE a; intro a hE
          refine WL.nil ?_
          refine W.ret ?_
          subst hK81
          rw [← Option.some.inj hq69] at hr
          dsimp only at hr
          refine finG (fn := Try.f78) (rs := [.tmp 2, .tmp 3]) (vs := [_, _]) hE rfl ⟨rfl, rfl, trivial⟩ ?_
          obtain rfl := Option.some.inj hr
          replace hS := hS.tail
          replace hS := hS.tail
          replace hS := hS.tail
          replace hS := hS.tail
          exact ⟨none, s, rfl, (Sg.Le.refl _), Pt.nil, hS⟩
        · replace hq69 := iteF hc117 hq69
          refine W.skip ?_
          refine W.region ?_
          refine WL.vS hS hE (runs_plain rfl) (Gives.inc hE rfl (by omega)) rfl ?_; clear hE a; intro a hE
          refine WL.vS hS hE (runs_plain rfl) (Gives.p hE rfl) rfl ?_; clear hE a; intro a hE
          refine WL.nil ?_
          subst hK81
          exact ⟨rest73, Nat.lt_succ_self _, rest73, k71 + 1, rfl, (by omega), hq69, hE.pick _ ⟨rfl, rfl, rfl, rfl, rfl, trivial⟩, hS⟩
  · clear hE hS a w; rintro a w ⟨rfl, hE, hS⟩
    dsimp only at hr
    refine W.seq ?_
    refine W.region ?_
    refine WL.vS hS hE (runs_plain rfl) (Gives.p hE rfl) rfl ?_; clear hE a; intro a hE
    refine WL.vS hS hE (runs_plain rfl) (Gives.fld hE rfl fl50_3) rfl ?_; clear hE a; intro a hE
    refine WL.vS hS hE (runs_plain rfl) (Gives.loadB hE 3 rfl rfl rfl ty47) rfl ?_; clear hE a; intro a hE
    obtain ⟨q118, hq119, hr⟩ := bindS hr
    replace hS := hS.front 1 rfl
    replace hS := hS.front 2 rfl
    replace hS := hS.front 2 rfl
    have hc_ := MendSolverwith_v1_ok (y0 := (MendSolver.mk q53 x0.Last x61)) hS h0_3 h59 rfl h0_1 h65 (rfl) hq119
    refine WL.fnq hE (hc_) (runs_plain rfl) bd68 rfl rfl rfl ?_
    clear hE hS hc_; rintro e w ⟨a120, s122, rfl, hle123, h121, hS⟩; refine ⟨_, rfl, ?_⟩; clear a; intro a hE
    replace h0_3 := Sl.mono RMendArc.mono hle123 h0_3
    replace h0_1 := Sl.mono RI.mono hle123 h0_1
    replace h59 := Ev.mono RI.mono hle123 h59
    replace h65 := Ev.mono (RL.mono RMendArc.mono) hle123 h65
    replace h0_0 := Sl.mono RI.mono hle123 h0_0
    replace h0_2 := Sl.mono RI.mono hle123 h0_2
    replace h0_4 := Sl.mono RMendChoice.mono hle123 h0_4
    refine WL.vS hS hE (runs_plain rfl) (Gives.p hE rfl) rfl ?_; clear hE a; intro a hE
    refine WL.vS hS hE (runs_plain rfl) (Gives.p hE rfl) rfl ?_; clear hE a; intro a hE
    refine WL.vS hS hE (runs_plain rfl) (Gives.p hE rfl) rfl ?_; clear hE a; intro a hE
    refine WL.vS hS hE (runs_plain rfl) (Gives.p hE rfl) rfl ?_; clear hE a; intro a hE
    refine WL.nil ?_
    refine W.ret ?_
    refine finG (fn := Try.f78) (rs := [.tmp 2, .tmp 3]) (vs := [_, _]) hE rfl ⟨rfl, rfl, trivial⟩ ?_
    obtain rfl := Option.some.inj hr
    replace hS := hS.tail
    replace hS := hS.tail
    replace hS := hS.tail
    replace hS := hS.tail
    exact ⟨a120, s122, rfl, hle123, h121, hS⟩
set_option maxHeartbeats 8000000 in
theorem SlicesCloneLLmendArc_ok  {w : World} {s : Sg} {R : List HP} {x0 : List (List MendArc)} {a0 : Option Addr} {c0 : Nat} (hS : St w s (R)) (h0 : Sl 1 (RL 3 RMendArc) s a0 c0 x0) {r : (List (List MendArc))} (hr : SlicesCloneLLmendArc x0 = some r) :
    Calls Try.prog 87 [.slice a0 x0.length c0].toArray w (fun e w => ∃ (a0 : Option Addr) (c0 n0 : Nat) (cs0 : List Value), e = .returned (.slice a0 n0 c0) ∧ Ev 1 (RL 3 RMendArc) s cs0 r ∧ r.length = n0 ∧ St w s (vecC 47 1 a0 c0 n0 cs0 :: R)) := by
  refine enter Try.func87 rfl rfl rfl fun a hE => ?_
  rw [SlicesCloneLLmendArc] at hr
  refine W.seq ?_
  refine W.region ?_
  refine WL.vS hS hE (runs_plain rfl) (Gives.p hE rfl) rfl ?_; clear hE a; intro a hE
  refine WL.nil ?_
  refine W.seq ?_
  refine W.seq ?_
  refine W.region ?_
  refine WL.vS hS hE (runs_plain rfl) (Gives.p hE rfl) rfl ?_; clear hE a; intro a hE
  refine WL.vS hS hE (runs_plain rfl) (Gives.isNil hE rfl rfl isl95) rfl ?_; clear hE a; intro a hE
  refine WL.nil ?_
  rcases a0 with _ | g51
  · obtain rfl := h0.none_nil
    replace hr : some [] = _ := hr
    refine W.condT hE rfl rfl ?_
    refine W.seq ?_
    refine W.region ?_
    refine WL.vS hS hE (runs_plain rfl) (Gives.p hE rfl) rfl ?_; clear hE a; intro a hE
    refine WL.nil ?_
    refine W.ret ?_
    replace hS := hS.vecNil 47 1
    refine finG (fn := Try.f87) (rs := [.tmp 2]) (vs := [_]) hE rfl ⟨rfl, trivial⟩ ?_
    obtain rfl := Option.some.inj hr
    exact ⟨none, 0, 0, [], rfl, (Ev.nil), (rfl), hS⟩
  · skip
    refine W.condF hE rfl rfl ?_
    refine W.skip ?_
    refine W.seq ?_
    refine W.region ?_
    refine WL.lit hE hS (e := 47) (es := 1) (vs := []) (cs := []) (runs_plain rfl) rfl (by kernel_rfl) rfl ?_; clear hE hS a w; intro b53 a w hE hS
    replace hS := hS.ptVec (es := 1) (m := 0) rfl (by decide)
    have h55 : Ev 1 (RL 3 RMendArc) s [] [] := (Ev.nil)
    refine WL.vS hS hE (runs_plain rfl) (Gives.p hE rfl) rfl ?_; clear hE a; intro a hE
    obtain ⟨x56, hx57, hr⟩ := bindS hr
    refine WL.appS hE hS 0 (runs_plain rfl) rfl rfl (xs := x0) rfl rfl ap95 RL.one h55 (rfl) h0 hx57 rfl ?_; clear hE hS a w; intro a58 c59 cs60 a w h61 hE hS
    refine WL.vS hS hE (runs_plain rfl) (Gives.p hE rfl) rfl ?_; clear hE a; intro a hE
    refine WL.nil ?_
    refine W.ret ?_
    refine finG (fn := Try.f87) (rs := [.tmp 2]) (vs := [_]) hE rfl ⟨rfl, trivial⟩ ?_
    obtain rfl := Option.some.inj hr
    exact ⟨a58, c59, x56.length, cs60, rfl, h61, (rfl), hS⟩
set_option maxHeartbeats 8000000 in
theorem MendSolverwith_ok {fu : Nat}  {w : World} {s : Sg} {R : List HP} {x0 : Option MendSolver} {a0 : Option Addr} {x1 : List MendArc} {a1 : Option Addr} {c1 : Nat} (hS : St w s (R)) (h0 : Pt 3 RMendSolver s a0 x0) (h1 : Sl 3 RMendArc s a1 c1 x1) {r : (Option MendSolver) × Bool} (hr : MendSolverwith fu x0 x1 = some r) :
    Calls Try.prog 68 [.pointer a0, .slice a1 x1.length c1].toArray w (fun e w => ∃ (a0 : Option Addr) (t : Sg), e = .returned (.tuple #[.pointer a0, .bool r.2]) ∧ s.Le t ∧ Pt 3 RMendSolver t a0 r.1 ∧ St w t (R)) := by
  refine enter Try.func68 rfl rfl rfl fun a hE => ?_
  rw [MendSolverwith] at hr
  refine W.seq ?_
  refine W.region ?_
  refine WL.vS hS hE (runs_plain rfl) (Gives.p hE rfl) rfl ?_; clear hE a; intro a hE
  refine WL.vS hS hE (runs_plain rfl) (Gives.p hE rfl) rfl ?_; clear hE a; intro a hE
  refine WL.nil ?_
  refine W.seq ?_
  refine W.gen fun K51 hK51 => ?_
  refine W.regionE (sel (fun w => St w s (R)) (fun w => St w s (R))) (fun b i => cond b ([0, 1, 2, 3, 4, 5, 6, 7, 8, 9, 10, 11, 12, 13, 14, 15, 16, 17].contains i) ([0, 1, 2, 3, 4, 5, 6, 7, 8, 9, 10, 11, 12, 13, 14, 15, 16, 17].contains i)) mixed ?_
  replace hS := hS.drew
  refine Rg.takeP (i := 0) hE rfl (by kernel_rfl) (runs_plain rfl) (Gives.p hE rfl) rfl (tw_sel (fun _ => hS) (fun _ => hS)) ?_; clear hE a; intro a hE
  have hT := tw_sel (A := fun w => St w s (R)) (B := fun w => St w s (R)) (w := _) (x := true) (y := true) (fun _ => hS) (fun _ => hS)
  have hF := hS; replace hS := hS
  obtain ⟨x52, hx53, hr⟩ := bindS hr
  obtain ⟨b54, o55, cs56, rfl, hl57, hR58, hat59⟩ := h0.at hx53
  obtain ⟨a60, c61, a63, c64, a66, c67, rfl, h62, h65, h68⟩ := hR58
  refine Rg.take (i := 1) true rfl hE rfl (by kernel_rfl) (runs_plain rfl) (Gives.nilOk hE rfl) rfl hT ?_; clear hE a; intro a hE
  replace hS := hF; clear hF hT
  refine Rg.takeP (i := 2) hE rfl (by kernel_rfl) (runs_plain rfl) (Gives.fld hE rfl fl105_0) rfl (tw_sel (fun _ => hS) (fun _ => hS)) ?_; clear hE a; intro a hE
  have hT := tw_sel (A := fun w => St w s (R)) (B := fun w => St w s (R)) (w := _) (x := true) (y := true) (fun _ => hS) (fun _ => hS)
  have hF := hS; replace hS := hS
  refine Rg.take (i := 3) true rfl hE rfl (by kernel_rfl) (runs_plain rfl) (Gives.load1 hE rfl (fun w h => (hat59 w _ h).one rfl) ty22) rfl hT ?_; clear hE a; intro a hE
  replace hS := hF; clear hF hT
  refine Rg.takeP (i := 5) hE rfl (by kernel_rfl) (runs_plain rfl) (Gives.p hE rfl) rfl (tw_sel (fun _ => hS) (fun _ => hS)) ?_; clear hE a; intro a hE
  have hT := tw_sel (A := fun w => St w s (R)) (B := fun w => St w s (R)) (w := _) (x := true) (y := true) (fun _ => hS) (fun _ => hS)
  have hF := hS; replace hS := hS
  refine Rg.take (i := 6) true rfl hE rfl (by kernel_rfl) (runs_plain rfl) (Gives.nilOk hE rfl) rfl hT ?_; clear hE a; intro a hE
  replace hS := hF; clear hF hT
  refine Rg.takeP (i := 7) hE rfl (by kernel_rfl) (runs_plain rfl) (Gives.fld hE rfl fl105_1) rfl (tw_sel (fun _ => hS) (fun _ => hS)) ?_; clear hE a; intro a hE
  have hT := tw_sel (A := fun w => St w s (R)) (B := fun w => St w s (R)) (w := _) (x := true) (y := true) (fun _ => hS) (fun _ => hS)
  have hF := hS; replace hS := hS
  refine Rg.take (i := 8) true rfl hE rfl (by kernel_rfl) (runs_plain rfl) (Gives.load1 hE rfl (fun w h => (hat59 w _ h).one rfl) ty22) rfl hT ?_; clear hE a; intro a hE
  replace hS := hF; clear hF hT
  refine Rg.takeP (i := 9) hE rfl (by kernel_rfl) (runs_plain rfl) (Gives.p hE rfl) rfl (tw_sel (fun _ => hS) (fun _ => hS)) ?_; clear hE a; intro a hE
  have hT := tw_sel (A := fun w => St w s (R)) (B := fun w => St w s (R)) (w := _) (x := true) (y := true) (fun _ => hS) (fun _ => hS)
  have hF := hS; replace hS := hS
  refine Rg.take (i := 10) true rfl hE rfl (by kernel_rfl) (runs_plain rfl) (Gives.nilOk hE rfl) rfl hT ?_; clear hE a; intro a hE
  replace hS := hF; clear hF hT
  refine Rg.takeP (i := 11) hE rfl (by kernel_rfl) (runs_plain rfl) (Gives.fld hE rfl fl105_2) rfl (tw_sel (fun _ => hS) (fun _ => hS)) ?_; clear hE a; intro a hE
  have hT := tw_sel (A := fun w => St w s (R)) (B := fun w => St w s (R)) (w := _) (x := true) (y := true) (fun _ => hS) (fun _ => hS)
  have hF := hS; replace hS := hS
  refine Rg.take (i := 12) true rfl hE rfl (by kernel_rfl) (runs_plain rfl) (Gives.load1 hE rfl (fun w h => (hat59 w _ h).one rfl) ty95) rfl hT ?_; clear hE a; intro a hE
  replace hS := hF; clear hF hT
  obtain ⟨q69, hq70, hr⟩ := bindS hr
  obtain ⟨q77, hq78, hr⟩ := bindS hr
  suffices key : ∀ cs82 cs74 b86 b85 a71 c72 a79 c80 (a : Act) (w : World), Sl 3 RMendArc s a1 c1 x1 → Sl 1 (RI .i64) s a63 c64 x52.last → Ev 1 (RL 3 RMendArc) s cs82 q77 → Ev 1 (RI .i64) s cs74 q69 → Rep a 128 [(1, .slice a1 x1.length c1), (6, .pointer (some ⟨b86, 0, none⟩))] → St w s (pt b86 (.cells #[.pointer (some ⟨b85, 0, none⟩)] 100 (0, 0)) :: pt b85 (.cells #[.slice a71 q69.length c72, .slice a63 x52.last.length c64, .slice a79 q77.length c80] 105 (0, 0)) :: vecC 47 1 a79 c80 q77.length cs82 :: vecC 3 1 a71 c72 q69.length cs74 :: R) → K51.nor a w by
    refine Rg.many 4 [16] (by kernel_rfl) ⟨?_, ?_, trivial⟩
    · refine Br.mk (i := 4) true true rfl (by kernel_rfl) (by kernel_rfl) ?_
      have hc_ := SlicesCloneLint_ok hS h62 hq70
      refine WL.fnq hE (hc_) (runs_plain rfl) bd67 rfl rfl rfl ?_
      clear hE hS hc_; rintro e w ⟨a71, c72, n73, cs74, rfl, h75, rfl, hS⟩; refine ⟨_, rfl, ?_⟩; clear a; intro a hE
      refine WL.nil ?_
      refine ⟨⟨fun _ => (hS.tail), fun _ => (hS.tail)⟩, ?_⟩
      refine Rg.many 13 [16] (by kernel_rfl) ⟨?_, ?_, trivial⟩
      · refine Br.mk (i := 13) true true rfl (by kernel_rfl) (by kernel_rfl) ?_
        have hc_ := SlicesCloneLLmendArc_ok hS h68 hq78
        refine WL.fnq hE (hc_) (runs_plain rfl) bd87 rfl rfl rfl ?_
        clear hE hS hc_; rintro e w ⟨a79, c80, n81, cs82, rfl, h83, rfl, hS⟩; refine ⟨_, rfl, ?_⟩; clear a; intro a hE
        refine WL.nil ?_
        refine ⟨⟨fun _ => ((hS.tail).tail), fun _ => ((hS.tail).tail)⟩, ?_⟩
        refine Rg.takeP (i := 14) hE rfl (by kernel_rfl) (runs_plain rfl) (Gives.build hE (vs := [(0, .slice a71 q69.length c72), (1, .slice a63 x52.last.length c64), (2, .slice a79 q77.length c80)]) [.slice a71 q69.length c72, .slice a63 x52.last.length c64, .slice a79 q77.length c80] rfl (by kernel_rfl)) rfl (tw_sel (fun _ => ((hS.tail).tail)) (fun _ => ((hS.tail).tail))) ?_; clear hE a; intro a hE
        refine Rg.many 15 [16] (by kernel_rfl) ⟨?_, ?_, trivial⟩
        · refine Br.mk (i := 15) true true rfl (by kernel_rfl) (by kernel_rfl) ?_
          refine WL.box hE hS (runs_plain rfl) rfl rfl rfl ?_; clear hE hS a w; intro b85 a w hE hS
          refine WL.nil ?_
          refine ⟨⟨fun _ => (((hS.tail).tail).tail), fun _ => (((hS.tail).tail).tail)⟩, ?_⟩
          refine Rg.one (i := 16) true true rfl (by kernel_rfl) (by kernel_rfl) (by kernel_rfl) ?_
          refine WL.alloc hE hS (runs_plain rfl) zr100 rfl ?_; clear hE hS a w; intro b86 a w hE hS
          refine WL.nil ?_
          refine ⟨⟨fun _ => ((((hS.tail).tail).tail).tail), fun _ => ((((hS.tail).tail).tail).tail)⟩, ?_⟩
          refine Rg.one (i := 17) true true rfl (by kernel_rfl) (by kernel_rfl) (by kernel_rfl) ?_
          refine WL.storeI hE hS 0 rfl [.pointer (some ⟨b85, 0, none⟩)] (runs_plain rfl) rfl rfl rfl ty100 rfl rfl rfl rfl ?_; clear hE hS a w; intro a w hE hS
          refine WL.nil ?_
          refine ⟨⟨fun _ => ((((hS.tail).tail).tail).tail), fun _ => ((((hS.tail).tail).tail).tail)⟩, ?_⟩
          refine Rg.done (by kernel_rfl) ?_
          exact key _ _ _ _ _ _ _ _ _ _ h1 h65 h83 h75 (hE.pick _ ⟨rfl, rfl, trivial⟩) hS
        · refine Br.mk (i := 16) true true rfl (by kernel_rfl) (by kernel_rfl) ?_
          refine WL.alloc hE hS (runs_plain rfl) zr100 rfl ?_; clear hE hS a w; intro b86 a w hE hS
          refine WL.nil ?_
          refine ⟨⟨fun _ => (((hS.tail).tail).tail), fun _ => (((hS.tail).tail).tail)⟩, ?_⟩
          refine Rg.one (i := 15) true true rfl (by kernel_rfl) (by kernel_rfl) (by kernel_rfl) ?_
          refine WL.box hE hS (runs_plain rfl) rfl rfl rfl ?_; clear hE hS a w; intro b85 a w hE hS
          refine WL.nil ?_
          refine ⟨⟨fun _ => ((((hS.tail).tail).tail).tail), fun _ => ((((hS.tail).tail).tail).tail)⟩, ?_⟩
          refine Rg.one (i := 17) true true rfl (by kernel_rfl) (by kernel_rfl) (by kernel_rfl) ?_
          refine WL.storeI hE hS 1 rfl [.pointer (some ⟨b85, 0, none⟩)] (runs_plain rfl) rfl rfl rfl ty100 rfl rfl rfl rfl ?_; clear hE hS a w; intro a w hE hS
          refine WL.nil ?_
          refine ⟨⟨fun _ => ((((hS.tail).tail).tail).tail), fun _ => ((((hS.tail).tail).tail).tail)⟩, ?_⟩
          refine Rg.done (by kernel_rfl) ?_
          replace hS := hS.front 3 rfl
          replace hS := hS.front 3 rfl
          replace hS := hS.front 2 rfl
          replace hS := hS.front 3 rfl
          exact key _ _ _ _ _ _ _ _ _ _ h1 h65 h83 h75 (hE.pick _ ⟨rfl, rfl, trivial⟩) hS
      · refine Br.mk (i := 16) true true rfl (by kernel_rfl) (by kernel_rfl) ?_
        refine WL.alloc hE hS (runs_plain rfl) zr100 rfl ?_; clear hE hS a w; intro b86 a w hE hS
        refine WL.nil ?_
        refine ⟨⟨fun _ => ((hS.tail).tail), fun _ => ((hS.tail).tail)⟩, ?_⟩
        refine Rg.one (i := 13) true true rfl (by kernel_rfl) (by kernel_rfl) (by kernel_rfl) ?_
        have hc_ := SlicesCloneLLmendArc_ok hS h68 hq78
        refine WL.fnq hE (hc_) (runs_plain rfl) bd87 rfl rfl rfl ?_
        clear hE hS hc_; rintro e w ⟨a79, c80, n81, cs82, rfl, h83, rfl, hS⟩; refine ⟨_, rfl, ?_⟩; clear a; intro a hE
        refine WL.nil ?_
        refine ⟨⟨fun _ => (((hS.tail).tail).tail), fun _ => (((hS.tail).tail).tail)⟩, ?_⟩
        refine Rg.takeP (i := 14) hE rfl (by kernel_rfl) (runs_plain rfl) (Gives.build hE (vs := [(0, .slice a71 q69.length c72), (1, .slice a63 x52.last.length c64), (2, .slice a79 q77.length c80)]) [.slice a71 q69.length c72, .slice a63 x52.last.length c64, .slice a79 q77.length c80] rfl (by kernel_rfl)) rfl (tw_sel (fun _ => (((hS.tail).tail).tail)) (fun _ => (((hS.tail).tail).tail))) ?_; clear hE a; intro a hE
        refine Rg.one (i := 15) true true rfl (by kernel_rfl) (by kernel_rfl) (by kernel_rfl) ?_
        refine WL.box hE hS (runs_plain rfl) rfl rfl rfl ?_; clear hE hS a w; intro b85 a w hE hS
        refine WL.nil ?_
        refine ⟨⟨fun _ => ((((hS.tail).tail).tail).tail), fun _ => ((((hS.tail).tail).tail).tail)⟩, ?_⟩
        refine Rg.one (i := 17) true true rfl (by kernel_rfl) (by kernel_rfl) (by kernel_rfl) ?_
        refine WL.storeI hE hS 2 rfl [.pointer (some ⟨b85, 0, none⟩)] (runs_plain rfl) rfl rfl rfl ty100 rfl rfl rfl rfl ?_; clear hE hS a w; intro a w hE hS
        refine WL.nil ?_
        refine ⟨⟨fun _ => ((((hS.tail).tail).tail).tail), fun _ => ((((hS.tail).tail).tail).tail)⟩, ?_⟩
        refine Rg.done (by kernel_rfl) ?_
        replace hS := hS.front 3 rfl
        replace hS := hS.front 2 rfl
        replace hS := hS.front 2 rfl
        replace hS := hS.front 3 rfl
        exact key _ _ _ _ _ _ _ _ _ _ h1 h65 h83 h75 (hE.pick _ ⟨rfl, rfl, trivial⟩) hS
    · refine Br.mk (i := 16) true true rfl (by kernel_rfl) (by kernel_rfl) ?_
      refine WL.alloc hE hS (runs_plain rfl) zr100 rfl ?_; clear hE hS a w; intro b86 a w hE hS
      refine WL.nil ?_
      refine ⟨⟨fun _ => (hS.tail), fun _ => (hS.tail)⟩, ?_⟩
      refine Rg.one (i := 4) true true rfl (by kernel_rfl) (by kernel_rfl) (by kernel_rfl) ?_
      have hc_ := SlicesCloneLint_ok hS h62 hq70
      refine WL.fnq hE (hc_) (runs_plain rfl) bd67 rfl rfl rfl ?_
      clear hE hS hc_; rintro e w ⟨a71, c72, n73, cs74, rfl, h75, rfl, hS⟩; refine ⟨_, rfl, ?_⟩; clear a; intro a hE
      refine WL.nil ?_
      refine ⟨⟨fun _ => ((hS.tail).tail), fun _ => ((hS.tail).tail)⟩, ?_⟩
      refine Rg.one (i := 13) true true rfl (by kernel_rfl) (by kernel_rfl) (by kernel_rfl) ?_
      have hc_ := SlicesCloneLLmendArc_ok hS h68 hq78
      refine WL.fnq hE (hc_) (runs_plain rfl) bd87 rfl rfl rfl ?_
      clear hE hS hc_; rintro e w ⟨a79, c80, n81, cs82, rfl, h83, rfl, hS⟩; refine ⟨_, rfl, ?_⟩; clear a; intro a hE
      refine WL.nil ?_
      refine ⟨⟨fun _ => (((hS.tail).tail).tail), fun _ => (((hS.tail).tail).tail)⟩, ?_⟩
      refine Rg.takeP (i := 14) hE rfl (by kernel_rfl) (runs_plain rfl) (Gives.build hE (vs := [(0, .slice a71 q69.length c72), (1, .slice a63 x52.last.length c64), (2, .slice a79 q77.length c80)]) [.slice a71 q69.length c72, .slice a63 x52.last.length c64, .slice a79 q77.length c80] rfl (by kernel_rfl)) rfl (tw_sel (fun _ => (((hS.tail).tail).tail)) (fun _ => (((hS.tail).tail).tail))) ?_; clear hE a; intro a hE
      refine Rg.one (i := 15) true true rfl (by kernel_rfl) (by kernel_rfl) (by kernel_rfl) ?_
      refine WL.box hE hS (runs_plain rfl) rfl rfl rfl ?_; clear hE hS a w; intro b85 a w hE hS
      refine WL.nil ?_
      refine ⟨⟨fun _ => ((((hS.tail).tail).tail).tail), fun _ => ((((hS.tail).tail).tail).tail)⟩, ?_⟩
      refine Rg.one (i := 17) true true rfl (by kernel_rfl) (by kernel_rfl) (by kernel_rfl) ?_
      refine WL.storeI hE hS 3 rfl [.pointer (some ⟨b85, 0, none⟩)] (runs_plain rfl) rfl rfl rfl ty100 rfl rfl rfl rfl ?_; clear hE hS a w; intro a w hE hS
      refine WL.nil ?_
      refine ⟨⟨fun _ => ((((hS.tail).tail).tail).tail), fun _ => ((((hS.tail).tail).tail).tail)⟩, ?_⟩
      refine Rg.done (by kernel_rfl) ?_
      replace hS := hS.front 2 rfl
      replace hS := hS.front 2 rfl
      replace hS := hS.front 2 rfl
      replace hS := hS.front 3 rfl
      exact key _ _ _ _ _ _ _ _ _ _ h1 h65 h83 h75 (hE.pick _ ⟨rfl, rfl, trivial⟩) hS
  clear hE hS a w; intro cs82 cs74 b86 b85 a71 c72 a79 c80 a w h1 h65 h83 h75 hE hS
  subst hK51
  refine W.seq ?_
  refine W.seq ?_
  refine W.region ?_
  refine WL.vS hS hE (runs_plain rfl) (Gives.p hE rfl) rfl ?_; clear hE a; intro a hE
  refine WL.vS hS hE (runs_plain rfl) (Gives.len hE rfl sl47) rfl ?_; clear hE a; intro a hE
  refine WL.vS hS hE (runs_plain rfl) (Gives.p hE rfl) rfl ?_; clear hE a; intro a hE
  refine WL.nil ?_
  obtain ⟨q89, hq88, hr⟩ := bindS hr
  refine W.cut (fun a w => ∃ (q99 : List (List MendArc)), ∃ (cs103 : List Value), ∃ (s97 : Sg), s.Le s97 ∧ q99 = q89 ∧ Ev 1 (RL 3 RMendArc) s97 cs103 q99 ∧ q99.length = q77.length ∧ Rep a 128 [(1, .slice a1 x1.length c1), (6, .pointer (some ⟨b86, 0, none⟩))] ∧ St w s97 (pt b86 (.cells #[.pointer (some ⟨b85, 0, none⟩)] 100 (0, 0)) :: pt b85 (.cells #[.slice a71 q69.length c72, .slice a63 x52.last.length c64, .slice a79 q77.length c80] 105 (0, 0)) :: vecC 47 1 a79 c80 q77.length cs103 :: vecC 3 1 a71 c72 q69.length cs74 :: R)) ?_ ?_
  · refine W.block ?_
    refine W.loop (fun m a w => ∃ (rest92 : List MendArc) (k90 : Nat), ∃ (q99 : List (List MendArc)), ∃ (cs103 : List Value), ∃ (s97 : Sg), rest92.length = m ∧ x1.drop k90 = rest92 ∧ s.Le s97 ∧ MendSolverwith.loop1 rest92 q99 = some q89 ∧ Ev 1 (RL 3 RMendArc) s97 cs103 q99 ∧ q99.length = q77.length ∧ Rep a 128 [(1, .slice a1 x1.length c1), (6, .pointer (some ⟨b86, 0, none⟩)), (36, .slice a1 x1.length c1), (37, .int .i64 ((x1).length : Int)), (38, .int .i64 ((k90 : Nat) : Int))] ∧ St w s97 (pt b86 (.cells #[.pointer (some ⟨b85, 0, none⟩)] 100 (0, 0)) :: pt b85 (.cells #[.slice a71 q69.length c72, .slice a63 x52.last.length c64, .slice a79 q77.length c80] 105 (0, 0)) :: vecC 47 1 a79 c80 q77.length cs103 :: vecC 3 1 a71 c72 q69.length cs74 :: R)) (m := x1.length) ⟨x1, 0, q77, cs82, s, rfl, rfl, (Sg.Le.refl _), hq88, h83, rfl, hE.pick _ ⟨rfl, rfl, rfl, rfl, rfl, trivial⟩, hS⟩ ?_
    clear hE hS a w hq88; rintro m96 a w ⟨rest92, k90, q99, cs103, s97, rfl, hd93, hle98, hq88, h102, hn104, hE, hS⟩
    refine W.gen fun K105 hK105 => ?_
    replace h1 := Sl.mono RMendArc.mono hle98 h1
    replace h65 := Sl.mono RI.mono hle98 h65
    replace h83 := Ev.mono (RL.mono RMendArc.mono) hle98 h83
    replace h75 := Ev.mono RI.mono hle98 h75
    rcases rest92 with _ | ⟨x91, rest92⟩
    · have hlt94 := drop_nil hd93
      refine W.seq ?_
      refine W.region ?_
      refine WL.vS hS hE (runs_plain rfl) (Gives.p hE rfl) rfl ?_; clear hE a; intro a hE
      refine WL.nil ?_
      refine W.seq ?_
      refine W.condF hE rfl (decide_eq_false (by omega)) ?_
      subst hK105
      refine W.exit rfl ?_
      exact ⟨q99, cs103, s97, hle98, Option.some.inj hq88, h102, hn104, hE.pick _ ⟨rfl, rfl, trivial⟩, hS⟩
    · obtain ⟨hlt94, hx95, hd93⟩ := drop_cons hd93
      rw [MendSolverwith.loop1] at hq88
      refine W.seq ?_
      refine W.region ?_
      refine WL.vS hS hE (runs_plain rfl) (Gives.p hE rfl) rfl ?_; clear hE a; intro a hE
      refine WL.nil ?_
      refine W.seq ?_
      refine W.condT hE rfl (decide_eq_true (by omega)) ?_
      refine W.skip ?_
      refine W.seq ?_
      refine W.block ?_
      refine W.seq ?_
      refine W.region ?_
      obtain ⟨cs106, hl107, hR108, hat109⟩ := h1.at hx95
      subst hR108
      refine WL.vS hS hE (runs_plain rfl) (Gives.idx hE k90 rfl rfl sl47 rfl hlt94 (h1.aok hlt94)) rfl ?_; clear hE a; intro a hE
      refine WL.vS hS hE (runs_plain rfl) (Gives.loadA hE rfl (fun w h => hat109 w _ h) ty94) rfl ?_; clear hE a; intro a hE
      refine WL.alloc hE hS (runs_plain rfl) zr94 rfl ?_; clear hE hS a w; intro b110 a w hE hS
      refine WL.storeI hE hS 0 rfl (MendArc.cells x91) (runs_plain rfl) rfl rfl rfl ty94 rfl rfl rfl rfl ?_; clear hE hS a w; intro a w hE hS
      refine WL.nil ?_
      refine W.gen fun K111 hK111 => ?_
      refine W.regionE (sel (fun w => St w s97 (pt b110 (.cells (MendArc.cells x91).toArray 94 (0, 0)) :: pt b86 (.cells #[.pointer (some ⟨b85, 0, none⟩)] 100 (0, 0)) :: pt b85 (.cells #[.slice a71 q69.length c72, .slice a63 x52.last.length c64, .slice a79 q77.length c80] 105 (0, 0)) :: vecC 47 1 a79 c80 q77.length cs103 :: vecC 3 1 a71 c72 q69.length cs74 :: R)) (fun w => St w s97 (pt b110 (.cells (MendArc.cells x91).toArray 94 (0, 0)) :: pt b86 (.cells #[.pointer (some ⟨b85, 0, none⟩)] 100 (0, 0)) :: pt b85 (.cells #[.slice a71 q69.length c72, .slice a63 x52.last.length c64, .slice a79 q77.length c80] 105 (0, 0)) :: vecC 3 1 a71 c72 q69.length cs74 :: R))) (fun b i => cond b ([0, 1, 2, 3, 4, 5, 6, 7, 8, 9, 10, 11, 12, 13, 14, 15, 16, 17, 18].contains i) ([0, 1, 2, 3, 4, 5, 6, 7, 8, 9, 10, 11, 12, 13, 14, 15, 16, 17, 18, 19].contains i)) mixed ?_
      replace hS := hS.drew
      have hT := tw_sel (A := fun w => St w s97 (pt b110 (.cells (MendArc.cells x91).toArray 94 (0, 0)) :: pt b86 (.cells #[.pointer (some ⟨b85, 0, none⟩)] 100 (0, 0)) :: pt b85 (.cells #[.slice a71 q69.length c72, .slice a63 x52.last.length c64, .slice a79 q77.length c80] 105 (0, 0)) :: vecC 47 1 a79 c80 q77.length cs103 :: vecC 3 1 a71 c72 q69.length cs74 :: R)) (B := fun w => St w s97 (pt b110 (.cells (MendArc.cells x91).toArray 94 (0, 0)) :: pt b86 (.cells #[.pointer (some ⟨b85, 0, none⟩)] 100 (0, 0)) :: pt b85 (.cells #[.slice a71 q69.length c72, .slice a63 x52.last.length c64, .slice a79 q77.length c80] 105 (0, 0)) :: vecC 3 1 a71 c72 q69.length cs74 :: R)) (w := _) (x := true) (y := true) (fun _ => hS) (fun _ => (hS.dropAt 3))
      have hF := hS; replace hS := hS
      refine Rg.take (i := 0) true rfl hE rfl (by kernel_rfl) (runs_plain rfl) (Gives.loadB hE 1 rfl rfl rfl ty100) rfl hT ?_; clear hE a; intro a hE
      replace hS := hF; clear hF hT
      have hT := tw_sel (A := fun w => St w s97 (pt b110 (.cells (MendArc.cells x91).toArray 94 (0, 0)) :: pt b86 (.cells #[.pointer (some ⟨b85, 0, none⟩)] 100 (0, 0)) :: pt b85 (.cells #[.slice a71 q69.length c72, .slice a63 x52.last.length c64, .slice a79 q77.length c80] 105 (0, 0)) :: vecC 47 1 a79 c80 q77.length cs103 :: vecC 3 1 a71 c72 q69.length cs74 :: R)) (B := fun w => St w s97 (pt b110 (.cells (MendArc.cells x91).toArray 94 (0, 0)) :: pt b86 (.cells #[.pointer (some ⟨b85, 0, none⟩)] 100 (0, 0)) :: pt b85 (.cells #[.slice a71 q69.length c72, .slice a63 x52.last.length c64, .slice a79 q77.length c80] 105 (0, 0)) :: vecC 3 1 a71 c72 q69.length cs74 :: R)) (w := _) (x := true) (y := true) (fun _ => hS) (fun _ => (hS.dropAt 3))
      have hF := hS; replace hS := hS
      refine Rg.take (i := 1) true rfl hE rfl (by kernel_rfl) (runs_plain rfl) (Gives.nilOk hE rfl) rfl hT ?_; clear hE a; intro a hE
      replace hS := hF; clear hF hT
      refine Rg.takeP (i := 2) hE rfl (by kernel_rfl) (runs_plain rfl) (Gives.fld hE rfl fl105_2) rfl (tw_sel (fun _ => hS) (fun _ => (hS.dropAt 3))) ?_; clear hE a; intro a hE
      have hT := tw_sel (A := fun w => St w s97 (pt b110 (.cells (MendArc.cells x91).toArray 94 (0, 0)) :: pt b86 (.cells #[.pointer (some ⟨b85, 0, none⟩)] 100 (0, 0)) :: pt b85 (.cells #[.slice a71 q69.length c72, .slice a63 x52.last.length c64, .slice a79 q77.length c80] 105 (0, 0)) :: vecC 47 1 a79 c80 q77.length cs103 :: vecC 3 1 a71 c72 q69.length cs74 :: R)) (B := fun w => St w s97 (pt b110 (.cells (MendArc.cells x91).toArray 94 (0, 0)) :: pt b86 (.cells #[.pointer (some ⟨b85, 0, none⟩)] 100 (0, 0)) :: pt b85 (.cells #[.slice a71 q69.length c72, .slice a63 x52.last.length c64, .slice a79 q77.length c80] 105 (0, 0)) :: vecC 3 1 a71 c72 q69.length cs74 :: R)) (w := _) (x := true) (y := true) (fun _ => hS) (fun _ => (hS.dropAt 3))
      have hF := hS; replace hS := hS
      refine Rg.take (i := 3) true rfl hE rfl (by kernel_rfl) (runs_plain rfl) (Gives.loadB hE 2 rfl rfl rfl ty95) rfl hT ?_; clear hE a; intro a hE
      replace hS := hF; clear hF hT
      refine Rg.takeP (i := 4) hE rfl (by kernel_rfl) (runs_plain rfl) (Gives.fld hE rfl fl94_0) rfl (tw_sel (fun _ => hS) (fun _ => (hS.dropAt 3))) ?_; clear hE a; intro a hE
      have hT := tw_sel (A := fun w => St w s97 (pt b110 (.cells (MendArc.cells x91).toArray 94 (0, 0)) :: pt b86 (.cells #[.pointer (some ⟨b85, 0, none⟩)] 100 (0, 0)) :: pt b85 (.cells #[.slice a71 q69.length c72, .slice a63 x52.last.length c64, .slice a79 q77.length c80] 105 (0, 0)) :: vecC 47 1 a79 c80 q77.length cs103 :: vecC 3 1 a71 c72 q69.length cs74 :: R)) (B := fun w => St w s97 (pt b110 (.cells (MendArc.cells x91).toArray 94 (0, 0)) :: pt b86 (.cells #[.pointer (some ⟨b85, 0, none⟩)] 100 (0, 0)) :: pt b85 (.cells #[.slice a71 q69.length c72, .slice a63 x52.last.length c64, .slice a79 q77.length c80] 105 (0, 0)) :: vecC 3 1 a71 c72 q69.length cs74 :: R)) (w := _) (x := true) (y := true) (fun _ => hS) (fun _ => (hS.dropAt 3))
      have hF := hS; replace hS := hS
      refine Rg.take (i := 5) true rfl hE rfl (by kernel_rfl) (runs_plain rfl) (Gives.loadB hE 0 rfl rfl rfl ty3) rfl hT ?_; clear hE a; intro a hE
      replace hS := hF; clear hF hT
      have hT := tw_sel (A := fun w => St w s97 (pt b110 (.cells (MendArc.cells x91).toArray 94 (0, 0)) :: pt b86 (.cells #[.pointer (some ⟨b85, 0, none⟩)] 100 (0, 0)) :: pt b85 (.cells #[.slice a71 q69.length c72, .slice a63 x52.last.length c64, .slice a79 q77.length c80] 105 (0, 0)) :: vecC 47 1 a79 c80 q77.length cs103 :: vecC 3 1 a71 c72 q69.length cs74 :: R)) (B := fun w => St w s97 (pt b110 (.cells (MendArc.cells x91).toArray 94 (0, 0)) :: pt b86 (.cells #[.pointer (some ⟨b85, 0, none⟩)] 100 (0, 0)) :: pt b85 (.cells #[.slice a71 q69.length c72, .slice a63 x52.last.length c64, .slice a79 q77.length c80] 105 (0, 0)) :: vecC 3 1 a71 c72 q69.length cs74 :: R)) (w := _) (x := true) (y := true) (fun _ => hS) (fun _ => (hS.dropAt 3))
      have hF := hS; replace hS := hS
      refine Rg.take (i := 6) true rfl hE rfl (by kernel_rfl) (runs_plain rfl) (Gives.loadB hE 1 rfl rfl rfl ty100) rfl hT ?_; clear hE a; intro a hE
      replace hS := hF; clear hF hT
      have hT := tw_sel (A := fun w => St w s97 (pt b110 (.cells (MendArc.cells x91).toArray 94 (0, 0)) :: pt b86 (.cells #[.pointer (some ⟨b85, 0, none⟩)] 100 (0, 0)) :: pt b85 (.cells #[.slice a71 q69.length c72, .slice a63 x52.last.length c64, .slice a79 q77.length c80] 105 (0, 0)) :: vecC 47 1 a79 c80 q77.length cs103 :: vecC 3 1 a71 c72 q69.length cs74 :: R)) (B := fun w => St w s97 (pt b110 (.cells (MendArc.cells x91).toArray 94 (0, 0)) :: pt b86 (.cells #[.pointer (some ⟨b85, 0, none⟩)] 100 (0, 0)) :: pt b85 (.cells #[.slice a71 q69.length c72, .slice a63 x52.last.length c64, .slice a79 q77.length c80] 105 (0, 0)) :: vecC 3 1 a71 c72 q69.length cs74 :: R)) (w := _) (x := true) (y := true) (fun _ => hS) (fun _ => (hS.dropAt 3))
      have hF := hS; replace hS := hS
      refine Rg.take (i := 7) true rfl hE rfl (by kernel_rfl) (runs_plain rfl) (Gives.nilOk hE rfl) rfl hT ?_; clear hE a; intro a hE
      replace hS := hF; clear hF hT
      refine Rg.takeP (i := 8) hE rfl (by kernel_rfl) (runs_plain rfl) (Gives.fld hE rfl fl105_2) rfl (tw_sel (fun _ => hS) (fun _ => (hS.dropAt 3))) ?_; clear hE a; intro a hE
      have hT := tw_sel (A := fun w => St w s97 (pt b110 (.cells (MendArc.cells x91).toArray 94 (0, 0)) :: pt b86 (.cells #[.pointer (some ⟨b85, 0, none⟩)] 100 (0, 0)) :: pt b85 (.cells #[.slice a71 q69.length c72, .slice a63 x52.last.length c64, .slice a79 q77.length c80] 105 (0, 0)) :: vecC 47 1 a79 c80 q77.length cs103 :: vecC 3 1 a71 c72 q69.length cs74 :: R)) (B := fun w => St w s97 (pt b110 (.cells (MendArc.cells x91).toArray 94 (0, 0)) :: pt b86 (.cells #[.pointer (some ⟨b85, 0, none⟩)] 100 (0, 0)) :: pt b85 (.cells #[.slice a71 q69.length c72, .slice a63 x52.last.length c64, .slice a79 q77.length c80] 105 (0, 0)) :: vecC 3 1 a71 c72 q69.length cs74 :: R)) (w := _) (x := true) (y := true) (fun _ => hS) (fun _ => (hS.dropAt 3))
      have hF := hS; replace hS := hS
      refine Rg.take (i := 9) true rfl hE rfl (by kernel_rfl) (runs_plain rfl) (Gives.loadB hE 2 rfl rfl rfl ty95) rfl hT ?_; clear hE a; intro a hE
      replace hS := hF; clear hF hT
      refine Rg.takeP (i := 10) hE rfl (by kernel_rfl) (runs_plain rfl) (Gives.fld hE rfl fl94_0) rfl (tw_sel (fun _ => hS) (fun _ => (hS.dropAt 3))) ?_; clear hE a; intro a hE
      have hT := tw_sel (A := fun w => St w s97 (pt b110 (.cells (MendArc.cells x91).toArray 94 (0, 0)) :: pt b86 (.cells #[.pointer (some ⟨b85, 0, none⟩)] 100 (0, 0)) :: pt b85 (.cells #[.slice a71 q69.length c72, .slice a63 x52.last.length c64, .slice a79 q77.length c80] 105 (0, 0)) :: vecC 47 1 a79 c80 q77.length cs103 :: vecC 3 1 a71 c72 q69.length cs74 :: R)) (B := fun w => St w s97 (pt b110 (.cells (MendArc.cells x91).toArray 94 (0, 0)) :: pt b86 (.cells #[.pointer (some ⟨b85, 0, none⟩)] 100 (0, 0)) :: pt b85 (.cells #[.slice a71 q69.length c72, .slice a63 x52.last.length c64, .slice a79 q77.length c80] 105 (0, 0)) :: vecC 3 1 a71 c72 q69.length cs74 :: R)) (w := _) (x := true) (y := true) (fun _ => hS) (fun _ => (hS.dropAt 3))
      have hF := hS; replace hS := hS
      refine Rg.take (i := 11) true rfl hE rfl (by kernel_rfl) (runs_plain rfl) (Gives.loadB hE 0 rfl rfl rfl ty3) rfl hT ?_; clear hE a; intro a hE
      replace hS := hF; clear hF hT
      obtain ⟨x112, hx113, hq88⟩ := bindS hq88
      obtain ⟨hi114, hlt115, hy116⟩ := gx_some hx113
      obtain ⟨vs117, hl118, hR119, hd120, hget121⟩ := h102.at hy116
      obtain ⟨a122, c123, rfl, h124⟩ := hR119
      refine Rg.takeP (i := 12) hE rfl (by kernel_rfl) (runs_plain rfl) (Gives.idx hE ((x91.From).toNat) rfl rfl sl95 hi114 (by have := hn104; omega) (hS.vecAok 3 rfl (by have := hn104; omega : (x91.From).toNat < q77.length))) rfl (tw_sel (fun _ => hS) (fun _ => (hS.dropAt 3))) ?_; clear hE a; intro a hE
      have hT := tw_sel (A := fun w => St w s97 (pt b110 (.cells (MendArc.cells x91).toArray 94 (0, 0)) :: pt b86 (.cells #[.pointer (some ⟨b85, 0, none⟩)] 100 (0, 0)) :: pt b85 (.cells #[.slice a71 q69.length c72, .slice a63 x52.last.length c64, .slice a79 q77.length c80] 105 (0, 0)) :: vecC 47 1 a79 c80 q77.length cs103 :: vecC 3 1 a71 c72 q69.length cs74 :: R)) (B := fun w => St w s97 (pt b110 (.cells (MendArc.cells x91).toArray 94 (0, 0)) :: pt b86 (.cells #[.pointer (some ⟨b85, 0, none⟩)] 100 (0, 0)) :: pt b85 (.cells #[.slice a71 q69.length c72, .slice a63 x52.last.length c64, .slice a79 q77.length c80] 105 (0, 0)) :: vecC 3 1 a71 c72 q69.length cs74 :: R)) (w := _) (x := true) (y := true) (fun _ => hS) (fun _ => (hS.dropAt 3))
      have hF := hS; replace hS := hS
      refine Rg.take (i := 13) true rfl hE rfl (by kernel_rfl) (runs_plain rfl) (Gives.load1 hE rfl (fun w h => St.vecSees h 3 rfl ((x91.From).toNat * 1) _ hget121) ty47) rfl hT ?_; clear hE a; intro a hE
      replace hS := hF; clear hF hT
      have hT := tw_sel (A := fun w => St w s97 (pt b110 (.cells (MendArc.cells x91).toArray 94 (0, 0)) :: pt b86 (.cells #[.pointer (some ⟨b85, 0, none⟩)] 100 (0, 0)) :: pt b85 (.cells #[.slice a71 q69.length c72, .slice a63 x52.last.length c64, .slice a79 q77.length c80] 105 (0, 0)) :: vecC 47 1 a79 c80 q77.length cs103 :: vecC 3 1 a71 c72 q69.length cs74 :: R)) (B := fun w => St w s97 (pt b110 (.cells (MendArc.cells x91).toArray 94 (0, 0)) :: pt b86 (.cells #[.pointer (some ⟨b85, 0, none⟩)] 100 (0, 0)) :: pt b85 (.cells #[.slice a71 q69.length c72, .slice a63 x52.last.length c64, .slice a79 q77.length c80] 105 (0, 0)) :: vecC 3 1 a71 c72 q69.length cs74 :: R)) (w := _) (x := true) (y := true) (fun _ => hS) (fun _ => (hS.dropAt 3))
      have hF := hS; replace hS := hS
      refine Rg.take (i := 15) true rfl hE rfl (by kernel_rfl) (runs_plain rfl) (Gives.loadBA hE 0 rfl rfl ty94) rfl hT ?_; clear hE a; intro a hE
      replace hS := hF; clear hF hT
      obtain ⟨q125, hq126, hq88⟩ := bindS hq88
      obtain ⟨x134, hx135, hq88⟩ := bindS hq88
      obtain ⟨_, hx141, hq88⟩ := bindS hq88
      obtain ⟨x148, hx149, hq88⟩ := bindS hq88
      suffices key : ∀ s145 cs150 (a : Act) (w : World), s97.Le s145 → Sl 3 RMendArc s145 a1 c1 x1 → Sl 1 (RI .i64) s145 a63 c64 x52.last → Ev 1 (RL 3 RMendArc) s145 cs150 x148 → (x148).length = q77.length → Ev 1 (RI .i64) s145 cs74 q69 → Rep a 128 [(1, .slice a1 x1.length c1), (6, .pointer (some ⟨b86, 0, none⟩)), (36, .slice a1 x1.length c1), (37, .int .i64 ((x1).length : Int)), (38, .int .i64 ((k90 : Nat) : Int))] → St w s145 (pt b110 (.cells (MendArc.cells x91).toArray 94 (0, 0)) :: pt b86 (.cells #[.pointer (some ⟨b85, 0, none⟩)] 100 (0, 0)) :: pt b85 (.cells #[.slice a71 q69.length c72, .slice a63 x52.last.length c64, .slice a79 q77.length c80] 105 (0, 0)) :: vecC 47 1 a79 c80 q77.length cs150 :: vecC 3 1 a71 c72 q69.length cs74 :: R) → K111.nor a w by
        refine Rg.many 14 [16] (by kernel_rfl) ⟨?_, ?_, trivial⟩
        · refine Br.mk (i := 14) true true rfl (by kernel_rfl) (by kernel_rfl) ?_
          have hc_ := SlicesCloneLmendArc_ok hS h124 hq126
          refine WL.fnq hE (hc_) (runs_plain rfl) bd80 rfl rfl rfl ?_
          clear hE hS hc_; rintro e w ⟨a127, c128, n129, cs130, rfl, h131, rfl, hS⟩; refine ⟨_, rfl, ?_⟩; clear a; intro a hE
          refine WL.nil ?_
          refine ⟨⟨fun _ => (hS.tail), fun _ => ((hS.tail).dropAt 3)⟩, ?_⟩
          refine Rg.one (i := 16) true true rfl (by kernel_rfl) (by kernel_rfl) (by kernel_rfl) ?_
          refine WL.lit hE hS (e := 94) (es := 3) (vs := [(0, .agg (MendArc.cells x91).toArray)]) (cs := [.int .i64 x91.From, .int .i64 x91.To, .int .i64 x91.Len]) (runs_plain rfl) rfl (by kernel_rfl) rfl ?_; clear hE hS a w; intro b133 a w hE hS
          refine WL.nil ?_
          refine ⟨⟨fun _ => ((hS.tail).tail), fun _ => (((hS.tail).tail).dropAt 3)⟩, ?_⟩
          refine Rg.one (i := 17) true true rfl (by kernel_rfl) (by kernel_rfl) (by kernel_rfl) ?_
          refine WL.appD hE hS 0 (m := 1) (runs_plain rfl) rfl rfl rfl ap47 rfl h131 rfl (xs := [x91]) (Ev.cons (c1 := [.int .i64 x91.From, .int .i64 x91.To, .int .i64 x91.Len]) rfl rfl (Ev.nil)) rfl rfl hx135 rfl ?_; clear hE hS a w; intro a136 c137 cs138 a w h139 hE hS
          refine WL.nil ?_
          refine ⟨⟨fun _ => (hS.tail), fun _ => ((hS.tail).dropAt 3)⟩, ?_⟩
          obtain ⟨h142, h143⟩ := ix_some hx141
          refine Rg.takeP (i := 18) hE rfl (by kernel_rfl) (runs_plain rfl) (Gives.idx hE ((x91.From).toNat) rfl rfl sl95 h142 (by have := hn104; omega) (hS.vecAok 4 rfl (by have := hn104; omega : (x91.From).toNat < q77.length))) rfl (tw_sel (fun _ => (hS.tail)) (fun _ => ((hS.tail).dropAt 3))) ?_; clear hE a; intro a hE
          refine Rg.one (i := 19) false true rfl (by kernel_rfl) (by kernel_rfl) (by kernel_rfl) ?_
          have hF := hS.fixD RMendArc.mono 0 rfl h139 (rfl); clear hS; obtain ⟨s145, hle146, hS, h147⟩ := hF
          replace h1 := Sl.mono RMendArc.mono hle146 h1
          replace h124 := Sl.mono RMendArc.mono hle146 h124
          replace h65 := Sl.mono RI.mono hle146 h65
          replace h102 := Ev.mono (RL.mono RMendArc.mono) hle146 h102
          replace h75 := Ev.mono RI.mono hle146 h75
          refine WL.setD hE hS 3 rfl (runs_plain rfl) rfl rfl (vs := [.slice a136 x134.length c137]) rfl ty47 rfl rfl rfl h102 hn104 (sx_some hx149).1 hx149 ⟨_, _, rfl, h147⟩ rfl ?_; clear hE hS a w; intro cs150 a w h151 hn152 hE hS
          refine WL.nil ?_
          refine ⟨⟨fun h => absurd h (by decide), fun _ => (St.down hle146 (hS.dropAt 3))⟩, ?_⟩
          refine Rg.done (by kernel_rfl) ?_
          exact key _ _ _ _ hle146 h1 h65 h151 hn152 h75 (hE.pick _ ⟨rfl, rfl, rfl, rfl, rfl, trivial⟩) hS
        · refine Br.mk (i := 16) true true rfl (by kernel_rfl) (by kernel_rfl) ?_
          refine WL.lit hE hS (e := 94) (es := 3) (vs := [(0, .agg (MendArc.cells x91).toArray)]) (cs := [.int .i64 x91.From, .int .i64 x91.To, .int .i64 x91.Len]) (runs_plain rfl) rfl (by kernel_rfl) rfl ?_; clear hE hS a w; intro b133 a w hE hS
          refine WL.nil ?_
          refine ⟨⟨fun _ => (hS.tail), fun _ => ((hS.tail).dropAt 3)⟩, ?_⟩
          refine Rg.one (i := 14) true true rfl (by kernel_rfl) (by kernel_rfl) (by kernel_rfl) ?_
          have hc_ := SlicesCloneLmendArc_ok hS h124 hq126
          refine WL.fnq hE (hc_) (runs_plain rfl) bd80 rfl rfl rfl ?_
          clear hE hS hc_; rintro e w ⟨a127, c128, n129, cs130, rfl, h131, rfl, hS⟩; refine ⟨_, rfl, ?_⟩; clear a; intro a hE
          refine WL.nil ?_
          refine ⟨⟨fun _ => ((hS.tail).tail), fun _ => (((hS.tail).tail).dropAt 3)⟩, ?_⟩
          refine Rg.one (i := 17) true true rfl (by kernel_rfl) (by kernel_rfl) (by kernel_rfl) ?_
          replace hS := hS.front 1 rfl
          refine WL.appD hE hS 0 (m := 1) (runs_plain rfl) rfl rfl rfl ap47 rfl h131 rfl (xs := [x91]) (Ev.cons (c1 := [.int .i64 x91.From, .int .i64 x91.To, .int .i64 x91.Len]) rfl rfl (Ev.nil)) rfl rfl hx135 rfl ?_; clear hE hS a w; intro a136 c137 cs138 a w h139 hE hS
          refine WL.nil ?_
          refine ⟨⟨fun _ => (hS.tail), fun _ => ((hS.tail).dropAt 3)⟩, ?_⟩
          obtain ⟨h142, h143⟩ := ix_some hx141
          refine Rg.takeP (i := 18) hE rfl (by kernel_rfl) (runs_plain rfl) (Gives.idx hE ((x91.From).toNat) rfl rfl sl95 h142 (by have := hn104; omega) (hS.vecAok 4 rfl (by have := hn104; omega : (x91.From).toNat < q77.length))) rfl (tw_sel (fun _ => (hS.tail)) (fun _ => ((hS.tail).dropAt 3))) ?_; clear hE a; intro a hE
          refine Rg.one (i := 19) false true rfl (by kernel_rfl) (by kernel_rfl) (by kernel_rfl) ?_
          have hF := hS.fixD RMendArc.mono 0 rfl h139 (rfl); clear hS; obtain ⟨s145, hle146, hS, h147⟩ := hF
          replace h1 := Sl.mono RMendArc.mono hle146 h1
          replace h124 := Sl.mono RMendArc.mono hle146 h124
          replace h65 := Sl.mono RI.mono hle146 h65
          replace h102 := Ev.mono (RL.mono RMendArc.mono) hle146 h102
          replace h75 := Ev.mono RI.mono hle146 h75
          refine WL.setD hE hS 3 rfl (runs_plain rfl) rfl rfl (vs := [.slice a136 x134.length c137]) rfl ty47 rfl rfl rfl h102 hn104 (sx_some hx149).1 hx149 ⟨_, _, rfl, h147⟩ rfl ?_; clear hE hS a w; intro cs150 a w h151 hn152 hE hS
          refine WL.nil ?_
          refine ⟨⟨fun h => absurd h (by decide), fun _ => (St.down hle146 (hS.dropAt 3))⟩, ?_⟩
          refine Rg.done (by kernel_rfl) ?_
          exact key _ _ _ _ hle146 h1 h65 h151 hn152 h75 (hE.pick _ ⟨rfl, rfl, rfl, rfl, rfl, trivial⟩) hS
      clear hE hS a w; intro s145 cs150 a w hle153 h1 h65 h151 hn152 h75 hE hS
      subst hK111
      refine W.region ?_
      refine WL.vS hS hE (runs_plain rfl) (Gives.inc hE rfl (by have := h1.small; omega)) rfl ?_; clear hE a; intro a hE
      refine WL.vS hS hE (runs_plain rfl) (Gives.p hE rfl) rfl ?_; clear hE a; intro a hE
      refine WL.nil ?_
      replace hS := hS.tail
      subst hK105
      exact ⟨rest92.length, Nat.lt_succ_self _, rest92, k90 + 1, x148, cs150, s145, rfl, hd93, (Sg.Le.trans hle98 hle153), hq88, h151, hn152, hE.pick _ ⟨rfl, rfl, rfl, rfl, rfl, trivial⟩, hS⟩
  · clear hE hS a w; rintro a w ⟨q99, cs103, s97, hle98, rfl, h102, hn104, hE, hS⟩
    replace h1 := Sl.mono RMendArc.mono hle98 h1
    replace h65 := Sl.mono RI.mono hle98 h65
    replace h83 := Ev.mono (RL.mono RMendArc.mono) hle98 h83
    replace h75 := Ev.mono RI.mono hle98 h75
    refine W.seq ?_
    refine W.region ?_
    refine WL.vS hS hE (runs_plain rfl) (Gives.loadB hE 0 rfl rfl rfl ty100) rfl ?_; clear hE a; intro a hE
    refine WL.vS hS hE (runs_plain rfl) (Gives.nilOk hE rfl) rfl ?_; clear hE a; intro a hE
    refine WL.vS hS hE (runs_plain rfl) (Gives.fld hE rfl fl105_0) rfl ?_; clear hE a; intro a hE
    refine WL.vS hS hE (runs_plain rfl) (Gives.loadB hE 1 rfl rfl rfl ty22) rfl ?_; clear hE a; intro a hE
    refine WL.vS hS hE (runs_plain rfl) (Gives.len hE rfl sl22) rfl ?_; clear hE a; intro a hE
    obtain ⟨x154, hx155, hr⟩ := bindS hr
    refine WL.mkD (Rr := RB) hE hS (runs_plain rfl) rfl rfl ap82 zr4 rfl hx155 rfl ?_; clear hE hS a w; intro b156 cs157 a w h158 hE hS
    refine WL.alloc hE hS (runs_plain rfl) zr82 rfl ?_; clear hE hS a w; intro b160 a w hE hS
    refine WL.storeI hE hS 0 rfl [.slice (some ⟨b156, 0, none⟩) x154.length x154.length] (runs_plain rfl) rfl rfl rfl ty82 rfl rfl rfl rfl ?_; clear hE hS a w; intro a w hE hS
    refine WL.nil ?_
    refine W.seq ?_
    refine W.region ?_
    refine WL.vS hS hE (runs_plain rfl) (Gives.loadB hE 2 rfl rfl rfl ty100) rfl ?_; clear hE a; intro a hE
    refine WL.vS hS hE (runs_plain rfl) (Gives.nilOk hE rfl) rfl ?_; clear hE a; intro a hE
    refine WL.vS hS hE (runs_plain rfl) (Gives.fld hE rfl fl105_0) rfl ?_; clear hE a; intro a hE
    refine WL.vS hS hE (runs_plain rfl) (Gives.loadB hE 3 rfl rfl rfl ty22) rfl ?_; clear hE a; intro a hE
    refine WL.vS hS hE (runs_plain rfl) (Gives.len hE rfl sl22) rfl ?_; clear hE a; intro a hE
    obtain ⟨x161, hx162, hr⟩ := bindS hr
    refine WL.mkD (Rr := RI .i64) hE hS (runs_plain rfl) rfl rfl ap22 zr3 rfl hx162 rfl ?_; clear hE hS a w; intro b163 cs164 a w h165 hE hS
    refine WL.alloc hE hS (runs_plain rfl) zr22 rfl ?_; clear hE hS a w; intro b167 a w hE hS
    refine WL.storeI hE hS 0 rfl [.slice (some ⟨b163, 0, none⟩) x161.length x161.length] (runs_plain rfl) rfl rfl rfl ty22 rfl rfl rfl rfl ?_; clear hE hS a w; intro a w hE hS
    refine WL.nil ?_
    refine W.seq ?_
    refine W.region ?_
    refine WL.alloc hE hS (runs_plain rfl) zr22 rfl ?_; clear hE hS a w; intro b168 a w hE hS
    refine WL.nil ?_
    refine W.seq ?_
    refine W.region ?_
    refine WL.alloc hE hS (runs_plain rfl) zr4 rfl ?_; clear hE hS a w; intro b169 a w hE hS
    refine WL.storeI hE hS 0 rfl [.bool true] (runs_plain rfl) rfl rfl rfl ty4 rfl rfl rfl rfl ?_; clear hE hS a w; intro a w hE hS
    refine WL.nil ?_
    refine W.seq ?_
    refine W.region ?_
    replace hS := hS.vecNil 3 1
    refine WL.vS hS hE (runs_plain rfl) (Gives.mkfn hE (vs := [.pointer (some ⟨b86, 0, none⟩), .pointer (some ⟨b167, 0, none⟩), .pointer (some ⟨b169, 0, none⟩), .pointer (some ⟨b160, 0, none⟩), .pointer (some ⟨b168, 0, none⟩)]) rfl) rfl ?_; clear hE a; intro a hE
    refine WL.vS hS hE (runs_plain rfl) (Gives.p hE rfl) rfl ?_; clear hE a; intro a hE
    refine WL.nil ?_
    refine W.seq ?_
    refine W.seq ?_
    refine W.region ?_
    refine WL.vS hS hE (runs_plain rfl) (Gives.p hE rfl) rfl ?_; clear hE a; intro a hE
    refine WL.vS hS hE (runs_plain rfl) (Gives.len hE rfl sl47) rfl ?_; clear hE a; intro a hE
    refine WL.vS hS hE (runs_plain rfl) (Gives.p hE rfl) rfl ?_; clear hE a; intro a hE
    refine WL.nil ?_
    obtain ⟨q172, hq171, hr⟩ := bindS hr
    refine W.cut (fun a w => ∃ (q182 : List Bool), ∃ (q188 : List Int), ∃ (q194 : List Int), ∃ (q200 : List Int), ∃ (q207 : Bool), ∃ (cs186 : List Value), ∃ (cs192 : List Value), ∃ (cs198 : List Value), ∃ (a201 : Option Addr), ∃ (c202 : Nat), ∃ (n204 : Nat), ∃ (cs205 : List Value), (q182, q188, q194, q200, q207) = q172 ∧ Ev 1 RB s97 cs186 q182 ∧ q182.length = x154.length ∧ Ev 1 (RI .i64) s97 cs192 q188 ∧ q188.length = x161.length ∧ Ev 1 (RI .i64) s97 cs198 q194 ∧ q194.length = q69.length ∧ Ev 1 (RI .i64) s97 cs205 q200 ∧ q200.length = n204 ∧ Rep a 128 [(6, .pointer (some ⟨b86, 0, none⟩)), (9, .pointer (some ⟨b160, 0, none⟩)), (11, .pointer (some ⟨b168, 0, none⟩)), (12, .pointer (some ⟨b169, 0, none⟩)), (13, .func (.func 88) #[] #[.pointer (some ⟨b86, 0, none⟩), .pointer (some ⟨b167, 0, none⟩), .pointer (some ⟨b169, 0, none⟩), .pointer (some ⟨b160, 0, none⟩), .pointer (some ⟨b168, 0, none⟩)])] ∧ St w s97 (vecC 3 1 a201 c202 n204 cs205 :: pt b169 (.cells #[.bool q207] 4 (0, 0)) :: pt b168 (.cells #[.slice a201 n204 c202] 22 (0, 0)) :: pt b167 (.cells #[.slice (some ⟨b163, 0, none⟩) x161.length x161.length] 22 (0, 0)) :: vecC 3 1 (some ⟨b163, 0, none⟩) x161.length x161.length cs192 :: pt b160 (.cells #[.slice (some ⟨b156, 0, none⟩) x154.length x154.length] 82 (0, 0)) :: vecC 4 1 (some ⟨b156, 0, none⟩) x154.length x154.length cs186 :: pt b86 (.cells #[.pointer (some ⟨b85, 0, none⟩)] 100 (0, 0)) :: pt b85 (.cells #[.slice a71 q69.length c72, .slice a63 x52.last.length c64, .slice a79 q77.length c80] 105 (0, 0)) :: vecC 47 1 a79 c80 q77.length cs103 :: vecC 3 1 a71 c72 q69.length cs198 :: R)) ?_ ?_
    · refine W.block ?_
      refine W.loop (fun m a w => ∃ (rest175 : List MendArc) (k173 : Nat), ∃ (q182 : List Bool), ∃ (q188 : List Int), ∃ (q194 : List Int), ∃ (q200 : List Int), ∃ (q207 : Bool), ∃ (cs186 : List Value), ∃ (cs192 : List Value), ∃ (cs198 : List Value), ∃ (a201 : Option Addr), ∃ (c202 : Nat), ∃ (n204 : Nat), ∃ (cs205 : List Value), rest175.length = m ∧ x1.drop k173 = rest175 ∧ MendSolverwith.loop2 x52 q99 rest175 q182 q188 q194 q200 q207 = some q172 ∧ Ev 1 RB s97 cs186 q182 ∧ q182.length = x154.length ∧ Ev 1 (RI .i64) s97 cs192 q188 ∧ q188.length = x161.length ∧ Ev 1 (RI .i64) s97 cs198 q194 ∧ q194.length = q69.length ∧ Ev 1 (RI .i64) s97 cs205 q200 ∧ q200.length = n204 ∧ Rep a 128 [(6, .pointer (some ⟨b86, 0, none⟩)), (9, .pointer (some ⟨b160, 0, none⟩)), (11, .pointer (some ⟨b168, 0, none⟩)), (12, .pointer (some ⟨b169, 0, none⟩)), (13, .func (.func 88) #[] #[.pointer (some ⟨b86, 0, none⟩), .pointer (some ⟨b167, 0, none⟩), .pointer (some ⟨b169, 0, none⟩), .pointer (some ⟨b160, 0, none⟩), .pointer (some ⟨b168, 0, none⟩)]), (75, .slice a1 x1.length c1), (76, .int .i64 ((x1).length : Int)), (77, .int .i64 ((k173 : Nat) : Int))] ∧ St w s97 (vecC 3 1 a201 c202 n204 cs205 :: pt b169 (.cells #[.bool q207] 4 (0, 0)) :: pt b168 (.cells #[.slice a201 n204 c202] 22 (0, 0)) :: pt b167 (.cells #[.slice (some ⟨b163, 0, none⟩) x161.length x161.length] 22 (0, 0)) :: vecC 3 1 (some ⟨b163, 0, none⟩) x161.length x161.length cs192 :: pt b160 (.cells #[.slice (some ⟨b156, 0, none⟩) x154.length x154.length] 82 (0, 0)) :: vecC 4 1 (some ⟨b156, 0, none⟩) x154.length x154.length cs186 :: pt b86 (.cells #[.pointer (some ⟨b85, 0, none⟩)] 100 (0, 0)) :: pt b85 (.cells #[.slice a71 q69.length c72, .slice a63 x52.last.length c64, .slice a79 q77.length c80] 105 (0, 0)) :: vecC 47 1 a79 c80 q77.length cs103 :: vecC 3 1 a71 c72 q69.length cs198 :: R)) (m := x1.length) ⟨x1, 0, x154, x161, q69, [], true, cs157, cs164, cs74, none, 0, 0, [], rfl, rfl, hq171, h158, (rfl), h165, (rfl), h75, rfl, (Ev.nil), (rfl), hE.pick _ ⟨rfl, rfl, rfl, rfl, rfl, rfl, rfl, rfl, trivial⟩, hS⟩ ?_
      clear hE hS a w hq171; rintro m179 a w ⟨rest175, k173, q182, q188, q194, q200, q207, cs186, cs192, cs198, a201, c202, n204, cs205, rfl, hd176, hq171, h185, hn187, h191, hn193, h197, hn199, h203, rfl, hE, hS⟩
      refine W.gen fun K208 hK208 => ?_
      rcases rest175 with _ | ⟨x174, rest175⟩
      · have hlt177 := drop_nil hd176
        refine W.seq ?_
        refine W.region ?_
        refine WL.vS hS hE (runs_plain rfl) (Gives.p hE rfl) rfl ?_; clear hE a; intro a hE
        refine WL.nil ?_
        refine W.seq ?_
        refine W.condF hE rfl (decide_eq_false (by omega)) ?_
        subst hK208
        refine W.exit rfl ?_
        exact ⟨q182, q188, q194, q200, q207, cs186, cs192, cs198, a201, c202, q200.length, cs205, Option.some.inj hq171, h185, hn187, h191, hn193, h197, hn199, h203, rfl, hE.pick _ ⟨rfl, rfl, rfl, rfl, rfl, trivial⟩, hS⟩
      · obtain ⟨hlt177, hx178, hd176⟩ := drop_cons hd176
        rw [MendSolverwith.loop2] at hq171
        refine W.seq ?_
        refine W.region ?_
        refine WL.vS hS hE (runs_plain rfl) (Gives.p hE rfl) rfl ?_; clear hE a; intro a hE
        refine WL.nil ?_
        refine W.seq ?_
        refine W.condT hE rfl (decide_eq_true (by omega)) ?_
        refine W.skip ?_
        refine W.seq ?_
        refine W.block ?_
        refine W.seq ?_
        refine W.region ?_
        obtain ⟨cs209, hl210, hR211, hat212⟩ := h1.at hx178
        subst hR211
        refine WL.vS hS hE (runs_plain rfl) (Gives.idx hE k173 rfl rfl sl47 rfl hlt177 (h1.aok hlt177)) rfl ?_; clear hE a; intro a hE
        refine WL.vS hS hE (runs_plain rfl) (Gives.loadA hE rfl (fun w h => hat212 w _ h) ty94) rfl ?_; clear hE a; intro a hE
        refine WL.alloc hE hS (runs_plain rfl) zr94 rfl ?_; clear hE hS a w; intro b213 a w hE hS
        refine WL.storeI hE hS 0 rfl (MendArc.cells x174) (runs_plain rfl) rfl rfl rfl ty94 rfl rfl rfl rfl ?_; clear hE hS a w; intro a w hE hS
        refine WL.nil ?_
        refine W.region ?_
        refine WL.vS hS hE (runs_plain rfl) (Gives.p hE rfl) rfl ?_; clear hE a; intro a hE
        refine WL.vS hS hE (runs_plain rfl) (Gives.loadBA hE 0 rfl rfl ty94) rfl ?_; clear hE a; intro a hE
        obtain ⟨q214, hq215, hq171⟩ := bindS hq171
        replace hS := hS.front 10 rfl
        replace hS := hS.front 11 rfl
        replace hS := hS.front 3 rfl
        replace hS := hS.front 9 rfl
        replace hS := hS.front 8 rfl
        replace hS := hS.front 11 rfl
        replace hS := hS.front 8 rfl
        replace hS := hS.front 10 rfl
        replace hS := hS.front 9 rfl
        replace hS := hS.front 10 rfl
        replace hS := hS.front 11 rfl
        have hc_ := MendSolverwith_1_v1_ok (y5 := (MendSolver.mk q194 x52.last q99)) hS h191 hn193 h185 hn187 h203 rfl h197 hn199 h65 h102 hn104 hq215
        refine WL.fnw hE (hc_) rfl (runs_plain rfl) bd88 rfl rfl rfl ?_
        clear hE hS hc_; rintro e w ⟨cs216, cs219, cs222, a225, c226, n227, cs228, rfl, h217, hn218, h220, hn221, h223, hn224, h229, rfl, hS⟩; refine ⟨_, rfl, ?_⟩; clear a; intro a hE
        refine WL.nil ?_
        refine W.region ?_
        refine WL.vS hS hE (runs_plain rfl) (Gives.inc hE rfl (by have := h1.small; omega)) rfl ?_; clear hE a; intro a hE
        refine WL.vS hS hE (runs_plain rfl) (Gives.p hE rfl) rfl ?_; clear hE a; intro a hE
        refine WL.nil ?_
        replace hS := hS.dropAt 11
        replace hS := hS.front 9 rfl
        replace hS := hS.front 10 rfl
        replace hS := hS.front 7 rfl
        replace hS := hS.front 3 rfl
        replace hS := hS.front 9 rfl
        replace hS := hS.front 7 rfl
        replace hS := hS.front 9 rfl
        replace hS := hS.front 7 rfl
        replace hS := hS.front 9 rfl
        replace hS := hS.front 9 rfl
        replace hS := hS.front 10 rfl
        subst hK208
        exact ⟨rest175.length, Nat.lt_succ_self _, rest175, k173 + 1, q214.2.1, q214.1, q214.2.2.1, q214.2.2.2.2, q214.2.2.2.1, cs219, cs216, cs222, a225, c226, q214.2.2.2.2.length, cs228, rfl, hd176, hq171, h220, hn221, h217, hn218, h223, hn224, h229, rfl, hE.pick _ ⟨rfl, rfl, rfl, rfl, rfl, rfl, rfl, rfl, trivial⟩, hS⟩
    · clear hE hS a w; rintro a w ⟨q182, q188, q194, q200, q207, cs186, cs192, cs198, a201, c202, n204, cs205, rfl, h185, hn187, h191, hn193, h197, hn199, h203, rfl, hE, hS⟩
      dsimp only at hr
      refine W.seq ?_
      refine W.region ?_
      refine WL.vS hS hE (runs_plain rfl) (Gives.loadB hE 7 rfl rfl rfl ty100) rfl ?_; clear hE a; intro a hE
      obtain ⟨q230, hq231, hr⟩ := bindS hr
      replace hS := hS.front 9 rfl
      replace hS := hS.front 10 rfl
      replace hS := hS.front 10 rfl
      have hc_ := MendSolverbound_v1_ok (y0 := (MendSolver.mk q194 x52.last q99)) hS h197 hn199 h65 h102 hn104 hq231
      refine WL.fnq hE (hc_) (runs_plain rfl) bd89 rfl rfl rfl ?_
      clear hE hS hc_; rintro e w ⟨rfl, hS⟩; refine ⟨_, rfl, ?_⟩; clear a; intro a hE
      refine WL.vS hS hE (runs_plain rfl) (Gives.p hE rfl) rfl ?_; clear hE a; intro a hE
      refine WL.nil ?_
      refine W.seq ?_
      obtain ⟨q233, hq232, hr⟩ := bindS hr
      refine W.cut (fun a w => ∃ (q238 : List Bool), ∃ (q244 : List Int), ∃ (q250 : List Int), ∃ (q256 : List Int), ∃ (q263 : Bool), ∃ (cs242 : List Value), ∃ (cs248 : List Value), ∃ (cs254 : List Value), ∃ (a257 : Option Addr), ∃ (c258 : Nat), ∃ (n260 : Nat), ∃ (cs261 : List Value), (.next (q238, q244, q250, q256, q263)) = q233 ∧ Ev 1 RB s97 cs242 q238 ∧ q238.length = x154.length ∧ Ev 1 (RI .i64) s97 cs248 q244 ∧ q244.length = x161.length ∧ Ev 1 (RI .i64) s97 cs254 q250 ∧ q250.length = q69.length ∧ Ev 1 (RI .i64) s97 cs261 q256 ∧ q256.length = n260 ∧ Rep a 128 [(6, .pointer (some ⟨b86, 0, none⟩)), (12, .pointer (some ⟨b169, 0, none⟩))] ∧ St w s97 (pt b85 (.cells #[.slice a71 q69.length c72, .slice a63 x52.last.length c64, .slice a79 q77.length c80] 105 (0, 0)) :: vecC 3 1 a71 c72 q69.length cs254 :: vecC 47 1 a79 c80 q77.length cs103 :: vecC 3 1 a257 c258 n260 cs261 :: pt b169 (.cells #[.bool q263] 4 (0, 0)) :: pt b168 (.cells #[.slice a257 n260 c258] 22 (0, 0)) :: pt b167 (.cells #[.slice (some ⟨b163, 0, none⟩) x161.length x161.length] 22 (0, 0)) :: vecC 3 1 (some ⟨b163, 0, none⟩) x161.length x161.length cs248 :: pt b160 (.cells #[.slice (some ⟨b156, 0, none⟩) x154.length x154.length] 82 (0, 0)) :: vecC 4 1 (some ⟨b156, 0, none⟩) x154.length x154.length cs242 :: pt b86 (.cells #[.pointer (some ⟨b85, 0, none⟩)] 100 (0, 0)) :: R)) ?_ ?_
      · refine W.block ?_
        refine W.loop (fun m a w => ∃ (n234 : Nat), ∃ (q238 : List Bool), ∃ (q244 : List Int), ∃ (q250 : List Int), ∃ (q256 : List Int), ∃ (q263 : Bool), ∃ (cs242 : List Value), ∃ (cs248 : List Value), ∃ (cs254 : List Value), ∃ (a257 : Option Addr), ∃ (c258 : Nat), ∃ (n260 : Nat), ∃ (cs261 : List Value), n234 = m ∧ MendSolverwith.loop3 x52 q99 q230 n234 q238 q244 q250 q256 q263 = some q233 ∧ Ev 1 RB s97 cs242 q238 ∧ q238.length = x154.length ∧ Ev 1 (RI .i64) s97 cs248 q244 ∧ q244.length = x161.length ∧ Ev 1 (RI .i64) s97 cs254 q250 ∧ q250.length = q69.length ∧ Ev 1 (RI .i64) s97 cs261 q256 ∧ q256.length = n260 ∧ Rep a 128 [(6, .pointer (some ⟨b86, 0, none⟩)), (9, .pointer (some ⟨b160, 0, none⟩)), (11, .pointer (some ⟨b168, 0, none⟩)), (12, .pointer (some ⟨b169, 0, none⟩)), (13, .func (.func 88) #[] #[.pointer (some ⟨b86, 0, none⟩), .pointer (some ⟨b167, 0, none⟩), .pointer (some ⟨b169, 0, none⟩), .pointer (some ⟨b160, 0, none⟩), .pointer (some ⟨b168, 0, none⟩)]), (16, .int .i64 q230)] ∧ St w s97 (pt b85 (.cells #[.slice a71 q69.length c72, .slice a63 x52.last.length c64, .slice a79 q77.length c80] 105 (0, 0)) :: vecC 3 1 a71 c72 q69.length cs254 :: vecC 47 1 a79 c80 q77.length cs103 :: vecC 3 1 a257 c258 n260 cs261 :: pt b169 (.cells #[.bool q263] 4 (0, 0)) :: pt b168 (.cells #[.slice a257 n260 c258] 22 (0, 0)) :: pt b167 (.cells #[.slice (some ⟨b163, 0, none⟩) x161.length x161.length] 22 (0, 0)) :: vecC 3 1 (some ⟨b163, 0, none⟩) x161.length x161.length cs248 :: pt b160 (.cells #[.slice (some ⟨b156, 0, none⟩) x154.length x154.length] 82 (0, 0)) :: vecC 4 1 (some ⟨b156, 0, none⟩) x154.length x154.length cs242 :: pt b86 (.cells #[.pointer (some ⟨b85, 0, none⟩)] 100 (0, 0)) :: R)) (m := fu) ⟨fu, q182, q188, q194, q200, q207, cs186, cs192, cs198, a201, c202, q200.length, cs205, rfl, hq232, h185, hn187, h191, hn193, h197, hn199, h203, rfl, hE.pick _ ⟨rfl, rfl, rfl, rfl, rfl, rfl, trivial⟩, hS⟩ ?_
        clear hE hS a w hq232; rintro m235 a w ⟨n234, q238, q244, q250, q256, q263, cs242, cs248, cs254, a257, c258, n260, cs261, rfl, hq232, h241, hn243, h247, hn249, h253, hn255, h259, rfl, hE, hS⟩
        refine W.gen fun K264 hK264 => ?_
        rcases n234 with _ | n234
        · rw [MendSolverwith.loop3] at hq232; exact absurd hq232 (by simp)
        rw [MendSolverwith.loop3] at hq232
        refine W.seq ?_
        refine W.seq ?_
        obtain ⟨q266, hq265, hq232⟩ := bndS hq232
        refine W.cut (fun a w => ∃ (q269 : Bool), q269 = q266 ∧ Rep a 128 [(6, .pointer (some ⟨b86, 0, none⟩)), (9, .pointer (some ⟨b160, 0, none⟩)), (11, .pointer (some ⟨b168, 0, none⟩)), (12, .pointer (some ⟨b169, 0, none⟩)), (13, .func (.func 88) #[] #[.pointer (some ⟨b86, 0, none⟩), .pointer (some ⟨b167, 0, none⟩), .pointer (some ⟨b169, 0, none⟩), .pointer (some ⟨b160, 0, none⟩), .pointer (some ⟨b168, 0, none⟩)]), (16, .int .i64 q230), (92, .bool q269)] ∧ St w s97 (pt b85 (.cells #[.slice a71 q69.length c72, .slice a63 x52.last.length c64, .slice a79 q77.length c80] 105 (0, 0)) :: vecC 3 1 a71 c72 q69.length cs254 :: vecC 47 1 a79 c80 q77.length cs103 :: vecC 3 1 a257 c258 q256.length cs261 :: pt b169 (.cells #[.bool q263] 4 (0, 0)) :: pt b168 (.cells #[.slice a257 q256.length c258] 22 (0, 0)) :: pt b167 (.cells #[.slice (some ⟨b163, 0, none⟩) x161.length x161.length] 22 (0, 0)) :: vecC 3 1 (some ⟨b163, 0, none⟩) x161.length x161.length cs248 :: pt b160 (.cells #[.slice (some ⟨b156, 0, none⟩) x154.length x154.length] 82 (0, 0)) :: vecC 4 1 (some ⟨b156, 0, none⟩) x154.length x154.length cs242 :: pt b86 (.cells #[.pointer (some ⟨b85, 0, none⟩)] 100 (0, 0)) :: R)) ?_ ?_
        · refine W.gen fun K270 hK270 => ?_
          refine W.region ?_
          refine WL.vS hS hE (runs_plain rfl) (Gives.loadB hE 5 rfl rfl rfl ty22) rfl ?_; clear hE a; intro a hE
          refine WL.vS hS hE (runs_plain rfl) (Gives.len hE rfl sl22) rfl ?_; clear hE a; intro a hE
          refine WL.vS hS hE (runs_plain rfl) (Gives.p hE rfl) rfl ?_; clear hE a; intro a hE
          refine WL.vS hS hE (runs_plain rfl) (Gives.p hE rfl) rfl ?_; clear hE a; intro a hE
          rcases Bool.eq_false_or_eq_true (decide (((q256.length : Nat) : Int) > 0)) with hg271 | hg271
          · replace hq265 := iteT hg271 hq265
            refine WL.vS hS hE (runs_if hE rfl rfl rfl hg271) (Gives.loadB hE 4 rfl rfl rfl ty4) rfl ?_; clear hE a; intro a hE
            refine WL.vS hS hE (runs_plain rfl) (Gives.pickT hE rfl hg271 rfl) rfl ?_; clear hE a; intro a hE
            refine WL.nil ?_
            subst hK270
            exact ⟨q263, hq265, hE.pick _ ⟨rfl, rfl, rfl, rfl, rfl, rfl, rfl, trivial⟩, hS⟩
          · replace hq265 := iteF hg271 hq265
            refine WL.no hE (runs_not hE rfl rfl rfl (by rw [hg271]; decide)) rfl ?_; clear hE a; intro a hE
            refine WL.vS hS hE (runs_plain rfl) (Gives.pickF hE rfl hg271 rfl) rfl ?_; clear hE a; intro a hE
            refine WL.nil ?_
            subst hK270
            exact ⟨false, hq265, hE.pick _ ⟨rfl, rfl, rfl, rfl, rfl, rfl, rfl, trivial⟩, hS⟩
        · clear hE hS a w; rintro a w ⟨q269, rfl, hE, hS⟩
          refine W.cond hE rfl (fun hc272 => ?_) (fun hc272 => ?_)
          · replace hq232 := iteT hc272 hq232
            refine W.skip ?_
            refine W.block ?_
            refine W.seq ?_
            refine W.region ?_
            refine WL.vS hS hE (runs_plain rfl) (Gives.loadB hE 5 rfl rfl rfl ty22) rfl ?_; clear hE a; intro a hE
            obtain ⟨x273, hx274, hq232⟩ := bindS hq232
            obtain ⟨hi275, hlt276, hy277⟩ := gx_some hx274
            obtain ⟨vs278, hl279, hR280, hd281, hget282⟩ := h259.at hy277
            subst hR280
            refine WL.vS hS hE (runs_plain rfl) (Gives.idx hE (((0 : Int)).toNat) rfl rfl sl22 hi275 (by omega) (hS.vecAok 3 rfl (by omega : ((0 : Int)).toNat < q256.length))) rfl ?_; clear hE a; intro a hE
            refine WL.vS hS hE (runs_plain rfl) (Gives.load1 hE rfl (fun w h => St.vecSees h 3 rfl (((0 : Int)).toNat * 1) _ hget282) ty3) rfl ?_; clear hE a; intro a hE
            refine WL.vS hS hE (runs_plain rfl) (Gives.p hE rfl) rfl ?_; clear hE a; intro a hE
            refine WL.nil ?_
            refine W.seq ?_
            refine W.region ?_
            refine WL.vS hS hE (runs_plain rfl) (Gives.loadB hE 5 rfl rfl rfl ty22) rfl ?_; clear hE a; intro a hE
            obtain ⟨x283, hx284, hq232⟩ := bindS hq232
            obtain ⟨h285, h286, _, h287, _, _⟩ := cutl_some hx284
            have h289 := (hS.vecCap 3 rfl).1
            have h288 : x283 = q256.drop ((1 : Int)).toNat := by rw [h287]; simp
            have h290 : Ev 1 (RI .i64) s97 (cs261.drop (((1 : Int)).toNat * 1)) x283 := by rw [h288]; exact h259.drop _
            have hn291 : x283.length = (q256.length - ((1 : Int)).toNat) := by rw [h288, List.length_drop]
            replace hS := hS.vecDrop 3 rfl (k := ((1 : Int)).toNat) (by omega)
            refine WL.vS hS hE (runs_plain rfl) (Gives.slL hE sl22 rfl rfl h285 (by omega) (cutA_sliced _ _ _ _ _)) rfl ?_; clear hE a; intro a hE
            refine WL.storeI hE hS 5 rfl [.slice (cutA a257 c258 ((1 : Int)).toNat 1) (q256.length - ((1 : Int)).toNat) (c258 - ((1 : Int)).toNat)] (runs_plain rfl) rfl rfl rfl ty22 rfl rfl rfl rfl ?_; clear hE hS a w; intro a w hE hS
            refine WL.nil ?_
            refine W.seq ?_
            refine W.region ?_
            refine WL.vS hS hE (runs_plain rfl) (Gives.loadB hE 8 rfl rfl rfl ty82) rfl ?_; clear hE a; intro a hE
            refine WL.vS hS hE (runs_plain rfl) (Gives.p hE rfl) rfl ?_; clear hE a; intro a hE
            obtain ⟨_, hx293, hq232⟩ := bindS hq232
            obtain ⟨h294, h295⟩ := ix_some hx293
            refine WL.vS hS hE (runs_plain rfl) (Gives.idx hE ((x273).toNat) rfl rfl sl82 h294 (by have := hn243; omega) (hS.vecAok 9 rfl (by have := hn243; omega : (x273).toNat < x154.length))) rfl ?_; clear hE a; intro a hE
            obtain ⟨x297, hx298, hq232⟩ := bindS hq232
            refine WL.setD hE hS 9 rfl (runs_plain rfl) rfl rfl (vs := [.bool false]) rfl ty4 rfl rfl rfl h241 hn243 (sx_some hx298).1 hx298 rfl rfl ?_; clear hE hS a w; intro cs299 a w h300 hn301 hE hS
            refine WL.nil ?_
            refine W.seq ?_
            refine W.seq ?_
            refine W.region ?_
            refine WL.vS hS hE (runs_plain rfl) (Gives.loadB hE 10 rfl rfl rfl ty100) rfl ?_; clear hE a; intro a hE
            refine WL.vS hS hE (runs_plain rfl) (Gives.nilOk hE rfl) rfl ?_; clear hE a; intro a hE
            refine WL.vS hS hE (runs_plain rfl) (Gives.fld hE rfl fl105_0) rfl ?_; clear hE a; intro a hE
            refine WL.vS hS hE (runs_plain rfl) (Gives.loadB hE 0 rfl rfl rfl ty22) rfl ?_; clear hE a; intro a hE
            refine WL.vS hS hE (runs_plain rfl) (Gives.p hE rfl) rfl ?_; clear hE a; intro a hE
            obtain ⟨x302, hx303, hq232⟩ := bindS hq232
            obtain ⟨hi304, hlt305, hy306⟩ := gx_some hx303
            obtain ⟨vs307, hl308, hR309, hd310, hget311⟩ := h253.at hy306
            subst hR309
            refine WL.vS hS hE (runs_plain rfl) (Gives.idx hE ((x273).toNat) rfl rfl sl22 hi304 (by have := hn255; omega) (hS.vecAok 1 rfl (by have := hn255; omega : (x273).toNat < q69.length))) rfl ?_; clear hE a; intro a hE
            refine WL.vS hS hE (runs_plain rfl) (Gives.load1 hE rfl (fun w h => St.vecSees h 1 rfl ((x273).toNat * 1) _ hget311) ty3) rfl ?_; clear hE a; intro a hE
            refine WL.vS hS hE (runs_plain rfl) (Gives.p hE rfl) rfl ?_; clear hE a; intro a hE
            refine WL.vS hS hE (runs_plain rfl) (Gives.p hE rfl) rfl ?_; clear hE a; intro a hE
            refine WL.nil ?_
            refine W.cond hE rfl (fun hc312 => ?_) (fun hc312 => ?_)
            · replace hq232 := iteT hc312 hq232
              refine W.seq ?_
              refine W.region ?_
              refine WL.vS hS hE (runs_plain rfl) (Gives.p hE rfl) rfl ?_; clear hE a; intro a hE
              refine WL.vS hS hE (runs_plain rfl) (Gives.p hE rfl) rfl ?_; clear hE a; intro a hE
              refine WL.nil ?_
              refine W.ret ?_
              subst hK264
              rw [← Option.some.inj hq232] at hr
              dsimp only at hr
              refine finG (fn := Try.f68) (rs := [.tmp 4, .tmp 5]) (vs := [_, _]) hE rfl ⟨rfl, rfl, trivial⟩ ?_
              obtain rfl := Option.some.inj hr
              replace hS := hS.tail
              replace hS := hS.tail
              replace hS := hS.tail
              replace hS := hS.tail
              replace hS := hS.tail
              replace hS := hS.tail
              replace hS := hS.tail
              replace hS := hS.tail
              replace hS := hS.tail
              replace hS := hS.tail
              replace hS := hS.tail
              exact ⟨none, s97, rfl, hle98, Pt.nil, hS⟩
            · replace hq232 := iteF hc312 hq232
              refine W.skip ?_
              refine W.seq ?_
              refine W.region ?_
              refine WL.vS hS hE (runs_plain rfl) (Gives.loadB hE 10 rfl rfl rfl ty100) rfl ?_; clear hE a; intro a hE
              refine WL.vS hS hE (runs_plain rfl) (Gives.nilOk hE rfl) rfl ?_; clear hE a; intro a hE
              refine WL.vS hS hE (runs_plain rfl) (Gives.fld hE rfl fl105_2) rfl ?_; clear hE a; intro a hE
              refine WL.vS hS hE (runs_plain rfl) (Gives.loadB hE 0 rfl rfl rfl ty95) rfl ?_; clear hE a; intro a hE
              refine WL.vS hS hE (runs_plain rfl) (Gives.p hE rfl) rfl ?_; clear hE a; intro a hE
              obtain ⟨x313, hx314, hq232⟩ := bindS hq232
              obtain ⟨hi315, hlt316, hy317⟩ := gx_some hx314
              obtain ⟨vs318, hl319, hR320, hd321, hget322⟩ := h102.at hy317
              obtain ⟨a323, c324, rfl, h325⟩ := hR320
              refine WL.vS hS hE (runs_plain rfl) (Gives.idx hE ((x273).toNat) rfl rfl sl95 hi315 (by have := hn104; omega) (hS.vecAok 2 rfl (by have := hn104; omega : (x273).toNat < q77.length))) rfl ?_; clear hE a; intro a hE
              refine WL.vS hS hE (runs_plain rfl) (Gives.load1 hE rfl (fun w h => St.vecSees h 2 rfl ((x273).toNat * 1) _ hget322) ty47) rfl ?_; clear hE a; intro a hE
              refine WL.vS hS hE (runs_plain rfl) (Gives.len hE rfl sl47) rfl ?_; clear hE a; intro a hE
              refine WL.vS hS hE (runs_plain rfl) (Gives.p hE rfl) rfl ?_; clear hE a; intro a hE
              refine WL.nil ?_
              obtain ⟨q327, hq326, hq232⟩ := bindS hq232
              refine W.cut (fun a w => ∃ (q337 : List Bool), ∃ (q343 : List Int), ∃ (q349 : List Int), ∃ (q355 : List Int), ∃ (q362 : Bool), ∃ (cs341 : List Value), ∃ (cs347 : List Value), ∃ (cs353 : List Value), ∃ (a356 : Option Addr), ∃ (c357 : Nat), ∃ (n359 : Nat), ∃ (cs360 : List Value), (q337, q343, q349, q355, q362) = q327 ∧ Ev 1 RB s97 cs341 q337 ∧ q337.length = x154.length ∧ Ev 1 (RI .i64) s97 cs347 q343 ∧ q343.length = x161.length ∧ Ev 1 (RI .i64) s97 cs353 q349 ∧ q349.length = q69.length ∧ Ev 1 (RI .i64) s97 cs360 q355 ∧ q355.length = n359 ∧ Rep a 128 [(6, .pointer (some ⟨b86, 0, none⟩)), (9, .pointer (some ⟨b160, 0, none⟩)), (11, .pointer (some ⟨b168, 0, none⟩)), (12, .pointer (some ⟨b169, 0, none⟩)), (13, .func (.func 88) #[] #[.pointer (some ⟨b86, 0, none⟩), .pointer (some ⟨b167, 0, none⟩), .pointer (some ⟨b169, 0, none⟩), .pointer (some ⟨b160, 0, none⟩), .pointer (some ⟨b168, 0, none⟩)]), (16, .int .i64 q230)] ∧ St w s97 (pt b85 (.cells #[.slice a71 q69.length c72, .slice a63 x52.last.length c64, .slice a79 q77.length c80] 105 (0, 0)) :: vecC 3 1 a71 c72 q69.length cs353 :: vecC 47 1 a79 c80 q77.length cs103 :: vecC 3 1 a356 c357 n359 cs360 :: pt b169 (.cells #[.bool q362] 4 (0, 0)) :: pt b168 (.cells #[.slice a356 n359 c357] 22 (0, 0)) :: pt b167 (.cells #[.slice (some ⟨b163, 0, none⟩) x161.length x161.length] 22 (0, 0)) :: vecC 3 1 (some ⟨b163, 0, none⟩) x161.length x161.length cs347 :: pt b160 (.cells #[.slice (some ⟨b156, 0, none⟩) x154.length x154.length] 82 (0, 0)) :: vecC 4 1 (some ⟨b156, 0, none⟩) x154.length x154.length cs341 :: pt b86 (.cells #[.pointer (some ⟨b85, 0, none⟩)] 100 (0, 0)) :: R)) ?_ ?_
              · refine W.block ?_
                refine W.loop (fun m a w => ∃ (rest330 : List MendArc) (k328 : Nat), ∃ (q337 : List Bool), ∃ (q343 : List Int), ∃ (q349 : List Int), ∃ (q355 : List Int), ∃ (q362 : Bool), ∃ (cs341 : List Value), ∃ (cs347 : List Value), ∃ (cs353 : List Value), ∃ (a356 : Option Addr), ∃ (c357 : Nat), ∃ (n359 : Nat), ∃ (cs360 : List Value), rest330.length = m ∧ x313.drop k328 = rest330 ∧ MendSolverwith.loop4 x52 q99 rest330 q337 q343 q349 q355 q362 = some q327 ∧ Ev 1 RB s97 cs341 q337 ∧ q337.length = x154.length ∧ Ev 1 (RI .i64) s97 cs347 q343 ∧ q343.length = x161.length ∧ Ev 1 (RI .i64) s97 cs353 q349 ∧ q349.length = q69.length ∧ Ev 1 (RI .i64) s97 cs360 q355 ∧ q355.length = n359 ∧ Rep a 128 [(6, .pointer (some ⟨b86, 0, none⟩)), (9, .pointer (some ⟨b160, 0, none⟩)), (11, .pointer (some ⟨b168, 0, none⟩)), (12, .pointer (some ⟨b169, 0, none⟩)), (13, .func (.func 88) #[] #[.pointer (some ⟨b86, 0, none⟩), .pointer (some ⟨b167, 0, none⟩), .pointer (some ⟨b169, 0, none⟩), .pointer (some ⟨b160, 0, none⟩), .pointer (some ⟨b168, 0, none⟩)]), (16, .int .i64 q230), (116, .slice a323 x313.length c324), (117, .int .i64 ((x313).length : Int)), (118, .int .i64 ((k328 : Nat) : Int))] ∧ St w s97 (pt b85 (.cells #[.slice a71 q69.length c72, .slice a63 x52.last.length c64, .slice a79 q77.length c80] 105 (0, 0)) :: vecC 3 1 a71 c72 q69.length cs353 :: vecC 47 1 a79 c80 q77.length cs103 :: vecC 3 1 a356 c357 n359 cs360 :: pt b169 (.cells #[.bool q362] 4 (0, 0)) :: pt b168 (.cells #[.slice a356 n359 c357] 22 (0, 0)) :: pt b167 (.cells #[.slice (some ⟨b163, 0, none⟩) x161.length x161.length] 22 (0, 0)) :: vecC 3 1 (some ⟨b163, 0, none⟩) x161.length x161.length cs347 :: pt b160 (.cells #[.slice (some ⟨b156, 0, none⟩) x154.length x154.length] 82 (0, 0)) :: vecC 4 1 (some ⟨b156, 0, none⟩) x154.length x154.length cs341 :: pt b86 (.cells #[.pointer (some ⟨b85, 0, none⟩)] 100 (0, 0)) :: R)) (m := x313.length) ⟨x313, 0, x297, q244, q250, x283, q263, cs299, cs248, cs254, (cutA a257 c258 ((1 : Int)).toNat 1), (c258 - ((1 : Int)).toNat), (q256.length - ((1 : Int)).toNat), (cs261.drop (((1 : Int)).toNat * 1)), rfl, rfl, hq326, h300, hn301, h247, hn249, h253, hn255, h290, hn291, hE.pick _ ⟨rfl, rfl, rfl, rfl, rfl, rfl, rfl, rfl, rfl, trivial⟩, hS⟩ ?_
                clear hE hS a w hq326; rintro m334 a w ⟨rest330, k328, q337, q343, q349, q355, q362, cs341, cs347, cs353, a356, c357, n359, cs360, rfl, hd331, hq326, h340, hn342, h346, hn348, h352, hn354, h358, rfl, hE, hS⟩
                refine W.gen fun K363 hK363 => ?_
                rcases rest330 with _ | ⟨x329, rest330⟩
                · have hlt332 := drop_nil hd331
                  refine W.seq ?_
                  refine W.region ?_
                  refine WL.vS hS hE (runs_plain rfl) (Gives.p hE rfl) rfl ?_; clear hE a; intro a hE
                  refine WL.nil ?_
                  refine W.seq ?_
                  refine W.condF hE rfl (decide_eq_false (by omega)) ?_
                  subst hK363
                  refine W.exit rfl ?_
                  exact ⟨q337, q343, q349, q355, q362, cs341, cs347, cs353, a356, c357, q355.length, cs360, Option.some.inj hq326, h340, hn342, h346, hn348, h352, hn354, h358, rfl, hE.pick _ ⟨rfl, rfl, rfl, rfl, rfl, rfl, trivial⟩, hS⟩
                · obtain ⟨hlt332, hx333, hd331⟩ := drop_cons hd331
                  rw [MendSolverwith.loop4] at hq326
                  refine W.seq ?_
                  refine W.region ?_
                  refine WL.vS hS hE (runs_plain rfl) (Gives.p hE rfl) rfl ?_; clear hE a; intro a hE
                  refine WL.nil ?_
                  refine W.seq ?_
                  refine W.condT hE rfl (decide_eq_true (by omega)) ?_
                  refine W.skip ?_
                  refine W.seq ?_
                  refine W.block ?_
                  refine W.seq ?_
                  refine W.region ?_
                  obtain ⟨cs364, hl365, hR366, hat367⟩ := h325.at hx333
                  subst hR366
                  refine WL.vS hS hE (runs_plain rfl) (Gives.idx hE k328 rfl rfl sl47 rfl hlt332 (h325.aok hlt332)) rfl ?_; clear hE a; intro a hE
                  refine WL.vS hS hE (runs_plain rfl) (Gives.loadA hE rfl (fun w h => hat367 w _ h) ty94) rfl ?_; clear hE a; intro a hE
                  refine WL.alloc hE hS (runs_plain rfl) zr94 rfl ?_; clear hE hS a w; intro b368 a w hE hS
                  refine WL.storeI hE hS 0 rfl (MendArc.cells x329) (runs_plain rfl) rfl rfl rfl ty94 rfl rfl rfl rfl ?_; clear hE hS a w; intro a w hE hS
                  refine WL.nil ?_
                  refine W.region ?_
                  refine WL.vS hS hE (runs_plain rfl) (Gives.p hE rfl) rfl ?_; clear hE a; intro a hE
                  refine WL.vS hS hE (runs_plain rfl) (Gives.loadBA hE 0 rfl rfl ty94) rfl ?_; clear hE a; intro a hE
                  obtain ⟨q369, hq370, hq326⟩ := bindS hq326
                  replace hS := hS.front 3 rfl
                  replace hS := hS.front 3 rfl
                  replace hS := hS.front 4 rfl
                  replace hS := hS.front 10 rfl
                  replace hS := hS.front 9 rfl
                  replace hS := hS.front 6 rfl
                  replace hS := hS.front 8 rfl
                  replace hS := hS.front 10 rfl
                  replace hS := hS.front 9 rfl
                  replace hS := hS.front 10 rfl
                  replace hS := hS.front 11 rfl
                  have hc_ := MendSolverwith_1_v1_ok (y5 := (MendSolver.mk q349 x52.last q99)) hS h346 hn348 h340 hn342 h358 rfl h352 hn354 h65 h102 hn104 hq370
                  refine WL.fnw hE (hc_) rfl (runs_plain rfl) bd88 rfl rfl rfl ?_
                  clear hE hS hc_; rintro e w ⟨cs371, cs374, cs377, a380, c381, n382, cs383, rfl, h372, hn373, h375, hn376, h378, hn379, h384, rfl, hS⟩; refine ⟨_, rfl, ?_⟩; clear a; intro a hE
                  refine WL.nil ?_
                  refine W.region ?_
                  refine WL.vS hS hE (runs_plain rfl) (Gives.inc hE rfl (by have := h325.small; omega)) rfl ?_; clear hE a; intro a hE
                  refine WL.vS hS hE (runs_plain rfl) (Gives.p hE rfl) rfl ?_; clear hE a; intro a hE
                  refine WL.nil ?_
                  replace hS := hS.dropAt 11
                  replace hS := hS.front 7 rfl
                  replace hS := hS.front 4 rfl
                  replace hS := hS.front 7 rfl
                  replace hS := hS.front 4 rfl
                  replace hS := hS.front 6 rfl
                  replace hS := hS.front 6 rfl
                  replace hS := hS.front 8 rfl
                  replace hS := hS.front 10 rfl
                  replace hS := hS.front 10 rfl
                  replace hS := hS.front 10 rfl
                  subst hK363
                  exact ⟨rest330.length, Nat.lt_succ_self _, rest330, k328 + 1, q369.2.1, q369.1, q369.2.2.1, q369.2.2.2.2, q369.2.2.2.1, cs374, cs371, cs377, a380, c381, q369.2.2.2.2.length, cs383, rfl, hd331, hq326, h375, hn376, h372, hn373, h378, hn379, h384, rfl, hE.pick _ ⟨rfl, rfl, rfl, rfl, rfl, rfl, rfl, rfl, rfl, trivial⟩, hS⟩
              · clear hE hS a w; rintro a w ⟨q337, q343, q349, q355, q362, cs341, cs347, cs353, a356, c357, n359, cs360, rfl, h340, hn342, h346, hn348, h352, hn354, h358, rfl, hE, hS⟩
                dsimp only at hq232
                subst hK264
                exact ⟨n234, Nat.lt_succ_self _, n234, q337, q343, q349, q355, q362, cs341, cs347, cs353, a356, c357, q355.length, cs360, rfl, hq232, h340, hn342, h346, hn348, h352, hn354, h358, rfl, hE.pick _ ⟨rfl, rfl, rfl, rfl, rfl, rfl, trivial⟩, hS⟩
          · replace hq232 := iteF hc272 hq232
            subst hK264
            refine W.exit rfl ?_
            exact ⟨q238, q244, q250, q256, q263, cs242, cs248, cs254, a257, c258, q256.length, cs261, Option.some.inj hq232, h241, hn243, h247, hn249, h253, hn255, h259, rfl, hE.pick _ ⟨rfl, rfl, trivial⟩, hS⟩
      · clear hE hS a w; rintro a w ⟨q238, q244, q250, q256, q263, cs242, cs248, cs254, a257, c258, n260, cs261, rfl, h241, hn243, h247, hn249, h253, hn255, h259, rfl, hE, hS⟩
        dsimp only at hr
        refine W.seq ?_
        refine W.regionQ (C := fun w => St w s97 (pt b85 (.cells #[.slice a71 q69.length c72, .slice a63 x52.last.length c64, .slice a79 q77.length c80] 105 (0, 0)) :: vecC 3 1 a71 c72 q69.length cs254 :: vecC 47 1 a79 c80 q77.length cs103 :: vecC 3 1 a257 c258 q256.length cs261 :: pt b169 (.cells #[.bool q263] 4 (0, 0)) :: pt b168 (.cells #[.slice a257 q256.length c258] 22 (0, 0)) :: pt b167 (.cells #[.slice (some ⟨b163, 0, none⟩) x161.length x161.length] 22 (0, 0)) :: vecC 3 1 (some ⟨b163, 0, none⟩) x161.length x161.length cs248 :: pt b160 (.cells #[.slice (some ⟨b156, 0, none⟩) x154.length x154.length] 82 (0, 0)) :: vecC 4 1 (some ⟨b156, 0, none⟩) x154.length x154.length cs242 :: pt b86 (.cells #[.pointer (some ⟨b85, 0, none⟩)] 100 (0, 0)) :: R)) mixed (by kernel_rfl) hS.drew ?_
        refine QL.v hE (runs_plain rfl) (Gives.loadB hE 10 rfl rfl rfl ty100) rfl ?_; clear hE a; intro a hE
        refine QL.v hE (runs_plain rfl) (Gives.loadB hE 4 rfl rfl rfl ty4) rfl ?_; clear hE a; intro a hE
        refine QL.v hE (runs_plain rfl) (Gives.p hE rfl) rfl ?_; clear hE a; intro a hE
        refine QL.v hE (runs_plain rfl) (Gives.p hE rfl) rfl ?_; clear hE a; intro a hE
        refine QL.nil ?_; clear hS w; intro w hS
        refine W.ret ?_
        have hF := hS.fixD RI.mono 1 rfl h253 hn255; clear hS; obtain ⟨s385, hle386, hS, h387⟩ := hF
        (try rw [← hn255] at hE)
        (try rw [← hn255] at hS)
        replace h65 := Sl.mono RI.mono hle386 h65
        replace h102 := Ev.mono (RL.mono RMendArc.mono) hle386 h102
        replace h259 := Ev.mono RI.mono hle386 h259
        replace h247 := Ev.mono RI.mono hle386 h247
        replace h241 := Ev.mono RB.mono hle386 h241
        have hF := hS.fixD (RL.mono RMendArc.mono) 1 rfl h102 hn104; clear hS; obtain ⟨s388, hle389, hS, h390⟩ := hF
        (try rw [← hn104] at hE)
        (try rw [← hn104] at hS)
        replace h387 := Sl.mono RI.mono hle389 h387
        replace h65 := Sl.mono RI.mono hle389 h65
        replace h259 := Ev.mono RI.mono hle389 h259
        replace h247 := Ev.mono RI.mono hle389 h247
        replace h241 := Ev.mono RB.mono hle389 h241
        have hF := hS.fixB (es := 3) (Rr := RMendSolver) (v := (MendSolver.mk q250 x52.last q99)) RMendSolver.mono 0 rfl rfl ⟨_, _, _, _, _, _, rfl, h387, h65, h390⟩; clear hS; obtain ⟨s391, hle392, hS, h393⟩ := hF
        replace h259 := Ev.mono RI.mono hle392 h259
        replace h247 := Ev.mono RI.mono hle392 h247
        replace h241 := Ev.mono RB.mono hle392 h241
        refine finG (fn := Try.f68) (rs := [.tmp 4, .tmp 5]) (vs := [_, _]) hE rfl ⟨rfl, rfl, trivial⟩ ?_
        obtain rfl := Option.some.inj hr
        replace hS := hS.tail
        replace hS := hS.tail
        replace hS := hS.tail
        replace hS := hS.tail
        replace hS := hS.tail
        replace hS := hS.tail
        replace hS := hS.tail
        replace hS := hS.tail
        exact ⟨(some ⟨b85, 0, none⟩), s391, rfl, (Sg.Le.trans (Sg.Le.trans (Sg.Le.trans hle98 hle386) hle389) hle392), h393, hS⟩
set_option maxHeartbeats 8000000 in
theorem Mendpicked_ok {fu : Nat}  {w : World} {s : Sg} {R : List HP} {x0 : MendGraph} {a0_0 : Option Addr} {c0_0 : Nat} {a0_1 : Option Addr} {c0_1 : Nat} {a0_2 : Option Addr} {c0_2 : Nat} {a0_3 : Option Addr} {c0_3 : Nat} {a0_4 : Option Addr} {c0_4 : Nat} {x1 : List Int} {a1 : Option Addr} {c1 : Nat} (hS : St w s (R)) (h0_0 : Sl 1 (RI .i64) s a0_0 c0_0 x0.Ready) (h0_1 : Sl 1 (RI .i64) s a0_1 c0_1 x0.Last) (h0_2 : Sl 1 (RI .i64) s a0_2 c0_2 x0.Due) (h0_3 : Sl 3 RMendArc s a0_3 c0_3 x0.Arcs) (h0_4 : Sl 1 RMendChoice s a0_4 c0_4 x0.Choices) (h1 : Sl 1 (RI .i64) s a1 c1 x1) {r : (Option MendSolver) × Bool} (hr : Mendpicked fu x0 x1 = some r) :
    Calls Try.prog 81 [.agg [.slice a0_0 x0.Ready.length c0_0, .slice a0_1 x0.Last.length c0_1, .slice a0_2 x0.Due.length c0_2, .slice a0_3 x0.Arcs.length c0_3, .slice a0_4 x0.Choices.length c0_4].toArray, .slice a1 x1.length c1].toArray w (fun e w => ∃ (a0 : Option Addr) (t : Sg), e = .returned (.tuple #[.pointer a0, .bool r.2]) ∧ s.Le t ∧ Pt 3 RMendSolver t a0 r.1 ∧ St w t (R)) := by
  refine enter Try.func81 rfl rfl rfl fun a hE => ?_
  rw [Mendpicked] at hr
  refine W.seq ?_
  refine W.region ?_
  refine WL.box hE hS (runs_plain rfl) rfl rfl rfl ?_; clear hE hS a w; intro b51 a w hE hS
  refine WL.vS hS hE (runs_plain rfl) (Gives.p hE rfl) rfl ?_; clear hE a; intro a hE
  refine WL.vS hS hE (runs_plain rfl) (Gives.p hE rfl) rfl ?_; clear hE a; intro a hE
  refine WL.nil ?_
  refine W.seq ?_
  refine W.region ?_
  refine WL.vS hS hE (runs_plain rfl) (Gives.loadBA hE 0 rfl rfl ty50) rfl ?_; clear hE a; intro a hE
  obtain ⟨q52, hq53, hr⟩ := bindS hr
  have hc_ := Mendstart_ok hS h0_0 h0_1 h0_2 h0_3 h0_4 hq53
  refine WL.fnq hE (hc_) (runs_plain rfl) bd78 rfl rfl rfl ?_
  clear hE hS hc_; rintro e w ⟨a54, s56, rfl, hle57, h55, hS⟩; refine ⟨_, rfl, ?_⟩; clear a; intro a hE
  replace h0_0 := Sl.mono RI.mono hle57 h0_0
  replace h0_1 := Sl.mono RI.mono hle57 h0_1
  replace h0_2 := Sl.mono RI.mono hle57 h0_2
  replace h0_3 := Sl.mono RMendArc.mono hle57 h0_3
  replace h0_4 := Sl.mono RMendChoice.mono hle57 h0_4
  replace h1 := Sl.mono RI.mono hle57 h1
  refine WL.vS hS hE (runs_plain rfl) (Gives.p hE rfl) rfl ?_; clear hE a; intro a hE
  refine WL.vS hS hE (runs_plain rfl) (Gives.p hE rfl) rfl ?_; clear hE a; intro a hE
  refine WL.vS hS hE (runs_plain rfl) (Gives.p hE rfl) rfl ?_; clear hE a; intro a hE
  refine WL.vS hS hE (runs_plain rfl) (Gives.p hE rfl) rfl ?_; clear hE a; intro a hE
  refine WL.vS hS hE (runs_plain rfl) (Gives.p hE rfl) rfl ?_; clear hE a; intro a hE
  refine WL.nil ?_
  refine W.seq ?_
  refine W.seq ?_
  refine W.region ?_
  refine WL.vS hS hE (runs_plain rfl) (Gives.p hE rfl) rfl ?_; clear hE a; intro a hE
  refine WL.vS hS hE (runs_plain rfl) (Gives.len hE rfl sl22) rfl ?_; clear hE a; intro a hE
  refine WL.vS hS hE (runs_plain rfl) (Gives.p hE rfl) rfl ?_; clear hE a; intro a hE
  refine WL.nil ?_
  obtain ⟨q59, hq58, hr⟩ := bindS hr
  refine W.cut (fun a w => ∃ (q69 : Option MendSolver), ∃ (q72 : Bool), ∃ (a70 : Option Addr), ∃ (s67 : Sg), s56.Le s67 ∧ (q69, q72) = q59 ∧ Pt 3 RMendSolver s67 a70 q69 ∧ Rep a 45 [(6, .pointer a70), (7, .bool q72)] ∧ St w s67 (pt b51 (.cells #[.slice a0_0 x0.Ready.length c0_0, .slice a0_1 x0.Last.length c0_1, .slice a0_2 x0.Due.length c0_2, .slice a0_3 x0.Arcs.length c0_3, .slice a0_4 x0.Choices.length c0_4] 50 (0, 0)) :: R)) ?_ ?_
  · refine W.block ?_
    refine W.loop (fun m a w => ∃ (rest62 : List Int) (k60 : Nat), ∃ (q69 : Option MendSolver), ∃ (q72 : Bool), ∃ (a70 : Option Addr), ∃ (s67 : Sg), rest62.length = m ∧ x1.drop k60 = rest62 ∧ s56.Le s67 ∧ Mendpicked.loop1 x0 fu rest62 k60 q69 q72 = some q59 ∧ Pt 3 RMendSolver s67 a70 q69 ∧ Rep a 45 [(2, .pointer (some ⟨b51, 0, none⟩)), (6, .pointer a70), (7, .bool q72), (15, .slice a1 x1.length c1), (16, .int .i64 ((x1).length : Int)), (17, .int .i64 ((k60 : Nat) : Int))] ∧ St w s67 (pt b51 (.cells #[.slice a0_0 x0.Ready.length c0_0, .slice a0_1 x0.Last.length c0_1, .slice a0_2 x0.Due.length c0_2, .slice a0_3 x0.Arcs.length c0_3, .slice a0_4 x0.Choices.length c0_4] 50 (0, 0)) :: R)) (m := x1.length) ⟨x1, 0, q52.1, q52.2, a54, s56, rfl, rfl, (Sg.Le.refl _), hq58, h55, hE.pick _ ⟨rfl, rfl, rfl, rfl, rfl, rfl, trivial⟩, hS⟩ ?_
    clear hE hS a w hq58; rintro m66 a w ⟨rest62, k60, q69, q72, a70, s67, rfl, hd63, hle68, hq58, h71, hE, hS⟩
    refine W.gen fun K73 hK73 => ?_
    replace h0_0 := Sl.mono RI.mono hle68 h0_0
    replace h0_1 := Sl.mono RI.mono hle68 h0_1
    replace h0_2 := Sl.mono RI.mono hle68 h0_2
    replace h0_3 := Sl.mono RMendArc.mono hle68 h0_3
    replace h0_4 := Sl.mono RMendChoice.mono hle68 h0_4
    replace h1 := Sl.mono RI.mono hle68 h1
    replace h55 := Pt.mono RMendSolver.mono hle68 h55
    rcases rest62 with _ | ⟨x61, rest62⟩
    · have hlt64 := drop_nil hd63
      refine W.seq ?_
      refine W.region ?_
      refine WL.vS hS hE (runs_plain rfl) (Gives.p hE rfl) rfl ?_; clear hE a; intro a hE
      refine WL.nil ?_
      refine W.seq ?_
      refine W.condF hE rfl (decide_eq_false (by omega)) ?_
      subst hK73
      refine W.exit rfl ?_
      exact ⟨q69, q72, a70, s67, hle68, Option.some.inj hq58, h71, hE.pick _ ⟨rfl, rfl, trivial⟩, hS⟩
    · obtain ⟨hlt64, hx65, hd63⟩ := drop_cons hd63
      rw [Mendpicked.loop1] at hq58
      refine W.seq ?_
      refine W.region ?_
      refine WL.vS hS hE (runs_plain rfl) (Gives.p hE rfl) rfl ?_; clear hE a; intro a hE
      refine WL.nil ?_
      refine W.seq ?_
      refine W.condT hE rfl (decide_eq_true (by omega)) ?_
      refine W.skip ?_
      refine W.seq ?_
      refine W.block ?_
      refine W.seq ?_
      refine W.region ?_
      refine WL.vS hS hE (runs_plain rfl) (Gives.p hE rfl) rfl ?_; clear hE a; intro a hE
      obtain ⟨cs74, hl75, hR76, hat77⟩ := h1.at hx65
      subst hR76
      refine WL.vS hS hE (runs_plain rfl) (Gives.idx hE k60 rfl rfl sl22 rfl hlt64 (h1.aok hlt64)) rfl ?_; clear hE a; intro a hE
      refine WL.vS hS hE (runs_plain rfl) (Gives.load1 hE rfl (fun w h => hat77 w _ h) ty3) rfl ?_; clear hE a; intro a hE
      refine WL.vS hS hE (runs_plain rfl) (Gives.p hE rfl) rfl ?_; clear hE a; intro a hE
      refine WL.vS hS hE (runs_plain rfl) (Gives.p hE rfl) rfl ?_; clear hE a; intro a hE
      refine WL.nil ?_
      refine W.seq ?_
      obtain ⟨q79, hq78, hq58⟩ := bndS hq58
      refine W.cut (fun a w => ∃ (q82 : Bool), q82 = q79 ∧ Rep a 45 [(2, .pointer (some ⟨b51, 0, none⟩)), (6, .pointer a70), (7, .bool q72), (8, .int .i64 ((k60 : Nat) : Int)), (9, .int .i64 x61), (15, .slice a1 x1.length c1), (16, .int .i64 ((x1).length : Int)), (17, .int .i64 ((k60 : Nat) : Int)), (26, .bool q82)] ∧ St w s67 (pt b51 (.cells #[.slice a0_0 x0.Ready.length c0_0, .slice a0_1 x0.Last.length c0_1, .slice a0_2 x0.Due.length c0_2, .slice a0_3 x0.Arcs.length c0_3, .slice a0_4 x0.Choices.length c0_4] 50 (0, 0)) :: R)) ?_ ?_
      · refine W.gen fun K83 hK83 => ?_
        refine W.region ?_
        refine WL.vS hS hE (runs_plain rfl) (Gives.p hE rfl) rfl ?_; clear hE a; intro a hE
        refine WL.vS hS hE (runs_plain rfl) (Gives.p hE rfl) rfl ?_; clear hE a; intro a hE
        rcases Bool.eq_false_or_eq_true q72 with hg84 | hg84
        · replace hq78 := iteT hg84 hq78
          refine WL.vS hS hE (runs_if hE rfl rfl rfl hg84) (Gives.p hE rfl) rfl ?_; clear hE a; intro a hE
          refine WL.vS hS hE (runs_if hE rfl rfl rfl hg84) (Gives.p hE rfl) rfl ?_; clear hE a; intro a hE
          refine WL.vS hS hE (runs_plain rfl) (Gives.pickT hE rfl hg84 rfl) rfl ?_; clear hE a; intro a hE
          refine WL.nil ?_
          subst hK83
          exact ⟨decide (x61 > 0), hq78, hE.pick _ ⟨rfl, rfl, rfl, rfl, rfl, rfl, rfl, rfl, rfl, trivial⟩, hS⟩
        · replace hq78 := iteF hg84 hq78
          refine WL.no hE (runs_not hE rfl rfl rfl (by rw [hg84]; decide)) rfl ?_; clear hE a; intro a hE
          refine WL.no hE (runs_not hE rfl rfl rfl (by rw [hg84]; decide)) rfl ?_; clear hE a; intro a hE
          refine WL.vS hS hE (runs_plain rfl) (Gives.pickF hE rfl hg84 rfl) rfl ?_; clear hE a; intro a hE
          refine WL.nil ?_
          subst hK83
          exact ⟨false, hq78, hE.pick _ ⟨rfl, rfl, rfl, rfl, rfl, rfl, rfl, rfl, rfl, trivial⟩, hS⟩
      · clear hE hS a w; rintro a w ⟨q82, rfl, hE, hS⟩
        obtain ⟨q86, hq85, hq58⟩ := bindS hq58
        refine W.cut (fun a w => ∃ (q89 : Option MendSolver), ∃ (q92 : Bool), ∃ (a90 : Option Addr), ∃ (s87 : Sg), s67.Le s87 ∧ (q89, q92) = q86 ∧ Pt 3 RMendSolver s87 a90 q89 ∧ Rep a 45 [(2, .pointer (some ⟨b51, 0, none⟩)), (6, .pointer a90), (7, .bool q92), (15, .slice a1 x1.length c1), (16, .int .i64 ((x1).length : Int)), (17, .int .i64 ((k60 : Nat) : Int))] ∧ St w s87 (pt b51 (.cells #[.slice a0_0 x0.Ready.length c0_0, .slice a0_1 x0.Last.length c0_1, .slice a0_2 x0.Due.length c0_2, .slice a0_3 x0.Arcs.length c0_3, .slice a0_4 x0.Choices.length c0_4] 50 (0, 0)) :: R)) ?_ ?_
        · refine W.gen fun K93 hK93 => ?_
          refine W.cond hE rfl (fun hc94 => ?_) (fun hc94 => ?_)
          · replace hq85 := iteT hc94 hq85
            refine W.region ?_
            refine WL.vS hS hE (runs_plain rfl) (Gives.p hE rfl) rfl ?_; clear hE a; intro a hE
            refine WL.vS hS hE (runs_plain rfl) (Gives.fld hE rfl fl50_4) rfl ?_; clear hE a; intro a hE
            refine WL.vS hS hE (runs_plain rfl) (Gives.loadB hE 0 rfl rfl rfl ty48) rfl ?_; clear hE a; intro a hE
            refine WL.vS hS hE (runs_plain rfl) (Gives.p hE rfl) rfl ?_; clear hE a; intro a hE
            obtain ⟨x95, hx96, hq85⟩ := bindS hq85
            obtain ⟨hi97, hlt98, hy99⟩ := gx_some hx96
            obtain ⟨cs100, hl101, hR102, hat103⟩ := h0_4.at hy99
            obtain ⟨a104, c105, rfl, h106⟩ := hR102
            refine WL.vS hS hE (runs_plain rfl) (Gives.idx hE (((k60 : Nat) : Int)).toNat rfl rfl sl48 hi97 hlt98 (h0_4.aok hlt98)) rfl ?_; clear hE a; intro a hE
            refine WL.vS hS hE (runs_plain rfl) (Gives.fld hE rfl fl97_0) rfl ?_; clear hE a; intro a hE
            refine WL.vS hS hE (runs_plain rfl) (Gives.load1 hE rfl (fun w h => hat103 w _ h) ty95) rfl ?_; clear hE a; intro a hE
            refine WL.vS hS hE (runs_plain rfl) (Gives.p hE rfl) rfl ?_; clear hE a; intro a hE
            refine WL.vS hS hE (runs_plain rfl) (Gives.p hE rfl) rfl ?_; clear hE a; intro a hE
            obtain ⟨x107, hx108, hq85⟩ := bindS hq85
            obtain ⟨hi109, hlt110, hy111⟩ := gx_some hx108
            obtain ⟨cs112, hl113, hR114, hat115⟩ := h106.at hy111
            obtain ⟨a116, c117, rfl, h118⟩ := hR114
            refine WL.vS hS hE (runs_plain rfl) (Gives.idx hE (w64 (x61 - 1)).toNat rfl rfl sl95 hi109 hlt110 (h106.aok hlt110)) rfl ?_; clear hE a; intro a hE
            refine WL.vS hS hE (runs_plain rfl) (Gives.load1 hE rfl (fun w h => hat115 w _ h) ty47) rfl ?_; clear hE a; intro a hE
            obtain ⟨q119, hq120, hq85⟩ := bindS hq85
            have hc_ := MendSolverwith_ok hS h71 h118 hq120
            refine WL.fnq hE (hc_) (runs_plain rfl) bd68 rfl rfl rfl ?_
            clear hE hS hc_; rintro e w ⟨a121, s123, rfl, hle124, h122, hS⟩; refine ⟨_, rfl, ?_⟩; clear a; intro a hE
            replace h71 := Pt.mono RMendSolver.mono hle124 h71
            replace h1 := Sl.mono RI.mono hle124 h1
            replace h0_4 := Sl.mono RMendChoice.mono hle124 h0_4
            replace h106 := Sl.mono (RL.mono RMendArc.mono) hle124 h106
            replace h118 := Sl.mono RMendArc.mono hle124 h118
            replace h0_0 := Sl.mono RI.mono hle124 h0_0
            replace h0_1 := Sl.mono RI.mono hle124 h0_1
            replace h0_2 := Sl.mono RI.mono hle124 h0_2
            replace h0_3 := Sl.mono RMendArc.mono hle124 h0_3
            refine WL.vS hS hE (runs_plain rfl) (Gives.p hE rfl) rfl ?_; clear hE a; intro a hE
            refine WL.vS hS hE (runs_plain rfl) (Gives.p hE rfl) rfl ?_; clear hE a; intro a hE
            refine WL.vS hS hE (runs_plain rfl) (Gives.p hE rfl) rfl ?_; clear hE a; intro a hE
            refine WL.vS hS hE (runs_plain rfl) (Gives.p hE rfl) rfl ?_; clear hE a; intro a hE
            refine WL.vS hS hE (runs_plain rfl) (Gives.p hE rfl) rfl ?_; clear hE a; intro a hE
            refine WL.nil ?_
            subst hK93
            exact ⟨q119.1, q119.2, a121, s123, hle124, Option.some.inj hq85, h122, hE.pick _ ⟨rfl, rfl, rfl, rfl, rfl, rfl, trivial⟩, hS⟩
          · replace hq85 := iteF hc94 hq85
            refine W.skip ?_
            subst hK93
            exact ⟨q69, q72, a70, s67, (Sg.Le.refl _), Option.some.inj hq85, h71, hE.pick _ ⟨rfl, rfl, rfl, rfl, rfl, rfl, trivial⟩, hS⟩
        · clear hE hS a w; rintro a w ⟨q89, q92, a90, s87, hle88, rfl, h91, hE, hS⟩
          dsimp only at hq58
          replace h71 := Pt.mono RMendSolver.mono hle88 h71
          replace h1 := Sl.mono RI.mono hle88 h1
          replace h0_0 := Sl.mono RI.mono hle88 h0_0
          replace h0_1 := Sl.mono RI.mono hle88 h0_1
          replace h0_2 := Sl.mono RI.mono hle88 h0_2
          replace h0_3 := Sl.mono RMendArc.mono hle88 h0_3
          replace h0_4 := Sl.mono RMendChoice.mono hle88 h0_4
          refine W.region ?_
          refine WL.vS hS hE (runs_plain rfl) (Gives.inc hE rfl (by have := h1.small; omega)) rfl ?_; clear hE a; intro a hE
          refine WL.vS hS hE (runs_plain rfl) (Gives.p hE rfl) rfl ?_; clear hE a; intro a hE
          refine WL.nil ?_
          subst hK73
          exact ⟨rest62.length, Nat.lt_succ_self _, rest62, k60 + 1, q89, q92, a90, s87, rfl, hd63, (Sg.Le.trans hle68 hle88), hq58, h91, hE.pick _ ⟨rfl, rfl, rfl, rfl, rfl, rfl, trivial⟩, hS⟩
  · clear hE hS a w; rintro a w ⟨q69, q72, a70, s67, hle68, rfl, h71, hE, hS⟩
    dsimp only at hr
    replace h0_0 := Sl.mono RI.mono hle68 h0_0
    replace h0_1 := Sl.mono RI.mono hle68 h0_1
    replace h0_2 := Sl.mono RI.mono hle68 h0_2
    replace h0_3 := Sl.mono RMendArc.mono hle68 h0_3
    replace h0_4 := Sl.mono RMendChoice.mono hle68 h0_4
    replace h1 := Sl.mono RI.mono hle68 h1
    replace h55 := Pt.mono RMendSolver.mono hle68 h55
    refine W.seq ?_
    refine W.region ?_
    refine WL.vS hS hE (runs_plain rfl) (Gives.p hE rfl) rfl ?_; clear hE a; intro a hE
    refine WL.vS hS hE (runs_plain rfl) (Gives.p hE rfl) rfl ?_; clear hE a; intro a hE
    refine WL.vS hS hE (runs_plain rfl) (Gives.p hE rfl) rfl ?_; clear hE a; intro a hE
    refine WL.vS hS hE (runs_plain rfl) (Gives.p hE rfl) rfl ?_; clear hE a; intro a hE
    refine WL.nil ?_
    refine W.ret ?_
    refine finG (fn := Try.f81) (rs := [.tmp 4, .tmp 5]) (vs := [_, _]) hE rfl ⟨rfl, rfl, trivial⟩ ?_
    obtain rfl := Option.some.inj hr
    replace hS := hS.tail
    exact ⟨a70, s67, rfl, (Sg.Le.trans hle57 hle68), h71, hS⟩
set_option maxHeartbeats 8000000 in
theorem Mendforced_ok {fu : Nat}  {w : World} {s : Sg} {R : List HP} {x0 : MendGraph} {a0_0 : Option Addr} {c0_0 : Nat} {a0_1 : Option Addr} {c0_1 : Nat} {a0_2 : Option Addr} {c0_2 : Nat} {a0_3 : Option Addr} {c0_3 : Nat} {a0_4 : Option Addr} {c0_4 : Nat} {x1 : List Int} {a1 : Option Addr} {c1 : Nat} (hS : St w s (R)) (h0_0 : Sl 1 (RI .i64) s a0_0 c0_0 x0.Ready) (h0_1 : Sl 1 (RI .i64) s a0_1 c0_1 x0.Last) (h0_2 : Sl 1 (RI .i64) s a0_2 c0_2 x0.Due) (h0_3 : Sl 3 RMendArc s a0_3 c0_3 x0.Arcs) (h0_4 : Sl 1 RMendChoice s a0_4 c0_4 x0.Choices) (h1 : Sl 1 (RI .i64) s a1 c1 x1) {r : (List Int) × (Option MendSolver) × Bool} (hr : Mendforced fu x0 x1 = some r) :
    Calls Try.prog 64 [.agg [.slice a0_0 x0.Ready.length c0_0, .slice a0_1 x0.Last.length c0_1, .slice a0_2 x0.Due.length c0_2, .slice a0_3 x0.Arcs.length c0_3, .slice a0_4 x0.Choices.length c0_4].toArray, .slice a1 x1.length c1].toArray w (fun e w => ∃ (a0 : Option Addr) (c0 n0 : Nat) (cs0 : List Value) (a1 : Option Addr) (t : Sg), e = .returned (.tuple #[.slice a0 n0 c0, .pointer a1, .bool r.2.2]) ∧ s.Le t ∧ Ev 1 (RI .i64) t cs0 r.1 ∧ r.1.length = n0 ∧ Pt 3 RMendSolver t a1 r.2.1 ∧ St w t (vecC 3 1 a0 c0 n0 cs0 :: R)) := by
  refine enter Try.func64 rfl rfl rfl fun a hE => ?_
  rw [Mendforced] at hr
  refine W.seq ?_
  refine W.region ?_
  refine WL.box hE hS (runs_plain rfl) rfl rfl rfl ?_; clear hE hS a w; intro b51 a w hE hS
  refine WL.vS hS hE (runs_plain rfl) (Gives.p hE rfl) rfl ?_; clear hE a; intro a hE
  refine WL.vS hS hE (runs_plain rfl) (Gives.p hE rfl) rfl ?_; clear hE a; intro a hE
  refine WL.vS hS hE (runs_plain rfl) (Gives.p hE rfl) rfl ?_; clear hE a; intro a hE
  refine WL.nil ?_
  refine W.seq ?_
  refine W.region ?_
  refine WL.vS hS hE (runs_plain rfl) (Gives.loadBA hE 0 rfl rfl ty50) rfl ?_; clear hE a; intro a hE
  refine WL.vS hS hE (runs_plain rfl) (Gives.p hE rfl) rfl ?_; clear hE a; intro a hE
  obtain ⟨q52, hq53, hr⟩ := bindS hr
  have hc_ := Mendpicked_ok hS h0_0 h0_1 h0_2 h0_3 h0_4 h1 hq53
  refine WL.fnq hE (hc_) (runs_plain rfl) bd81 rfl rfl rfl ?_
  clear hE hS hc_; rintro e w ⟨a54, s56, rfl, hle57, h55, hS⟩; refine ⟨_, rfl, ?_⟩; clear a; intro a hE
  replace h0_0 := Sl.mono RI.mono hle57 h0_0
  replace h0_1 := Sl.mono RI.mono hle57 h0_1
  replace h0_2 := Sl.mono RI.mono hle57 h0_2
  replace h0_3 := Sl.mono RMendArc.mono hle57 h0_3
  replace h0_4 := Sl.mono RMendChoice.mono hle57 h0_4
  replace h1 := Sl.mono RI.mono hle57 h1
  refine WL.vS hS hE (runs_plain rfl) (Gives.p hE rfl) rfl ?_; clear hE a; intro a hE
  refine WL.vS hS hE (runs_plain rfl) (Gives.p hE rfl) rfl ?_; clear hE a; intro a hE
  refine WL.vS hS hE (runs_plain rfl) (Gives.p hE rfl) rfl ?_; clear hE a; intro a hE
  refine WL.vS hS hE (runs_plain rfl) (Gives.p hE rfl) rfl ?_; clear hE a; intro a hE
  refine WL.vS hS hE (runs_plain rfl) (Gives.p hE rfl) rfl ?_; clear hE a; intro a hE
  refine WL.nil ?_
  refine W.seq ?_
  refine W.seq ?_
  refine W.region ?_
  refine WL.vS hS hE (runs_plain rfl) (Gives.p hE rfl) rfl ?_; clear hE a; intro a hE
  refine WL.vS hS hE (runs_plain rfl) (Gives.p hE rfl) rfl ?_; clear hE a; intro a hE
  refine WL.nil ?_
  refine W.cond hE rfl (fun hc58 => ?_) (fun hc58 => ?_)
  · replace hr := iteT hc58 hr
    refine W.seq ?_
    refine W.region ?_
    refine WL.vS hS hE (runs_plain rfl) (Gives.p hE rfl) rfl ?_; clear hE a; intro a hE
    refine WL.vS hS hE (runs_plain rfl) (Gives.p hE rfl) rfl ?_; clear hE a; intro a hE
    refine WL.vS hS hE (runs_plain rfl) (Gives.p hE rfl) rfl ?_; clear hE a; intro a hE
    refine WL.nil ?_
    refine W.ret ?_
    replace hS := hS.vecNil 3 1
    refine finG (fn := Try.f64) (rs := [.tmp 4, .tmp 5, .tmp 6]) (vs := [_, _, _]) hE rfl ⟨rfl, rfl, rfl, trivial⟩ ?_
    obtain rfl := Option.some.inj hr
    replace hS := hS.dropAt 1
    exact ⟨none, 0, 0, [], none, s56, rfl, hle57, (Ev.nil), (rfl), Pt.nil, hS⟩
  · replace hr := iteF hc58 hr
    refine W.skip ?_
    refine W.seq ?_
    refine W.region ?_
    refine WL.vS hS hE (runs_plain rfl) (Gives.p hE rfl) rfl ?_; clear hE a; intro a hE
    obtain ⟨q60, hq61, hr⟩ := bindS hr
    have hc_ := SlicesCloneLint_ok hS h1 hq61
    refine WL.fnq hE (hc_) (runs_plain rfl) bd67 rfl rfl rfl ?_
    clear hE hS hc_; rintro e w ⟨a62, c63, n64, cs65, rfl, h66, rfl, hS⟩; refine ⟨_, rfl, ?_⟩; clear a; intro a hE
    refine WL.vS hS hE (runs_plain rfl) (Gives.p hE rfl) rfl ?_; clear hE a; intro a hE
    refine WL.nil ?_
    refine W.seq ?_
    refine W.seq ?_
    refine W.region ?_
    refine WL.vS hS hE (runs_plain rfl) (Gives.p hE rfl) rfl ?_; clear hE a; intro a hE
    refine WL.nil ?_
    obtain ⟨q69, hq68, hr⟩ := bindS hr
    refine W.cut (fun a w => ∃ (q74 : Option MendSolver), ∃ (q77 : Bool), ∃ (q78 : List Int), ∃ (a75 : Option Addr), ∃ (cs82 : List Value), ∃ (s72 : Sg), s56.Le s72 ∧ (.next (q74, q77, q78)) = q69 ∧ Pt 3 RMendSolver s72 a75 q74 ∧ Ev 1 (RI .i64) s72 cs82 q78 ∧ q78.length = q60.length ∧ Rep a 77 [(1, .slice a62 q60.length c63), (7, .pointer a75)] ∧ St w s72 (vecC 3 1 a62 c63 q60.length cs82 :: pt b51 (.cells #[.slice a0_0 x0.Ready.length c0_0, .slice a0_1 x0.Last.length c0_1, .slice a0_2 x0.Due.length c0_2, .slice a0_3 x0.Arcs.length c0_3, .slice a0_4 x0.Choices.length c0_4] 50 (0, 0)) :: R)) ?_ ?_
    · refine W.block ?_
      refine W.loop (fun m a w => ∃ (n70 : Nat), ∃ (q74 : Option MendSolver), ∃ (q77 : Bool), ∃ (q78 : List Int), ∃ (a75 : Option Addr), ∃ (cs82 : List Value), ∃ (s72 : Sg), n70 = m ∧ s56.Le s72 ∧ Mendforced.loop1 x0 fu n70 q74 q77 q78 = some q69 ∧ Pt 3 RMendSolver s72 a75 q74 ∧ Ev 1 (RI .i64) s72 cs82 q78 ∧ q78.length = q60.length ∧ Rep a 77 [(1, .slice a62 q60.length c63), (2, .pointer (some ⟨b51, 0, none⟩)), (7, .pointer a75), (9, .bool q77)] ∧ St w s72 (vecC 3 1 a62 c63 q60.length cs82 :: pt b51 (.cells #[.slice a0_0 x0.Ready.length c0_0, .slice a0_1 x0.Last.length c0_1, .slice a0_2 x0.Due.length c0_2, .slice a0_3 x0.Arcs.length c0_3, .slice a0_4 x0.Choices.length c0_4] 50 (0, 0)) :: R)) (m := fu) ⟨fu, q52.1, true, q60, a54, cs65, s56, rfl, (Sg.Le.refl _), hq68, h55, h66, rfl, hE.pick _ ⟨rfl, rfl, rfl, rfl, trivial⟩, hS⟩ ?_
      clear hE hS a w hq68; rintro m71 a w ⟨n70, q74, q77, q78, a75, cs82, s72, rfl, hle73, hq68, h76, h81, hn83, hE, hS⟩
      refine W.gen fun K84 hK84 => ?_
      replace h0_0 := Sl.mono RI.mono hle73 h0_0
      replace h0_1 := Sl.mono RI.mono hle73 h0_1
      replace h0_2 := Sl.mono RI.mono hle73 h0_2
      replace h0_3 := Sl.mono RMendArc.mono hle73 h0_3
      replace h0_4 := Sl.mono RMendChoice.mono hle73 h0_4
      replace h1 := Sl.mono RI.mono hle73 h1
      replace h55 := Pt.mono RMendSolver.mono hle73 h55
      replace h66 := Ev.mono RI.mono hle73 h66
      rcases n70 with _ | n70
      · rw [Mendforced.loop1] at hq68; exact absurd hq68 (by simp)
      rw [Mendforced.loop1] at hq68
      refine W.seq ?_
      refine W.seq ?_
      refine W.region ?_
      refine WL.vS hS hE (runs_plain rfl) (Gives.p hE rfl) rfl ?_; clear hE a; intro a hE
      refine WL.nil ?_
      refine W.cond hE rfl (fun hc85 => ?_) (fun hc85 => ?_)
      · replace hq68 := iteT hc85 hq68
        refine W.skip ?_
        refine W.block ?_
        refine W.seq ?_
        refine W.region ?_
        refine WL.vS hS hE (runs_plain rfl) (Gives.p hE rfl) rfl ?_; clear hE a; intro a hE
        refine WL.nil ?_
        refine W.seq ?_
        refine W.region ?_
        refine WL.vS hS hE (runs_plain rfl) (Gives.fld hE rfl fl50_4) rfl ?_; clear hE a; intro a hE
        refine WL.vS hS hE (runs_plain rfl) (Gives.loadB hE 1 rfl rfl rfl ty48) rfl ?_; clear hE a; intro a hE
        refine WL.vS hS hE (runs_plain rfl) (Gives.len hE rfl sl48) rfl ?_; clear hE a; intro a hE
        refine WL.vS hS hE (runs_plain rfl) (Gives.p hE rfl) rfl ?_; clear hE a; intro a hE
        refine WL.nil ?_
        obtain ⟨q87, hq86, hq68⟩ := bindS hq68
        refine W.cut (fun a w => ∃ (q97 : Option MendSolver), ∃ (q100 : Bool), ∃ (q101 : List Int), ∃ (a98 : Option Addr), ∃ (cs105 : List Value), ∃ (s95 : Sg), s72.Le s95 ∧ (.next (q97, q100, q101)) = q87 ∧ Pt 3 RMendSolver s95 a98 q97 ∧ Ev 1 (RI .i64) s95 cs105 q101 ∧ q101.length = q60.length ∧ Rep a 77 [(1, .slice a62 q60.length c63), (2, .pointer (some ⟨b51, 0, none⟩)), (7, .pointer a98), (9, .bool q100)] ∧ St w s95 (vecC 3 1 a62 c63 q60.length cs105 :: pt b51 (.cells #[.slice a0_0 x0.Ready.length c0_0, .slice a0_1 x0.Last.length c0_1, .slice a0_2 x0.Due.length c0_2, .slice a0_3 x0.Arcs.length c0_3, .slice a0_4 x0.Choices.length c0_4] 50 (0, 0)) :: R)) ?_ ?_
        · refine W.block ?_
          refine W.loop (fun m a w => ∃ (rest90 : List MendChoice) (k88 : Nat), ∃ (q97 : Option MendSolver), ∃ (q100 : Bool), ∃ (q101 : List Int), ∃ (a98 : Option Addr), ∃ (cs105 : List Value), ∃ (s95 : Sg), rest90.length = m ∧ x0.Choices.drop k88 = rest90 ∧ s72.Le s95 ∧ Mendforced.loop2 fu rest90 k88 q97 q100 q101 = some q87 ∧ Pt 3 RMendSolver s95 a98 q97 ∧ Ev 1 (RI .i64) s95 cs105 q101 ∧ q101.length = q60.length ∧ Rep a 77 [(1, .slice a62 q60.length c63), (2, .pointer (some ⟨b51, 0, none⟩)), (7, .pointer a98), (9, .bool q100), (31, .slice a0_4 x0.Choices.length c0_4), (32, .int .i64 ((x0.Choices).length : Int)), (33, .int .i64 ((k88 : Nat) : Int))] ∧ St w s95 (vecC 3 1 a62 c63 q60.length cs105 :: pt b51 (.cells #[.slice a0_0 x0.Ready.length c0_0, .slice a0_1 x0.Last.length c0_1, .slice a0_2 x0.Due.length c0_2, .slice a0_3 x0.Arcs.length c0_3, .slice a0_4 x0.Choices.length c0_4] 50 (0, 0)) :: R)) (m := x0.Choices.length) ⟨x0.Choices, 0, q74, false, q78, a75, cs82, s72, rfl, rfl, (Sg.Le.refl _), hq86, h76, h81, hn83, hE.pick _ ⟨rfl, rfl, rfl, rfl, rfl, rfl, rfl, trivial⟩, hS⟩ ?_
          clear hE hS a w hq86; rintro m94 a w ⟨rest90, k88, q97, q100, q101, a98, cs105, s95, rfl, hd91, hle96, hq86, h99, h104, hn106, hE, hS⟩
          refine W.gen fun K107 hK107 => ?_
          replace h76 := Pt.mono RMendSolver.mono hle96 h76
          replace h0_4 := Sl.mono RMendChoice.mono hle96 h0_4
          replace h81 := Ev.mono RI.mono hle96 h81
          replace h0_0 := Sl.mono RI.mono hle96 h0_0
          replace h0_1 := Sl.mono RI.mono hle96 h0_1
          replace h0_2 := Sl.mono RI.mono hle96 h0_2
          replace h0_3 := Sl.mono RMendArc.mono hle96 h0_3
          rcases rest90 with _ | ⟨x89, rest90⟩
          · have hlt92 := drop_nil hd91
            refine W.seq ?_
            refine W.region ?_
            refine WL.vS hS hE (runs_plain rfl) (Gives.p hE rfl) rfl ?_; clear hE a; intro a hE
            refine WL.nil ?_
            refine W.seq ?_
            refine W.condF hE rfl (decide_eq_false (by omega)) ?_
            subst hK107
            refine W.exit rfl ?_
            exact ⟨q97, q100, q101, a98, cs105, s95, hle96, Option.some.inj hq86, h99, h104, hn106, hE.pick _ ⟨rfl, rfl, rfl, rfl, trivial⟩, hS⟩
          · obtain ⟨hlt92, hx93, hd91⟩ := drop_cons hd91
            rw [Mendforced.loop2] at hq86
            refine W.seq ?_
            refine W.region ?_
            refine WL.vS hS hE (runs_plain rfl) (Gives.p hE rfl) rfl ?_; clear hE a; intro a hE
            refine WL.nil ?_
            refine W.seq ?_
            refine W.condT hE rfl (decide_eq_true (by omega)) ?_
            refine W.skip ?_
            refine W.seq ?_
            refine W.block ?_
            refine W.seq ?_
            refine W.region ?_
            refine WL.vS hS hE (runs_plain rfl) (Gives.p hE rfl) rfl ?_; clear hE a; intro a hE
            obtain ⟨cs108, hl109, hR110, hat111⟩ := h0_4.at hx93
            obtain ⟨a112, c113, rfl, h114⟩ := hR110
            refine WL.vS hS hE (runs_plain rfl) (Gives.idx hE k88 rfl rfl sl48 rfl hlt92 (h0_4.aok hlt92)) rfl ?_; clear hE a; intro a hE
            refine WL.vS hS hE (runs_plain rfl) (Gives.loadA hE rfl (fun w h => hat111 w _ h) ty97) rfl ?_; clear hE a; intro a hE
            refine WL.alloc hE hS (runs_plain rfl) zr97 rfl ?_; clear hE hS a w; intro b115 a w hE hS
            refine WL.vS hS hE (runs_plain rfl) (Gives.p hE rfl) rfl ?_; clear hE a; intro a hE
            refine WL.storeI hE hS 0 rfl [.slice a112 x89.Ways.length c113] (runs_plain rfl) rfl rfl rfl ty97 rfl rfl rfl rfl ?_; clear hE hS a w; intro a w hE hS
            refine WL.nil ?_
            refine W.seq ?_
            refine W.seq ?_
            refine W.region ?_
            refine WL.vS hS hE (runs_plain rfl) (Gives.p hE rfl) rfl ?_; clear hE a; intro a hE
            refine WL.vS hS hE (runs_plain rfl) (Gives.p hE rfl) rfl ?_; clear hE a; intro a hE
            obtain ⟨x116, hx117, hq86⟩ := bindS hq86
            obtain ⟨hi118, hlt119, hy120⟩ := gx_some hx117
            obtain ⟨vs121, hl122, hR123, hd124, hget125⟩ := h104.at hy120
            subst hR123
            refine WL.vS hS hE (runs_plain rfl) (Gives.idx hE ((((k88 : Nat) : Int)).toNat) rfl rfl sl22 hi118 (by have := hn106; omega) (hS.vecAok 1 rfl (by have := hn106; omega : (((k88 : Nat) : Int)).toNat < q60.length))) rfl ?_; clear hE a; intro a hE
            refine WL.vS hS hE (runs_plain rfl) (Gives.load1 hE rfl (fun w h => St.vecSees h 1 rfl ((((k88 : Nat) : Int)).toNat * 1) _ hget125) ty3) rfl ?_; clear hE a; intro a hE
            refine WL.vS hS hE (runs_plain rfl) (Gives.p hE rfl) rfl ?_; clear hE a; intro a hE
            refine WL.nil ?_
            refine W.cond hE rfl (fun hc126 => ?_) (fun hc126 => ?_)
            · replace hq86 := iteT hc126 hq86
              refine W.exit rfl ?_
              refine W.region ?_
              refine WL.vS hS hE (runs_plain rfl) (Gives.inc hE rfl (by have := h0_4.small; omega)) rfl ?_; clear hE a; intro a hE
              refine WL.vS hS hE (runs_plain rfl) (Gives.p hE rfl) rfl ?_; clear hE a; intro a hE
              refine WL.nil ?_
              replace hS := hS.tail
              subst hK107
              exact ⟨rest90.length, Nat.lt_succ_self _, rest90, k88 + 1, q97, q100, q101, a98, cs105, s95, rfl, hd91, hle96, hq86, h99, h104, hn106, hE.pick _ ⟨rfl, rfl, rfl, rfl, rfl, rfl, rfl, trivial⟩, hS⟩
            · replace hq86 := iteF hc126 hq86
              refine W.skip ?_
              refine W.seq ?_
              refine W.region ?_
              refine WL.vS hS hE (runs_plain rfl) (Gives.p hE rfl) rfl ?_; clear hE a; intro a hE
              refine WL.vS hS hE (runs_plain rfl) (Gives.p hE rfl) rfl ?_; clear hE a; intro a hE
              refine WL.nil ?_
              refine W.seq ?_
              refine W.region ?_
              refine WL.vS hS hE (runs_plain rfl) (Gives.p hE rfl) rfl ?_; clear hE a; intro a hE
              refine WL.nil ?_
              refine W.seq ?_
              refine W.seq ?_
              refine W.region ?_
              refine WL.vS hS hE (runs_plain rfl) (Gives.fld hE rfl fl97_0) rfl ?_; clear hE a; intro a hE
              refine WL.vS hS hE (runs_plain rfl) (Gives.loadB hE 0 rfl rfl rfl ty95) rfl ?_; clear hE a; intro a hE
              refine WL.vS hS hE (runs_plain rfl) (Gives.len hE rfl sl95) rfl ?_; clear hE a; intro a hE
              refine WL.vS hS hE (runs_plain rfl) (Gives.p hE rfl) rfl ?_; clear hE a; intro a hE
              refine WL.nil ?_
              obtain ⟨q128, hq127, hq86⟩ := bindS hq86
              refine W.cut (fun a w => ∃ (q138 : Int), ∃ (q139 : Int), ∃ (q140 : Option MendSolver), ∃ (a141 : Option Addr), ∃ (s136 : Sg), s95.Le s136 ∧ (q138, q139, q140) = q128 ∧ Pt 3 RMendSolver s136 a141 q140 ∧ Rep a 77 [(1, .slice a62 q60.length c63), (2, .pointer (some ⟨b51, 0, none⟩)), (7, .pointer a98), (9, .bool q100), (10, .int .i64 ((k88 : Nat) : Int)), (12, .int .i64 q138), (13, .int .i64 q139), (14, .pointer a141), (31, .slice a0_4 x0.Choices.length c0_4), (32, .int .i64 ((x0.Choices).length : Int)), (33, .int .i64 ((k88 : Nat) : Int))] ∧ St w s136 (pt b115 (.cells #[.slice a112 x89.Ways.length c113] 97 (0, 0)) :: vecC 3 1 a62 c63 q60.length cs105 :: pt b51 (.cells #[.slice a0_0 x0.Ready.length c0_0, .slice a0_1 x0.Last.length c0_1, .slice a0_2 x0.Due.length c0_2, .slice a0_3 x0.Arcs.length c0_3, .slice a0_4 x0.Choices.length c0_4] 50 (0, 0)) :: R)) ?_ ?_
              · refine W.block ?_
                refine W.loop (fun m a w => ∃ (rest131 : List (List MendArc)) (k129 : Nat), ∃ (q138 : Int), ∃ (q139 : Int), ∃ (q140 : Option MendSolver), ∃ (a141 : Option Addr), ∃ (s136 : Sg), rest131.length = m ∧ x89.Ways.drop k129 = rest131 ∧ s95.Le s136 ∧ Mendforced.loop3 fu q97 rest131 k129 q138 q139 q140 = some q128 ∧ Pt 3 RMendSolver s136 a141 q140 ∧ Rep a 77 [(1, .slice a62 q60.length c63), (2, .pointer (some ⟨b51, 0, none⟩)), (7, .pointer a98), (9, .bool q100), (10, .int .i64 ((k88 : Nat) : Int)), (12, .int .i64 q138), (13, .int .i64 q139), (14, .pointer a141), (31, .slice a0_4 x0.Choices.length c0_4), (32, .int .i64 ((x0.Choices).length : Int)), (33, .int .i64 ((k88 : Nat) : Int)), (44, .slice a112 x89.Ways.length c113), (45, .int .i64 ((x89.Ways).length : Int)), (46, .int .i64 ((k129 : Nat) : Int))] ∧ St w s136 (pt b115 (.cells #[.slice a112 x89.Ways.length c113] 97 (0, 0)) :: vecC 3 1 a62 c63 q60.length cs105 :: pt b51 (.cells #[.slice a0_0 x0.Ready.length c0_0, .slice a0_1 x0.Last.length c0_1, .slice a0_2 x0.Due.length c0_2, .slice a0_3 x0.Arcs.length c0_3, .slice a0_4 x0.Choices.length c0_4] 50 (0, 0)) :: R)) (m := x89.Ways.length) ⟨x89.Ways, 0, 0, 0, none, none, s95, rfl, rfl, (Sg.Le.refl _), hq127, Pt.nil, hE.pick _ ⟨rfl, rfl, rfl, rfl, rfl, rfl, rfl, rfl, rfl, rfl, rfl, rfl, rfl, rfl, trivial⟩, hS⟩ ?_
                clear hE hS a w hq127; rintro m135 a w ⟨rest131, k129, q138, q139, q140, a141, s136, rfl, hd132, hle137, hq127, h142, hE, hS⟩
                refine W.gen fun K143 hK143 => ?_
                replace h99 := Pt.mono RMendSolver.mono hle137 h99
                replace h0_4 := Sl.mono RMendChoice.mono hle137 h0_4
                replace h114 := Sl.mono (RL.mono RMendArc.mono) hle137 h114
                replace h104 := Ev.mono RI.mono hle137 h104
                replace h0_0 := Sl.mono RI.mono hle137 h0_0
                replace h0_1 := Sl.mono RI.mono hle137 h0_1
                replace h0_2 := Sl.mono RI.mono hle137 h0_2
                replace h0_3 := Sl.mono RMendArc.mono hle137 h0_3
                rcases rest131 with _ | ⟨x130, rest131⟩
                · have hlt133 := drop_nil hd132
                  refine W.seq ?_
                  refine W.region ?_
                  refine WL.vS hS hE (runs_plain rfl) (Gives.p hE rfl) rfl ?_; clear hE a; intro a hE
                  refine WL.nil ?_
                  refine W.seq ?_
                  refine W.condF hE rfl (decide_eq_false (by omega)) ?_
                  subst hK143
                  refine W.exit rfl ?_
                  exact ⟨q138, q139, q140, a141, s136, hle137, Option.some.inj hq127, h142, hE.pick _ ⟨rfl, rfl, rfl, rfl, rfl, rfl, rfl, rfl, rfl, rfl, rfl, trivial⟩, hS⟩
                · obtain ⟨hlt133, hx134, hd132⟩ := drop_cons hd132
                  rw [Mendforced.loop3] at hq127
                  refine W.seq ?_
                  refine W.region ?_
                  refine WL.vS hS hE (runs_plain rfl) (Gives.p hE rfl) rfl ?_; clear hE a; intro a hE
                  refine WL.nil ?_
                  refine W.seq ?_
                  refine W.condT hE rfl (decide_eq_true (by omega)) ?_
                  refine W.skip ?_
                  refine W.seq ?_
                  refine W.block ?_
                  refine W.seq ?_
                  refine W.region ?_
                  refine WL.vS hS hE (runs_plain rfl) (Gives.p hE rfl) rfl ?_; clear hE a; intro a hE
                  obtain ⟨cs144, hl145, hR146, hat147⟩ := h114.at hx134
                  obtain ⟨a148, c149, rfl, h150⟩ := hR146
                  refine WL.vS hS hE (runs_plain rfl) (Gives.idx hE k129 rfl rfl sl95 rfl hlt133 (h114.aok hlt133)) rfl ?_; clear hE a; intro a hE
                  refine WL.vS hS hE (runs_plain rfl) (Gives.load1 hE rfl (fun w h => hat147 w _ h) ty47) rfl ?_; clear hE a; intro a hE
                  refine WL.vS hS hE (runs_plain rfl) (Gives.p hE rfl) rfl ?_; clear hE a; intro a hE
                  refine WL.vS hS hE (runs_plain rfl) (Gives.p hE rfl) rfl ?_; clear hE a; intro a hE
                  refine WL.nil ?_
                  refine W.seq ?_
                  refine W.region ?_
                  refine WL.vS hS hE (runs_plain rfl) (Gives.p hE rfl) rfl ?_; clear hE a; intro a hE
                  refine WL.vS hS hE (runs_plain rfl) (Gives.p hE rfl) rfl ?_; clear hE a; intro a hE
                  obtain ⟨q151, hq152, hq127⟩ := bindS hq127
                  have hc_ := MendSolverwith_ok hS h99 h150 hq152
                  refine WL.fnq hE (hc_) (runs_plain rfl) bd68 rfl rfl rfl ?_
                  clear hE hS hc_; rintro e w ⟨a153, s155, rfl, hle156, h154, hS⟩; refine ⟨_, rfl, ?_⟩; clear a; intro a hE
                  replace h99 := Pt.mono RMendSolver.mono hle156 h99
                  replace h142 := Pt.mono RMendSolver.mono hle156 h142
                  replace h0_4 := Sl.mono RMendChoice.mono hle156 h0_4
                  replace h114 := Sl.mono (RL.mono RMendArc.mono) hle156 h114
                  replace h150 := Sl.mono RMendArc.mono hle156 h150
                  replace h104 := Ev.mono RI.mono hle156 h104
                  replace h0_0 := Sl.mono RI.mono hle156 h0_0
                  replace h0_1 := Sl.mono RI.mono hle156 h0_1
                  replace h0_2 := Sl.mono RI.mono hle156 h0_2
                  replace h0_3 := Sl.mono RMendArc.mono hle156 h0_3
                  refine WL.vS hS hE (runs_plain rfl) (Gives.p hE rfl) rfl ?_; clear hE a; intro a hE
                  refine WL.vS hS hE (runs_plain rfl) (Gives.p hE rfl) rfl ?_; clear hE a; intro a hE
                  refine WL.vS hS hE (runs_plain rfl) (Gives.p hE rfl) rfl ?_; clear hE a; intro a hE
                  refine WL.vS hS hE (runs_plain rfl) (Gives.p hE rfl) rfl ?_; clear hE a; intro a hE
                  refine WL.vS hS hE (runs_plain rfl) (Gives.p hE rfl) rfl ?_; clear hE a; intro a hE
                  refine WL.nil ?_
                  refine W.seq ?_
                  refine W.region ?_
                  refine WL.vS hS hE (runs_plain rfl) (Gives.p hE rfl) rfl ?_; clear hE a; intro a hE
                  refine WL.nil ?_
                  obtain ⟨q158, hq157, hq127⟩ := bndS hq127
                  refine W.cut (fun a w => ∃ (q161 : Int), ∃ (q162 : Int), ∃ (q163 : Option MendSolver), ∃ (a164 : Option Addr), (q161, q162, q163) = q158 ∧ Pt 3 RMendSolver s155 a164 q163 ∧ Rep a 77 [(1, .slice a62 q60.length c63), (2, .pointer (some ⟨b51, 0, none⟩)), (7, .pointer a98), (9, .bool q100), (10, .int .i64 ((k88 : Nat) : Int)), (12, .int .i64 q161), (13, .int .i64 q162), (14, .pointer a164), (31, .slice a0_4 x0.Choices.length c0_4), (32, .int .i64 ((x0.Choices).length : Int)), (33, .int .i64 ((k88 : Nat) : Int)), (44, .slice a112 x89.Ways.length c113), (45, .int .i64 ((x89.Ways).length : Int)), (46, .int .i64 ((k129 : Nat) : Int))] ∧ St w s155 (pt b115 (.cells #[.slice a112 x89.Ways.length c113] 97 (0, 0)) :: vecC 3 1 a62 c63 q60.length cs105 :: pt b51 (.cells #[.slice a0_0 x0.Ready.length c0_0, .slice a0_1 x0.Last.length c0_1, .slice a0_2 x0.Due.length c0_2, .slice a0_3 x0.Arcs.length c0_3, .slice a0_4 x0.Choices.length c0_4] 50 (0, 0)) :: R)) ?_ ?_
                  · refine W.gen fun K166 hK166 => ?_
                    refine W.cond hE rfl (fun hc167 => ?_) (fun hc167 => ?_)
                    · replace hq157 := iteT hc167 hq157
                      refine W.seq ?_
                      refine W.region ?_
                      refine WL.vS hS hE (runs_plain rfl) (Gives.p hE rfl) rfl ?_; clear hE a; intro a hE
                      refine WL.vS hS hE (runs_plain rfl) (Gives.inc hE rfl (by have := h114.small; omega)) rfl ?_; clear hE a; intro a hE
                      refine WL.vS hS hE (runs_plain rfl) (Gives.p hE rfl) rfl ?_; clear hE a; intro a hE
                      refine WL.vS hS hE (runs_plain rfl) (Gives.p hE rfl) rfl ?_; clear hE a; intro a hE
                      refine WL.vS hS hE (runs_plain rfl) (Gives.p hE rfl) rfl ?_; clear hE a; intro a hE
                      refine WL.nil ?_
                      refine W.region ?_
                      refine WL.vS hS hE (runs_plain rfl) (Gives.p hE rfl) rfl ?_; clear hE a; intro a hE
                      refine WL.vS hS hE (runs_plain rfl) (Gives.p hE rfl) rfl ?_; clear hE a; intro a hE
                      refine WL.vS hS hE (runs_plain rfl) (Gives.p hE rfl) rfl ?_; clear hE a; intro a hE
                      refine WL.nil ?_
                      subst hK166
                      exact ⟨((k129 + 1 : Nat) : Int), w64 (q139 + 1), q151.1, a153, hq157, h154, hE.pick _ ⟨rfl, rfl, rfl, rfl, rfl, rfl, rfl, rfl, rfl, rfl, rfl, rfl, rfl, rfl, trivial⟩, hS⟩
                    · replace hq157 := iteF hc167 hq157
                      refine W.skip ?_
                      subst hK166
                      exact ⟨q138, q139, q140, a141, hq157, h142, hE.pick _ ⟨rfl, rfl, rfl, rfl, rfl, rfl, rfl, rfl, rfl, rfl, rfl, rfl, rfl, rfl, trivial⟩, hS⟩
                  · clear hE hS a w; rintro a w ⟨q161, q162, q163, a164, rfl, h165, hE, hS⟩
                    dsimp only at hq127
                    refine W.region ?_
                    refine WL.vS hS hE (runs_plain rfl) (Gives.inc hE rfl (by have := h114.small; omega)) rfl ?_; clear hE a; intro a hE
                    refine WL.vS hS hE (runs_plain rfl) (Gives.p hE rfl) rfl ?_; clear hE a; intro a hE
                    refine WL.nil ?_
                    subst hK143
                    exact ⟨rest131.length, Nat.lt_succ_self _, rest131, k129 + 1, q161, q162, q163, a164, s155, rfl, hd132, (Sg.Le.trans hle137 hle156), hq127, h165, hE.pick _ ⟨rfl, rfl, rfl, rfl, rfl, rfl, rfl, rfl, rfl, rfl, rfl, rfl, rfl, rfl, trivial⟩, hS⟩
              · clear hE hS a w; rintro a w ⟨q138, q139, q140, a141, s136, hle137, rfl, h142, hE, hS⟩
                dsimp only at hq86
                replace h99 := Pt.mono RMendSolver.mono hle137 h99
                replace h0_4 := Sl.mono RMendChoice.mono hle137 h0_4
                replace h114 := Sl.mono (RL.mono RMendArc.mono) hle137 h114
                replace h104 := Ev.mono RI.mono hle137 h104
                replace h0_0 := Sl.mono RI.mono hle137 h0_0
                replace h0_1 := Sl.mono RI.mono hle137 h0_1
                replace h0_2 := Sl.mono RI.mono hle137 h0_2
                replace h0_3 := Sl.mono RMendArc.mono hle137 h0_3
                refine W.seq ?_
                refine W.region ?_
                refine WL.vS hS hE (runs_plain rfl) (Gives.p hE rfl) rfl ?_; clear hE a; intro a hE
                refine WL.nil ?_
                refine W.block ?_
                refine W.seq ?_
                refine W.region ?_
                refine WL.vS hS hE (runs_plain rfl) (Gives.p hE rfl) rfl ?_; clear hE a; intro a hE
                refine WL.vS hS hE (runs_plain rfl) (Gives.p hE rfl) rfl ?_; clear hE a; intro a hE
                refine WL.nil ?_
                obtain ⟨q169, hq168, hq86⟩ := bindS hq86
                refine W.cut (fun a w => ∃ (q172 : Option MendSolver), ∃ (q175 : Bool), ∃ (q176 : List Int), ∃ (a173 : Option Addr), ∃ (cs180 : List Value), .next (q172, q175, q176) = q169 ∧ Pt 3 RMendSolver s136 a173 q172 ∧ Ev 1 (RI .i64) s136 cs180 q176 ∧ q176.length = q60.length ∧ Rep a 77 [(1, .slice a62 q60.length c63), (2, .pointer (some ⟨b51, 0, none⟩)), (7, .pointer a173), (9, .bool q175), (31, .slice a0_4 x0.Choices.length c0_4), (32, .int .i64 ((x0.Choices).length : Int)), (33, .int .i64 ((k88 : Nat) : Int))] ∧ St w s136 (pt b115 (.cells #[.slice a112 x89.Ways.length c113] 97 (0, 0)) :: vecC 3 1 a62 c63 q60.length cs180 :: pt b51 (.cells #[.slice a0_0 x0.Ready.length c0_0, .slice a0_1 x0.Last.length c0_1, .slice a0_2 x0.Due.length c0_2, .slice a0_3 x0.Arcs.length c0_3, .slice a0_4 x0.Choices.length c0_4] 50 (0, 0)) :: R)) ?_ ?_
                · refine W.gen fun K182 hK182 => ?_
                  refine W.cond hE rfl (fun hc183 => ?_) (fun hc183 => ?_)
                  · replace hq168 := iteT hc183 hq168
                    refine W.seq ?_
                    refine W.region ?_
                    refine WL.vS hS hE (runs_plain rfl) (Gives.p hE rfl) rfl ?_; clear hE a; intro a hE
                    refine WL.vS hS hE (runs_plain rfl) (Gives.p hE rfl) rfl ?_; clear hE a; intro a hE
                    refine WL.vS hS hE (runs_plain rfl) (Gives.p hE rfl) rfl ?_; clear hE a; intro a hE
                    refine WL.nil ?_
                    refine W.ret ?_
                    subst hK182
                    subst hK107
                    subst hK84
                    rw [← Option.some.inj hq168] at hq86
                    dsimp only at hq86
                    rw [← Option.some.inj hq86] at hq68
                    dsimp only at hq68
                    rw [← Option.some.inj hq68] at hr
                    dsimp only at hr
                    replace hS := hS.vecNil 3 1
                    refine finG (fn := Try.f64) (rs := [.tmp 4, .tmp 5, .tmp 6]) (vs := [_, _, _]) hE rfl ⟨rfl, rfl, rfl, trivial⟩ ?_
                    obtain rfl := Option.some.inj hr
                    replace hS := hS.dropAt 1
                    replace hS := hS.dropAt 1
                    replace hS := hS.dropAt 1
                    exact ⟨none, 0, 0, [], none, s136, rfl, (Sg.Le.trans (Sg.Le.trans (Sg.Le.trans hle57 hle73) hle96) hle137), (Ev.nil), (rfl), Pt.nil, hS⟩
                  · replace hq168 := iteF hc183 hq168
                    refine W.seq ?_
                    refine W.region ?_
                    refine WL.vS hS hE (runs_plain rfl) (Gives.p hE rfl) rfl ?_; clear hE a; intro a hE
                    refine WL.vS hS hE (runs_plain rfl) (Gives.p hE rfl) rfl ?_; clear hE a; intro a hE
                    refine WL.nil ?_
                    obtain ⟨q186, hq185, hq168⟩ := bindS hq168
                    refine W.cut (fun a w => ∃ (q189 : Option MendSolver), ∃ (q192 : Bool), ∃ (q193 : List Int), ∃ (a190 : Option Addr), ∃ (cs197 : List Value), (q189, q192, q193) = q186 ∧ Pt 3 RMendSolver s136 a190 q189 ∧ Ev 1 (RI .i64) s136 cs197 q193 ∧ q193.length = q60.length ∧ Rep a 77 [(1, .slice a62 q60.length c63), (2, .pointer (some ⟨b51, 0, none⟩)), (7, .pointer a190), (9, .bool q192), (31, .slice a0_4 x0.Choices.length c0_4), (32, .int .i64 ((x0.Choices).length : Int)), (33, .int .i64 ((k88 : Nat) : Int))] ∧ St w s136 (pt b115 (.cells #[.slice a112 x89.Ways.length c113] 97 (0, 0)) :: vecC 3 1 a62 c63 q60.length cs197 :: pt b51 (.cells #[.slice a0_0 x0.Ready.length c0_0, .slice a0_1 x0.Last.length c0_1, .slice a0_2 x0.Due.length c0_2, .slice a0_3 x0.Arcs.length c0_3, .slice a0_4 x0.Choices.length c0_4] 50 (0, 0)) :: R)) ?_ ?_
                    · refine W.gen fun K199 hK199 => ?_
                      refine W.cond hE rfl (fun hc200 => ?_) (fun hc200 => ?_)
                      · replace hq185 := iteT hc200 hq185
                        refine W.region ?_
                        refine WL.vS hS hE (runs_plain rfl) (Gives.p hE rfl) rfl ?_; clear hE a; intro a hE
                        refine WL.vS hS hE (runs_plain rfl) (Gives.p hE rfl) rfl ?_; clear hE a; intro a hE
                        refine WL.vS hS hE (runs_plain rfl) (Gives.p hE rfl) rfl ?_; clear hE a; intro a hE
                        refine WL.vS hS hE (runs_plain rfl) (Gives.p hE rfl) rfl ?_; clear hE a; intro a hE
                        obtain ⟨_, hx202, hq185⟩ := bindS hq185
                        obtain ⟨h203, h204⟩ := ix_some hx202
                        refine WL.vS hS hE (runs_plain rfl) (Gives.idx hE ((((k88 : Nat) : Int)).toNat) rfl rfl sl22 h203 (by have := hn106; omega) (hS.vecAok 1 rfl (by have := hn106; omega : (((k88 : Nat) : Int)).toNat < q60.length))) rfl ?_; clear hE a; intro a hE
                        obtain ⟨x206, hx207, hq185⟩ := bindS hq185
                        refine WL.setD hE hS 1 rfl (runs_plain rfl) rfl rfl (vs := [.int .i64 q138]) rfl ty3 rfl rfl rfl h104 hn106 (sx_some hx207).1 hx207 rfl rfl ?_; clear hE hS a w; intro cs208 a w h209 hn210 hE hS
                        refine WL.vS hS hE (runs_plain rfl) (Gives.p hE rfl) rfl ?_; clear hE a; intro a hE
                        refine WL.vS hS hE (runs_plain rfl) (Gives.p hE rfl) rfl ?_; clear hE a; intro a hE
                        refine WL.nil ?_
                        subst hK199
                        exact ⟨q140, true, x206, a141, cs208, Option.some.inj hq185, h142, h209, hn210, hE.pick _ ⟨rfl, rfl, rfl, rfl, rfl, rfl, rfl, trivial⟩, hS⟩
                      · replace hq185 := iteF hc200 hq185
                        refine W.skip ?_
                        subst hK199
                        exact ⟨q97, q100, q101, a98, cs105, Option.some.inj hq185, h99, h104, hn106, hE.pick _ ⟨rfl, rfl, rfl, rfl, rfl, rfl, rfl, trivial⟩, hS⟩
                    · clear hE hS a w; rintro a w ⟨q189, q192, q193, a190, cs197, rfl, h191, h196, hn198, hE, hS⟩
                      dsimp only at hq168
                      subst hK182
                      exact ⟨q189, q192, q193, a190, cs197, Option.some.inj hq168, h191, h196, hn198, hE.pick _ ⟨rfl, rfl, rfl, rfl, rfl, rfl, rfl, trivial⟩, hS⟩
                · clear hE hS a w; rintro a w ⟨q172, q175, q176, a173, cs180, rfl, h174, h179, hn181, hE, hS⟩
                  dsimp only at hq86
                  refine W.region ?_
                  refine WL.vS hS hE (runs_plain rfl) (Gives.inc hE rfl (by have := h0_4.small; omega)) rfl ?_; clear hE a; intro a hE
                  refine WL.vS hS hE (runs_plain rfl) (Gives.p hE rfl) rfl ?_; clear hE a; intro a hE
                  refine WL.nil ?_
                  replace hS := hS.tail
                  subst hK107
                  exact ⟨rest90.length, Nat.lt_succ_self _, rest90, k88 + 1, q172, q175, q176, a173, cs180, s136, rfl, hd91, (Sg.Le.trans hle96 hle137), hq86, h174, h179, hn181, hE.pick _ ⟨rfl, rfl, rfl, rfl, rfl, rfl, rfl, trivial⟩, hS⟩
        · clear hE hS a w; rintro a w ⟨q97, q100, q101, a98, cs105, s95, hle96, rfl, h99, h104, hn106, hE, hS⟩
          dsimp only at hq68
          replace h76 := Pt.mono RMendSolver.mono hle96 h76
          replace h0_4 := Sl.mono RMendChoice.mono hle96 h0_4
          replace h81 := Ev.mono RI.mono hle96 h81
          replace h0_0 := Sl.mono RI.mono hle96 h0_0
          replace h0_1 := Sl.mono RI.mono hle96 h0_1
          replace h0_2 := Sl.mono RI.mono hle96 h0_2
          replace h0_3 := Sl.mono RMendArc.mono hle96 h0_3
          subst hK84
          exact ⟨n70, Nat.lt_succ_self _, n70, q97, q100, q101, a98, cs105, s95, rfl, (Sg.Le.trans hle73 hle96), hq68, h99, h104, hn106, hE.pick _ ⟨rfl, rfl, rfl, rfl, trivial⟩, hS⟩
      · replace hq68 := iteF hc85 hq68
        subst hK84
        refine W.exit rfl ?_
        exact ⟨q74, q77, q78, a75, cs82, s72, hle73, Option.some.inj hq68, h76, h81, hn83, hE.pick _ ⟨rfl, rfl, trivial⟩, hS⟩
    · clear hE hS a w; rintro a w ⟨q74, q77, q78, a75, cs82, s72, hle73, rfl, h76, h81, hn83, hE, hS⟩
      dsimp only at hr
      replace h0_0 := Sl.mono RI.mono hle73 h0_0
      replace h0_1 := Sl.mono RI.mono hle73 h0_1
      replace h0_2 := Sl.mono RI.mono hle73 h0_2
      replace h0_3 := Sl.mono RMendArc.mono hle73 h0_3
      replace h0_4 := Sl.mono RMendChoice.mono hle73 h0_4
      replace h1 := Sl.mono RI.mono hle73 h1
      replace h55 := Pt.mono RMendSolver.mono hle73 h55
      replace h66 := Ev.mono RI.mono hle73 h66
      refine W.seq ?_
      refine W.region ?_
      refine WL.vS hS hE (runs_plain rfl) (Gives.p hE rfl) rfl ?_; clear hE a; intro a hE
      refine WL.vS hS hE (runs_plain rfl) (Gives.p hE rfl) rfl ?_; clear hE a; intro a hE
      refine WL.vS hS hE (runs_plain rfl) (Gives.p hE rfl) rfl ?_; clear hE a; intro a hE
      refine WL.vS hS hE (runs_plain rfl) (Gives.p hE rfl) rfl ?_; clear hE a; intro a hE
      refine WL.vS hS hE (runs_plain rfl) (Gives.p hE rfl) rfl ?_; clear hE a; intro a hE
      refine WL.nil ?_
      refine W.ret ?_
      refine finG (fn := Try.f64) (rs := [.tmp 4, .tmp 5, .tmp 6]) (vs := [_, _, _]) hE rfl ⟨rfl, rfl, rfl, trivial⟩ ?_
      obtain rfl := Option.some.inj hr
      replace hS := hS.dropAt 1
      exact ⟨a62, c63, q60.length, cs82, a75, s72, rfl, (Sg.Le.trans hle57 hle73), h81, hn83, h76, hS⟩
set_option maxHeartbeats 8000000 in
theorem Menddelay_ok  {w : World} {s : Sg} {R : List HP} {x0 : MendGraph} {a0_0 : Option Addr} {c0_0 : Nat} {a0_1 : Option Addr} {c0_1 : Nat} {a0_2 : Option Addr} {c0_2 : Nat} {a0_3 : Option Addr} {c0_3 : Nat} {a0_4 : Option Addr} {c0_4 : Nat} {x1 : List Int} {a1 : Option Addr} {c1 : Nat} (hS : St w s (R)) (_h0_0 : Sl 1 (RI .i64) s a0_0 c0_0 x0.Ready) (_h0_1 : Sl 1 (RI .i64) s a0_1 c0_1 x0.Last) (h0_2 : Sl 1 (RI .i64) s a0_2 c0_2 x0.Due) (_h0_3 : Sl 3 RMendArc s a0_3 c0_3 x0.Arcs) (_h0_4 : Sl 1 RMendChoice s a0_4 c0_4 x0.Choices) (h1 : Sl 1 (RI .i64) s a1 c1 x1) {r : Int} (hr : Menddelay x0 x1 = some r) :
    Calls Try.prog 66 [.agg [.slice a0_0 x0.Ready.length c0_0, .slice a0_1 x0.Last.length c0_1, .slice a0_2 x0.Due.length c0_2, .slice a0_3 x0.Arcs.length c0_3, .slice a0_4 x0.Choices.length c0_4].toArray, .slice a1 x1.length c1].toArray w (fun e w => e = .returned (.int .i64 r) ∧ St w s (R)) := by
  refine enter Try.func66 rfl rfl rfl fun a hE => ?_
  rw [Menddelay] at hr
  refine W.seq ?_
  refine W.region ?_
  refine WL.box hE hS (runs_plain rfl) rfl rfl rfl ?_; clear hE hS a w; intro b51 a w hE hS
  refine WL.vS hS hE (runs_plain rfl) (Gives.p hE rfl) rfl ?_; clear hE a; intro a hE
  refine WL.nil ?_
  refine W.seq ?_
  refine W.region ?_
  refine WL.vS hS hE (runs_plain rfl) (Gives.p hE rfl) rfl ?_; clear hE a; intro a hE
  refine WL.nil ?_
  refine W.seq ?_
  refine W.seq ?_
  refine W.region ?_
  refine WL.vS hS hE (runs_plain rfl) (Gives.fld hE rfl fl50_2) rfl ?_; clear hE a; intro a hE
  refine WL.vS hS hE (runs_plain rfl) (Gives.loadB hE 0 rfl rfl rfl ty22) rfl ?_; clear hE a; intro a hE
  refine WL.vS hS hE (runs_plain rfl) (Gives.len hE rfl sl22) rfl ?_; clear hE a; intro a hE
  refine WL.vS hS hE (runs_plain rfl) (Gives.p hE rfl) rfl ?_; clear hE a; intro a hE
  refine WL.nil ?_
  obtain ⟨q53, hq52, hr⟩ := bindS hr
  refine W.cut (fun a w => ∃ (q63 : Int), q63 = q53 ∧ Rep a 29 [(5, .int .i64 q63)] ∧ St w s (pt b51 (.cells #[.slice a0_0 x0.Ready.length c0_0, .slice a0_1 x0.Last.length c0_1, .slice a0_2 x0.Due.length c0_2, .slice a0_3 x0.Arcs.length c0_3, .slice a0_4 x0.Choices.length c0_4] 50 (0, 0)) :: R)) ?_ ?_
  · refine W.block ?_
    refine W.loop (fun m a w => ∃ (rest56 : List Int) (k54 : Nat), ∃ (q63 : Int), rest56.length = m ∧ x0.Due.drop k54 = rest56 ∧ Menddelay.loop1 x1 rest56 k54 q63 = some q53 ∧ Rep a 29 [(1, .slice a1 x1.length c1), (5, .int .i64 q63), (9, .slice a0_2 x0.Due.length c0_2), (10, .int .i64 ((x0.Due).length : Int)), (11, .int .i64 ((k54 : Nat) : Int))] ∧ St w s (pt b51 (.cells #[.slice a0_0 x0.Ready.length c0_0, .slice a0_1 x0.Last.length c0_1, .slice a0_2 x0.Due.length c0_2, .slice a0_3 x0.Arcs.length c0_3, .slice a0_4 x0.Choices.length c0_4] 50 (0, 0)) :: R)) (m := x0.Due.length) ⟨x0.Due, 0, 0, rfl, rfl, hq52, hE.pick _ ⟨rfl, rfl, rfl, rfl, rfl, trivial⟩, hS⟩ ?_
    clear hE hS a w hq52; rintro m60 a w ⟨rest56, k54, q63, rfl, hd57, hq52, hE, hS⟩
    refine W.gen fun K64 hK64 => ?_
    rcases rest56 with _ | ⟨x55, rest56⟩
    · have hlt58 := drop_nil hd57
      refine W.seq ?_
      refine W.region ?_
      refine WL.vS hS hE (runs_plain rfl) (Gives.p hE rfl) rfl ?_; clear hE a; intro a hE
      refine WL.nil ?_
      refine W.seq ?_
      refine W.condF hE rfl (decide_eq_false (by omega)) ?_
      subst hK64
      refine W.exit rfl ?_
      exact ⟨q63, Option.some.inj hq52, hE.pick _ ⟨rfl, trivial⟩, hS⟩
    · obtain ⟨hlt58, hx59, hd57⟩ := drop_cons hd57
      rw [Menddelay.loop1] at hq52
      refine W.seq ?_
      refine W.region ?_
      refine WL.vS hS hE (runs_plain rfl) (Gives.p hE rfl) rfl ?_; clear hE a; intro a hE
      refine WL.nil ?_
      refine W.seq ?_
      refine W.condT hE rfl (decide_eq_true (by omega)) ?_
      refine W.skip ?_
      refine W.seq ?_
      refine W.block ?_
      refine W.seq ?_
      refine W.region ?_
      refine WL.vS hS hE (runs_plain rfl) (Gives.p hE rfl) rfl ?_; clear hE a; intro a hE
      obtain ⟨cs65, hl66, hR67, hat68⟩ := h0_2.at hx59
      subst hR67
      refine WL.vS hS hE (runs_plain rfl) (Gives.idx hE k54 rfl rfl sl22 rfl hlt58 (h0_2.aok hlt58)) rfl ?_; clear hE a; intro a hE
      refine WL.vS hS hE (runs_plain rfl) (Gives.load1 hE rfl (fun w h => hat68 w _ h) ty3) rfl ?_; clear hE a; intro a hE
      refine WL.vS hS hE (runs_plain rfl) (Gives.p hE rfl) rfl ?_; clear hE a; intro a hE
      refine WL.vS hS hE (runs_plain rfl) (Gives.p hE rfl) rfl ?_; clear hE a; intro a hE
      refine WL.nil ?_
      refine W.seq ?_
      refine W.region ?_
      refine WL.vS hS hE (runs_plain rfl) (Gives.p hE rfl) rfl ?_; clear hE a; intro a hE
      refine WL.vS hS hE (runs_plain rfl) (Gives.p hE rfl) rfl ?_; clear hE a; intro a hE
      refine WL.nil ?_
      obtain ⟨q70, hq69, hq52⟩ := bindS hq52
      refine W.cut (fun a w => ∃ (q73 : Int), q73 = q70 ∧ Rep a 29 [(1, .slice a1 x1.length c1), (5, .int .i64 q73), (9, .slice a0_2 x0.Due.length c0_2), (10, .int .i64 ((x0.Due).length : Int)), (11, .int .i64 ((k54 : Nat) : Int))] ∧ St w s (pt b51 (.cells #[.slice a0_0 x0.Ready.length c0_0, .slice a0_1 x0.Last.length c0_1, .slice a0_2 x0.Due.length c0_2, .slice a0_3 x0.Arcs.length c0_3, .slice a0_4 x0.Choices.length c0_4] 50 (0, 0)) :: R)) ?_ ?_
      · refine W.gen fun K74 hK74 => ?_
        refine W.cond hE rfl (fun hc75 => ?_) (fun hc75 => ?_)
        · replace hq69 := iteT hc75 hq69
          refine W.region ?_
          refine WL.vS hS hE (runs_plain rfl) (Gives.p hE rfl) rfl ?_; clear hE a; intro a hE
          refine WL.vS hS hE (runs_plain rfl) (Gives.p hE rfl) rfl ?_; clear hE a; intro a hE
          refine WL.vS hS hE (runs_plain rfl) (Gives.p hE rfl) rfl ?_; clear hE a; intro a hE
          obtain ⟨x76, hx77, hq69⟩ := bindS hq69
          obtain ⟨hi78, hlt79, hy80⟩ := gx_some hx77
          obtain ⟨cs81, hl82, hR83, hat84⟩ := h1.at hy80
          subst hR83
          refine WL.vS hS hE (runs_plain rfl) (Gives.idx hE (((k54 : Nat) : Int)).toNat rfl rfl sl22 hi78 hlt79 (h1.aok hlt79)) rfl ?_; clear hE a; intro a hE
          refine WL.vS hS hE (runs_plain rfl) (Gives.load1 hE rfl (fun w h => hat84 w _ h) ty3) rfl ?_; clear hE a; intro a hE
          refine WL.vS hS hE (runs_plain rfl) (Gives.p hE rfl) rfl ?_; clear hE a; intro a hE
          refine WL.vS hS hE (runs_plain rfl) (Gives.p hE rfl) rfl ?_; clear hE a; intro a hE
          refine WL.vS hS hE (runs_plain rfl) (Gives.max2 hE rfl rfl) rfl ?_; clear hE a; intro a hE
          refine WL.vS hS hE (runs_plain rfl) (Gives.p hE rfl) rfl ?_; clear hE a; intro a hE
          refine WL.vS hS hE (runs_plain rfl) (Gives.p hE rfl) rfl ?_; clear hE a; intro a hE
          refine WL.nil ?_
          subst hK74
          exact ⟨w64 (q63 + (mx 0 (w64 (x76 - x55)))), Option.some.inj hq69, hE.pick _ ⟨rfl, rfl, rfl, rfl, rfl, trivial⟩, hS⟩
        · replace hq69 := iteF hc75 hq69
          refine W.skip ?_
          subst hK74
          exact ⟨q63, Option.some.inj hq69, hE.pick _ ⟨rfl, rfl, rfl, rfl, rfl, trivial⟩, hS⟩
      · clear hE hS a w; rintro a w ⟨q73, rfl, hE, hS⟩
        refine W.region ?_
        refine WL.vS hS hE (runs_plain rfl) (Gives.inc hE rfl (by have := h0_2.small; omega)) rfl ?_; clear hE a; intro a hE
        refine WL.vS hS hE (runs_plain rfl) (Gives.p hE rfl) rfl ?_; clear hE a; intro a hE
        refine WL.nil ?_
        subst hK64
        exact ⟨rest56.length, Nat.lt_succ_self _, rest56, k54 + 1, q73, rfl, hd57, hq52, hE.pick _ ⟨rfl, rfl, rfl, rfl, rfl, trivial⟩, hS⟩
  · clear hE hS a w; rintro a w ⟨q63, rfl, hE, hS⟩
    refine W.seq ?_
    refine W.region ?_
    refine WL.vS hS hE (runs_plain rfl) (Gives.p hE rfl) rfl ?_; clear hE a; intro a hE
    refine WL.vS hS hE (runs_plain rfl) (Gives.p hE rfl) rfl ?_; clear hE a; intro a hE
    refine WL.nil ?_
    refine W.ret ?_
    refine finG (fn := Try.f66) (rs := [.tmp 4]) (vs := [_]) hE rfl ⟨rfl, trivial⟩ ?_
    obtain rfl := Option.some.inj hr
    replace hS := hS.tail
    exact ⟨rfl, hS⟩
set_option maxHeartbeats 8000000 in
theorem MendBest_1_v1_ok : ∀ {fu : Nat} {w : World} {s : Sg} {R : List HP} {pb0 : Nat} {pb1 : Nat} {pb2 : Nat} {pb3 : Nat} {pb4 : Nat} {pb5 : Nat} {pb6 : Nat} {x0 : Int} {x1 : Option MendSolver} {a1 : Option Addr} {y0 : MendGraph} {a_y0_0 : Option Addr} {c_y0_0 : Nat} {a_y0_1 : Option Addr} {c_y0_1 : Nat} {a_y0_2 : Option Addr} {c_y0_2 : Nat} {a_y0_3 : Option Addr} {c_y0_3 : Nat} {a_y0_4 : Option Addr} {c_y0_4 : Nat} {y1 : Int} {y2 : List Int} {a_v0 : Option Addr} {c_v0 n_v0 : Nat} {cs_v0 : List Value} {y3 : List Int} {a_v1 : Option Addr} {c_v1 n_v1 : Nat} {cs_v1 : List Value} {y4 : List Int} {a_y4_0 : Option Addr} {c_y4_0 : Nat} {y5 : List Int} {a_y5_0 : Option Addr} {c_y5_0 : Nat} (_hS : St w s (pt pb0 (.cells #[.slice a_y0_0 y0.Ready.length c_y0_0, .slice a_y0_1 y0.Last.length c_y0_1, .slice a_y0_2 y0.Due.length c_y0_2, .slice a_y0_3 y0.Arcs.length c_y0_3, .slice a_y0_4 y0.Choices.length c_y0_4] 50 (0, 0)) :: pt pb1 (.cells #[.int .i64 y1] 3 (0, 0)) :: pt pb2 (.cells #[.slice a_v0 n_v0 c_v0] 22 (0, 0)) :: pt pb3 (.cells #[.slice a_v1 n_v1 c_v1] 22 (0, 0)) :: pt pb4 (.cells #[.slice a_y4_0 y4.length c_y4_0] 22 (0, 0)) :: pt pb5 (.cells #[.slice a_y5_0 y5.length c_y5_0] 22 (0, 0)) :: pt pb6 (.cells #[.func (.func 65) #[] #[.pointer (some ⟨pb0, 0, none⟩), .pointer (some ⟨pb1, 0, none⟩), .pointer (some ⟨pb2, 0, none⟩), .pointer (some ⟨pb3, 0, none⟩), .pointer (some ⟨pb4, 0, none⟩), .pointer (some ⟨pb5, 0, none⟩), .pointer (some ⟨pb6, 0, none⟩)]] 103 (0, 0)) :: vecC 3 1 a_v0 c_v0 n_v0 cs_v0 :: vecC 3 1 a_v1 c_v1 n_v1 cs_v1 :: R)) (_h1 : Pt 3 RMendSolver s a1 x1) (_h_y0_0 : Sl 1 (RI .i64) s a_y0_0 c_y0_0 y0.Ready) (_h_y0_1 : Sl 1 (RI .i64) s a_y0_1 c_y0_1 y0.Last) (_h_y0_2 : Sl 1 (RI .i64) s a_y0_2 c_y0_2 y0.Due) (_h_y0_3 : Sl 3 RMendArc s a_y0_3 c_y0_3 y0.Arcs) (_h_y0_4 : Sl 1 RMendChoice s a_y0_4 c_y0_4 y0.Choices) (_h_v0 : Ev 1 (RI .i64) s cs_v0 y2) (_hn_v0 : y2.length = n_v0) (_h_v1 : Ev 1 (RI .i64) s cs_v1 y3) (_hn_v1 : y3.length = n_v1) (_h_y4_0 : Sl 1 (RI .i64) s a_y4_0 c_y4_0 y4) (_h_y5_0 : Sl 1 (RI .i64) s a_y5_0 c_y5_0 y5) {r : (List Int) × Int × (List Int) × (List Int)} (_hr : MendBest_1_v1 fu x0 x1 y0 y1 y2 y3 y4 y5 = some r),
    Calls Try.prog 65 [.int .i64 x0, .pointer a1, .pointer (some ⟨pb0, 0, none⟩), .pointer (some ⟨pb1, 0, none⟩), .pointer (some ⟨pb2, 0, none⟩), .pointer (some ⟨pb3, 0, none⟩), .pointer (some ⟨pb4, 0, none⟩), .pointer (some ⟨pb5, 0, none⟩), .pointer (some ⟨pb6, 0, none⟩)].toArray w (fun e w => ∃ (cs70 : List Value) (a74 : Option Addr) (c75 : Nat) (a78 : Option Addr) (c79 : Nat) (t : Sg), e = .returned (.tuple #[]) ∧ s.Le t ∧ Ev 1 (RI .i64) t cs70 r.1 ∧ r.1.length = n_v1 ∧ Sl 1 (RI .i64) t a74 c75 r.2.2.1 ∧ Sl 1 (RI .i64) t a78 c79 r.2.2.2 ∧ St w t (pt pb0 (.cells #[.slice a_y0_0 y0.Ready.length c_y0_0, .slice a_y0_1 y0.Last.length c_y0_1, .slice a_y0_2 y0.Due.length c_y0_2, .slice a_y0_3 y0.Arcs.length c_y0_3, .slice a_y0_4 y0.Choices.length c_y0_4] 50 (0, 0)) :: pt pb1 (.cells #[.int .i64 r.2.1] 3 (0, 0)) :: pt pb2 (.cells #[.slice a_v0 n_v0 c_v0] 22 (0, 0)) :: pt pb3 (.cells #[.slice a_v1 n_v1 c_v1] 22 (0, 0)) :: pt pb4 (.cells #[.slice a74 r.2.2.1.length c75] 22 (0, 0)) :: pt pb5 (.cells #[.slice a78 r.2.2.2.length c79] 22 (0, 0)) :: pt pb6 (.cells #[.func (.func 65) #[] #[.pointer (some ⟨pb0, 0, none⟩), .pointer (some ⟨pb1, 0, none⟩), .pointer (some ⟨pb2, 0, none⟩), .pointer (some ⟨pb3, 0, none⟩), .pointer (some ⟨pb4, 0, none⟩), .pointer (some ⟨pb5, 0, none⟩), .pointer (some ⟨pb6, 0, none⟩)]] 103 (0, 0)) :: vecC 3 1 a_v0 c_v0 n_v0 cs_v0 :: vecC 3 1 a_v1 c_v1 n_v1 cs70 :: R)) := by
  intro fu
  induction fu with
  | zero => intro w s R pb0 pb1 pb2 pb3 pb4 pb5 pb6 x0 x1 a1 y0 a_y0_0 c_y0_0 a_y0_1 c_y0_1 a_y0_2 c_y0_2 a_y0_3 c_y0_3 a_y0_4 c_y0_4 y1 y2 a_v0 c_v0 n_v0 cs_v0 y3 a_v1 c_v1 n_v1 cs_v1 y4 a_y4_0 c_y4_0 y5 a_y5_0 c_y5_0 hS h1 h_y0_0 h_y0_1 h_y0_2 h_y0_3 h_y0_4 h_v0 hn_v0 h_v1 hn_v1 h_y4_0 h_y5_0 r hr; rw [MendBest_1_v1] at hr; exact absurd hr (by simp)
  | succ fu ih_MendBest_1_v1 =>
    intro w s R pb0 pb1 pb2 pb3 pb4 pb5 pb6 x0 x1 a1 y0 a_y0_0 c_y0_0 a_y0_1 c_y0_1 a_y0_2 c_y0_2 a_y0_3 c_y0_3 a_y0_4 c_y0_4 y1 y2 a_v0 c_v0 n_v0 cs_v0 y3 a_v1 c_v1 n_v1 cs_v1 y4 a_y4_0 c_y4_0 y5 a_y5_0 c_y5_0 hS h1 h_y0_0 h_y0_1 h_y0_2 h_y0_3 h_y0_4 h_v0 hn_v0 h_v1 hn_v1 h_y4_0 h_y5_0 r hr
    rw [MendBest_1_v1] at hr
    generalize MendBest_1_v1 fu = self_MendBest_1_v1 at hr ih_MendBest_1_v1
    refine enter Try.func65 rfl rfl rfl fun a hE => ?_
    subst hn_v0
    subst hn_v1
    refine W.seq ?_
    refine W.regionQ (C := fun w => St w s (pt pb0 (.cells #[.slice a_y0_0 y0.Ready.length c_y0_0, .slice a_y0_1 y0.Last.length c_y0_1, .slice a_y0_2 y0.Due.length c_y0_2, .slice a_y0_3 y0.Arcs.length c_y0_3, .slice a_y0_4 y0.Choices.length c_y0_4] 50 (0, 0)) :: pt pb1 (.cells #[.int .i64 y1] 3 (0, 0)) :: pt pb2 (.cells #[.slice a_v0 y2.length c_v0] 22 (0, 0)) :: pt pb3 (.cells #[.slice a_v1 y3.length c_v1] 22 (0, 0)) :: pt pb4 (.cells #[.slice a_y4_0 y4.length c_y4_0] 22 (0, 0)) :: pt pb5 (.cells #[.slice a_y5_0 y5.length c_y5_0] 22 (0, 0)) :: pt pb6 (.cells #[.func (.func 65) #[] #[.pointer (some ⟨pb0, 0, none⟩), .pointer (some ⟨pb1, 0, none⟩), .pointer (some ⟨pb2, 0, none⟩), .pointer (some ⟨pb3, 0, none⟩), .pointer (some ⟨pb4, 0, none⟩), .pointer (some ⟨pb5, 0, none⟩), .pointer (some ⟨pb6, 0, none⟩)]] 103 (0, 0)) :: vecC 3 1 a_v0 c_v0 y2.length cs_v0 :: vecC 3 1 a_v1 c_v1 y3.length cs_v1 :: R)) mixed (by kernel_rfl) hS.drew ?_
    refine QL.v hE (runs_plain rfl) (Gives.loadBA hE 0 rfl rfl ty50) rfl ?_; clear hE a; intro a hE
    refine QL.v hE (runs_plain rfl) (Gives.p hE rfl) rfl ?_; clear hE a; intro a hE
    obtain ⟨x81, hx82, hr⟩ := bindS hr
    obtain ⟨b83, o84, cs85, rfl, hl86, hR87, hat88⟩ := h1.at hx82
    obtain ⟨a89, c90, a92, c93, a95, c96, rfl, h91, h94, h97⟩ := hR87
    refine QL.v hE (runs_plain rfl) (Gives.nilOk hE rfl) rfl ?_; clear hE a; intro a hE
    refine QL.v hE (runs_plain rfl) (Gives.fld hE rfl fl105_0) rfl ?_; clear hE a; intro a hE
    refine QL.v hE (runs_plain rfl) (Gives.load1 hE rfl (fun w h => (hat88 w _ h).one rfl) ty22) rfl ?_; clear hE a; intro a hE
    obtain ⟨q98, hq99, hr⟩ := bindS hr
    refine QL.fnq hE (fun w hS => Menddelay_ok hS h_y0_0 h_y0_1 h_y0_2 h_y0_3 h_y0_4 h91 hq99) (runs_plain rfl) bd66 rfl rfl rfl ?_; clear hE a; intro a hE
    refine QL.v hE (runs_plain rfl) (Gives.p hE rfl) rfl ?_; clear hE a; intro a hE
    refine QL.nil ?_; clear hS w; intro w hS
    refine W.seq ?_
    refine W.seq ?_
    obtain ⟨q101, hq100, hr⟩ := bndS hr
    refine W.cut (fun a w => ∃ (q104 : Bool), q104 = q101 ∧ Rep a 78 [(0, .int .i64 x0), (1, .pointer (some ⟨b83, o84, none⟩)), (2, .pointer (some ⟨pb0, 0, none⟩)), (3, .pointer (some ⟨pb1, 0, none⟩)), (4, .pointer (some ⟨pb2, 0, none⟩)), (5, .pointer (some ⟨pb3, 0, none⟩)), (6, .pointer (some ⟨pb4, 0, none⟩)), (7, .pointer (some ⟨pb5, 0, none⟩)), (8, .pointer (some ⟨pb6, 0, none⟩)), (11, .int .i64 q98), (29, .bool q104)] ∧ St w s (pt pb0 (.cells #[.slice a_y0_0 y0.Ready.length c_y0_0, .slice a_y0_1 y0.Last.length c_y0_1, .slice a_y0_2 y0.Due.length c_y0_2, .slice a_y0_3 y0.Arcs.length c_y0_3, .slice a_y0_4 y0.Choices.length c_y0_4] 50 (0, 0)) :: pt pb1 (.cells #[.int .i64 y1] 3 (0, 0)) :: pt pb2 (.cells #[.slice a_v0 y2.length c_v0] 22 (0, 0)) :: pt pb3 (.cells #[.slice a_v1 y3.length c_v1] 22 (0, 0)) :: pt pb4 (.cells #[.slice a_y4_0 y4.length c_y4_0] 22 (0, 0)) :: pt pb5 (.cells #[.slice a_y5_0 y5.length c_y5_0] 22 (0, 0)) :: pt pb6 (.cells #[.func (.func 65) #[] #[.pointer (some ⟨pb0, 0, none⟩), .pointer (some ⟨pb1, 0, none⟩), .pointer (some ⟨pb2, 0, none⟩), .pointer (some ⟨pb3, 0, none⟩), .pointer (some ⟨pb4, 0, none⟩), .pointer (some ⟨pb5, 0, none⟩), .pointer (some ⟨pb6, 0, none⟩)]] 103 (0, 0)) :: vecC 3 1 a_v0 c_v0 y2.length cs_v0 :: vecC 3 1 a_v1 c_v1 y3.length cs_v1 :: R)) ?_ ?_
    · refine W.gen fun K105 hK105 => ?_
      refine W.region ?_
      refine WL.vS hS hE (runs_plain rfl) (Gives.loadB hE 1 rfl rfl rfl ty3) rfl ?_; clear hE a; intro a hE
      refine WL.vS hS hE (runs_plain rfl) (Gives.p hE rfl) rfl ?_; clear hE a; intro a hE
      refine WL.vS hS hE (runs_plain rfl) (Gives.p hE rfl) rfl ?_; clear hE a; intro a hE
      rcases Bool.eq_false_or_eq_true (decide (y1 ≥ 0)) with hg106 | hg106
      · replace hq100 := iteT hg106 hq100
        refine WL.vS hS hE (runs_if hE rfl rfl rfl hg106) (Gives.p hE rfl) rfl ?_; clear hE a; intro a hE
        refine WL.vS hS hE (runs_if hE rfl rfl rfl hg106) (Gives.loadB hE 1 rfl rfl rfl ty3) rfl ?_; clear hE a; intro a hE
        refine WL.vS hS hE (runs_if hE rfl rfl rfl hg106) (Gives.p hE rfl) rfl ?_; clear hE a; intro a hE
        refine WL.vS hS hE (runs_plain rfl) (Gives.pickT hE rfl hg106 rfl) rfl ?_; clear hE a; intro a hE
        refine WL.nil ?_
        subst hK105
        exact ⟨decide (q98 ≥ y1), hq100, hE.pick _ ⟨rfl, rfl, rfl, rfl, rfl, rfl, rfl, rfl, rfl, rfl, rfl, trivial⟩, hS⟩
      · replace hq100 := iteF hg106 hq100
        refine WL.no hE (runs_not hE rfl rfl rfl (by rw [hg106]; decide)) rfl ?_; clear hE a; intro a hE
        refine WL.no hE (runs_not hE rfl rfl rfl (by rw [hg106]; decide)) rfl ?_; clear hE a; intro a hE
        refine WL.no hE (runs_not hE rfl rfl rfl (by rw [hg106]; decide)) rfl ?_; clear hE a; intro a hE
        refine WL.vS hS hE (runs_plain rfl) (Gives.pickF hE rfl hg106 rfl) rfl ?_; clear hE a; intro a hE
        refine WL.nil ?_
        subst hK105
        exact ⟨false, hq100, hE.pick _ ⟨rfl, rfl, rfl, rfl, rfl, rfl, rfl, rfl, rfl, rfl, rfl, trivial⟩, hS⟩
    · clear hE hS a w; rintro a w ⟨q104, rfl, hE, hS⟩
      refine W.cond hE rfl (fun hc107 => ?_) (fun hc107 => ?_)
      · replace hr := iteT hc107 hr
        refine W.ret ?_
        refine finG (fn := Try.f65) (rs := []) (vs := []) hE rfl trivial ?_
        obtain rfl := Option.some.inj hr
        exact ⟨cs_v1, a_y4_0, c_y4_0, a_y5_0, c_y5_0, s, rfl, (Sg.Le.refl _), h_v1, (rfl), h_y4_0, h_y5_0, hS⟩
      · replace hr := iteF hc107 hr
        refine W.skip ?_
        refine W.seq ?_
        refine W.seq ?_
        refine W.region ?_
        refine WL.vS hS hE (runs_plain rfl) (Gives.p hE rfl) rfl ?_; clear hE a; intro a hE
        refine WL.vS hS hE (runs_plain rfl) (Gives.loadB hE 2 rfl rfl rfl ty22) rfl ?_; clear hE a; intro a hE
        refine WL.vS hS hE (runs_plain rfl) (Gives.len hE rfl sl22) rfl ?_; clear hE a; intro a hE
        refine WL.vS hS hE (runs_plain rfl) (Gives.p hE rfl) rfl ?_; clear hE a; intro a hE
        refine WL.nil ?_
        refine W.cond hE rfl (fun hc108 => ?_) (fun hc108 => ?_)
        · replace hr := iteT hc108 hr
          refine W.seq ?_
          refine W.gen fun K109 hK109 => ?_
          refine W.regionE (sel (fun w => St w s (pt pb0 (.cells #[.slice a_y0_0 y0.Ready.length c_y0_0, .slice a_y0_1 y0.Last.length c_y0_1, .slice a_y0_2 y0.Due.length c_y0_2, .slice a_y0_3 y0.Arcs.length c_y0_3, .slice a_y0_4 y0.Choices.length c_y0_4] 50 (0, 0)) :: pt pb1 (.cells #[.int .i64 y1] 3 (0, 0)) :: pt pb2 (.cells #[.slice a_v0 y2.length c_v0] 22 (0, 0)) :: pt pb3 (.cells #[.slice a_v1 y3.length c_v1] 22 (0, 0)) :: pt pb4 (.cells #[.slice a_y4_0 y4.length c_y4_0] 22 (0, 0)) :: pt pb5 (.cells #[.slice a_y5_0 y5.length c_y5_0] 22 (0, 0)) :: pt pb6 (.cells #[.func (.func 65) #[] #[.pointer (some ⟨pb0, 0, none⟩), .pointer (some ⟨pb1, 0, none⟩), .pointer (some ⟨pb2, 0, none⟩), .pointer (some ⟨pb3, 0, none⟩), .pointer (some ⟨pb4, 0, none⟩), .pointer (some ⟨pb5, 0, none⟩), .pointer (some ⟨pb6, 0, none⟩)]] 103 (0, 0)) :: vecC 3 1 a_v0 c_v0 y2.length cs_v0 :: vecC 3 1 a_v1 c_v1 y3.length cs_v1 :: R)) (fun w => St w s (pt pb0 (.cells #[.slice a_y0_0 y0.Ready.length c_y0_0, .slice a_y0_1 y0.Last.length c_y0_1, .slice a_y0_2 y0.Due.length c_y0_2, .slice a_y0_3 y0.Arcs.length c_y0_3, .slice a_y0_4 y0.Choices.length c_y0_4] 50 (0, 0)) :: pt pb2 (.cells #[.slice a_v0 y2.length c_v0] 22 (0, 0)) :: pt pb3 (.cells #[.slice a_v1 y3.length c_v1] 22 (0, 0)) :: pt pb6 (.cells #[.func (.func 65) #[] #[.pointer (some ⟨pb0, 0, none⟩), .pointer (some ⟨pb1, 0, none⟩), .pointer (some ⟨pb2, 0, none⟩), .pointer (some ⟨pb3, 0, none⟩), .pointer (some ⟨pb4, 0, none⟩), .pointer (some ⟨pb5, 0, none⟩), .pointer (some ⟨pb6, 0, none⟩)]] 103 (0, 0)) :: vecC 3 1 a_v0 c_v0 y2.length cs_v0 :: vecC 3 1 a_v1 c_v1 y3.length cs_v1 :: R))) (fun b i => cond b ([0, 1, 2, 3, 4, 5, 6].contains i) ([0, 1, 2, 3, 4, 5, 6, 7, 8, 9].contains i)) mixed ?_
          replace hS := hS.drew
          have hT := tw_sel (A := fun w => St w s (pt pb0 (.cells #[.slice a_y0_0 y0.Ready.length c_y0_0, .slice a_y0_1 y0.Last.length c_y0_1, .slice a_y0_2 y0.Due.length c_y0_2, .slice a_y0_3 y0.Arcs.length c_y0_3, .slice a_y0_4 y0.Choices.length c_y0_4] 50 (0, 0)) :: pt pb1 (.cells #[.int .i64 y1] 3 (0, 0)) :: pt pb2 (.cells #[.slice a_v0 y2.length c_v0] 22 (0, 0)) :: pt pb3 (.cells #[.slice a_v1 y3.length c_v1] 22 (0, 0)) :: pt pb4 (.cells #[.slice a_y4_0 y4.length c_y4_0] 22 (0, 0)) :: pt pb5 (.cells #[.slice a_y5_0 y5.length c_y5_0] 22 (0, 0)) :: pt pb6 (.cells #[.func (.func 65) #[] #[.pointer (some ⟨pb0, 0, none⟩), .pointer (some ⟨pb1, 0, none⟩), .pointer (some ⟨pb2, 0, none⟩), .pointer (some ⟨pb3, 0, none⟩), .pointer (some ⟨pb4, 0, none⟩), .pointer (some ⟨pb5, 0, none⟩), .pointer (some ⟨pb6, 0, none⟩)]] 103 (0, 0)) :: vecC 3 1 a_v0 c_v0 y2.length cs_v0 :: vecC 3 1 a_v1 c_v1 y3.length cs_v1 :: R)) (B := fun w => St w s (pt pb0 (.cells #[.slice a_y0_0 y0.Ready.length c_y0_0, .slice a_y0_1 y0.Last.length c_y0_1, .slice a_y0_2 y0.Due.length c_y0_2, .slice a_y0_3 y0.Arcs.length c_y0_3, .slice a_y0_4 y0.Choices.length c_y0_4] 50 (0, 0)) :: pt pb2 (.cells #[.slice a_v0 y2.length c_v0] 22 (0, 0)) :: pt pb3 (.cells #[.slice a_v1 y3.length c_v1] 22 (0, 0)) :: pt pb6 (.cells #[.func (.func 65) #[] #[.pointer (some ⟨pb0, 0, none⟩), .pointer (some ⟨pb1, 0, none⟩), .pointer (some ⟨pb2, 0, none⟩), .pointer (some ⟨pb3, 0, none⟩), .pointer (some ⟨pb4, 0, none⟩), .pointer (some ⟨pb5, 0, none⟩), .pointer (some ⟨pb6, 0, none⟩)]] 103 (0, 0)) :: vecC 3 1 a_v0 c_v0 y2.length cs_v0 :: vecC 3 1 a_v1 c_v1 y3.length cs_v1 :: R)) (w := _) (x := true) (y := true) (fun _ => hS) (fun _ => (((hS.dropAt 1).dropAt 3).dropAt 3))
          have hF := hS; replace hS := hS
          refine Rg.take (i := 0) true rfl hE rfl (by kernel_rfl) (runs_plain rfl) (Gives.loadB hE 3 rfl rfl rfl ty22) rfl hT ?_; clear hE a; intro a hE
          replace hS := hF; clear hF hT
          refine Rg.takeP (i := 2) hE rfl (by kernel_rfl) (runs_plain rfl) (Gives.p hE rfl) rfl (tw_sel (fun _ => hS) (fun _ => (((hS.dropAt 1).dropAt 3).dropAt 3))) ?_; clear hE a; intro a hE
          have hT := tw_sel (A := fun w => St w s (pt pb0 (.cells #[.slice a_y0_0 y0.Ready.length c_y0_0, .slice a_y0_1 y0.Last.length c_y0_1, .slice a_y0_2 y0.Due.length c_y0_2, .slice a_y0_3 y0.Arcs.length c_y0_3, .slice a_y0_4 y0.Choices.length c_y0_4] 50 (0, 0)) :: pt pb1 (.cells #[.int .i64 y1] 3 (0, 0)) :: pt pb2 (.cells #[.slice a_v0 y2.length c_v0] 22 (0, 0)) :: pt pb3 (.cells #[.slice a_v1 y3.length c_v1] 22 (0, 0)) :: pt pb4 (.cells #[.slice a_y4_0 y4.length c_y4_0] 22 (0, 0)) :: pt pb5 (.cells #[.slice a_y5_0 y5.length c_y5_0] 22 (0, 0)) :: pt pb6 (.cells #[.func (.func 65) #[] #[.pointer (some ⟨pb0, 0, none⟩), .pointer (some ⟨pb1, 0, none⟩), .pointer (some ⟨pb2, 0, none⟩), .pointer (some ⟨pb3, 0, none⟩), .pointer (some ⟨pb4, 0, none⟩), .pointer (some ⟨pb5, 0, none⟩), .pointer (some ⟨pb6, 0, none⟩)]] 103 (0, 0)) :: vecC 3 1 a_v0 c_v0 y2.length cs_v0 :: vecC 3 1 a_v1 c_v1 y3.length cs_v1 :: R)) (B := fun w => St w s (pt pb0 (.cells #[.slice a_y0_0 y0.Ready.length c_y0_0, .slice a_y0_1 y0.Last.length c_y0_1, .slice a_y0_2 y0.Due.length c_y0_2, .slice a_y0_3 y0.Arcs.length c_y0_3, .slice a_y0_4 y0.Choices.length c_y0_4] 50 (0, 0)) :: pt pb2 (.cells #[.slice a_v0 y2.length c_v0] 22 (0, 0)) :: pt pb3 (.cells #[.slice a_v1 y3.length c_v1] 22 (0, 0)) :: pt pb6 (.cells #[.func (.func 65) #[] #[.pointer (some ⟨pb0, 0, none⟩), .pointer (some ⟨pb1, 0, none⟩), .pointer (some ⟨pb2, 0, none⟩), .pointer (some ⟨pb3, 0, none⟩), .pointer (some ⟨pb4, 0, none⟩), .pointer (some ⟨pb5, 0, none⟩), .pointer (some ⟨pb6, 0, none⟩)]] 103 (0, 0)) :: vecC 3 1 a_v0 c_v0 y2.length cs_v0 :: vecC 3 1 a_v1 c_v1 y3.length cs_v1 :: R)) (w := _) (x := true) (y := true) (fun _ => hS) (fun _ => (((hS.dropAt 1).dropAt 3).dropAt 3))
          have hF := hS; replace hS := (((hS.dropAt 1).dropAt 3).dropAt 3)
          refine Rg.take (i := 3) false rfl hE rfl (by kernel_rfl) (runs_plain rfl) (Gives.nilOk hE rfl) rfl hT ?_; clear hE a; intro a hE
          replace hS := hF; clear hF hT
          refine Rg.takeP (i := 4) hE rfl (by kernel_rfl) (runs_plain rfl) (Gives.fld hE rfl fl105_0) rfl (tw_sel (fun _ => hS) (fun _ => (((hS.dropAt 1).dropAt 3).dropAt 3))) ?_; clear hE a; intro a hE
          have hT := tw_sel (A := fun w => St w s (pt pb0 (.cells #[.slice a_y0_0 y0.Ready.length c_y0_0, .slice a_y0_1 y0.Last.length c_y0_1, .slice a_y0_2 y0.Due.length c_y0_2, .slice a_y0_3 y0.Arcs.length c_y0_3, .slice a_y0_4 y0.Choices.length c_y0_4] 50 (0, 0)) :: pt pb1 (.cells #[.int .i64 y1] 3 (0, 0)) :: pt pb2 (.cells #[.slice a_v0 y2.length c_v0] 22 (0, 0)) :: pt pb3 (.cells #[.slice a_v1 y3.length c_v1] 22 (0, 0)) :: pt pb4 (.cells #[.slice a_y4_0 y4.length c_y4_0] 22 (0, 0)) :: pt pb5 (.cells #[.slice a_y5_0 y5.length c_y5_0] 22 (0, 0)) :: pt pb6 (.cells #[.func (.func 65) #[] #[.pointer (some ⟨pb0, 0, none⟩), .pointer (some ⟨pb1, 0, none⟩), .pointer (some ⟨pb2, 0, none⟩), .pointer (some ⟨pb3, 0, none⟩), .pointer (some ⟨pb4, 0, none⟩), .pointer (some ⟨pb5, 0, none⟩), .pointer (some ⟨pb6, 0, none⟩)]] 103 (0, 0)) :: vecC 3 1 a_v0 c_v0 y2.length cs_v0 :: vecC 3 1 a_v1 c_v1 y3.length cs_v1 :: R)) (B := fun w => St w s (pt pb0 (.cells #[.slice a_y0_0 y0.Ready.length c_y0_0, .slice a_y0_1 y0.Last.length c_y0_1, .slice a_y0_2 y0.Due.length c_y0_2, .slice a_y0_3 y0.Arcs.length c_y0_3, .slice a_y0_4 y0.Choices.length c_y0_4] 50 (0, 0)) :: pt pb2 (.cells #[.slice a_v0 y2.length c_v0] 22 (0, 0)) :: pt pb3 (.cells #[.slice a_v1 y3.length c_v1] 22 (0, 0)) :: pt pb6 (.cells #[.func (.func 65) #[] #[.pointer (some ⟨pb0, 0, none⟩), .pointer (some ⟨pb1, 0, none⟩), .pointer (some ⟨pb2, 0, none⟩), .pointer (some ⟨pb3, 0, none⟩), .pointer (some ⟨pb4, 0, none⟩), .pointer (some ⟨pb5, 0, none⟩), .pointer (some ⟨pb6, 0, none⟩)]] 103 (0, 0)) :: vecC 3 1 a_v0 c_v0 y2.length cs_v0 :: vecC 3 1 a_v1 c_v1 y3.length cs_v1 :: R)) (w := _) (x := true) (y := true) (fun _ => hS) (fun _ => (((hS.dropAt 1).dropAt 3).dropAt 3))
          have hF := hS; replace hS := (((hS.dropAt 1).dropAt 3).dropAt 3)
          refine Rg.take (i := 5) false rfl hE rfl (by kernel_rfl) (runs_plain rfl) (Gives.load1 hE rfl (fun w h => (hat88 w _ h).one rfl) ty22) rfl hT ?_; clear hE a; intro a hE
          replace hS := hF; clear hF hT
          refine Rg.takeP (i := 6) hE rfl (by kernel_rfl) (runs_plain rfl) (Gives.p hE rfl) rfl (tw_sel (fun _ => hS) (fun _ => (((hS.dropAt 1).dropAt 3).dropAt 3))) ?_; clear hE a; intro a hE
          refine Rg.one (i := 1) true true rfl (by kernel_rfl) (by kernel_rfl) (by kernel_rfl) ?_
          obtain ⟨q110, hq111, hr⟩ := bindS hr
          have hF := hS.lendV RI.mono 8 rfl h_v1 (rfl); clear hS; obtain ⟨t118, hle119, hS, hs120, bk121⟩ := hF
          have hc_ := SlicesCloneLint_ok hS hs120 hq111
          refine WL.fnq hE (hc_) (runs_plain rfl) bd67 rfl rfl rfl ?_
          clear hE hS hc_; rintro e w ⟨a112, c113, n114, cs115, rfl, h116, rfl, hS⟩; refine ⟨_, rfl, ?_⟩; clear a; intro a hE
          replace hS := bk121 _ _ hS
          replace h116 := Ev.flat (s2 := s) (fun _ _ _ _ h => h) h116
          refine WL.nil ?_
          refine ⟨⟨fun _ => (St.front (St.front (St.front (St.front (St.front (St.front (St.front (St.front (hS.dropAt 1) 8 rfl) 8 rfl) 8 rfl) 8 rfl) 8 rfl) 8 rfl) 8 rfl) 8 rfl), fun _ => (St.front (St.front (St.front (St.front (St.front ((((hS.dropAt 1).dropAt 2).dropAt 4).dropAt 4) 5 rfl) 5 rfl) 5 rfl) 5 rfl) 5 rfl)⟩, ?_⟩
          refine Rg.one (i := 7) false true rfl (by kernel_rfl) (by kernel_rfl) (by kernel_rfl) ?_
          refine WL.storeI hE hS 6 rfl [.slice a112 q110.length c113] (runs_plain rfl) rfl rfl rfl ty22 rfl rfl rfl rfl ?_; clear hE hS a w; intro a w hE hS
          refine WL.nil ?_
          refine ⟨⟨fun h => absurd h (by decide), fun _ => (St.front (St.front (St.front (St.front (St.front ((((hS.dropAt 1).dropAt 2).dropAt 4).dropAt 4) 5 rfl) 5 rfl) 5 rfl) 5 rfl) 5 rfl)⟩, ?_⟩
          refine Rg.one (i := 8) false true rfl (by kernel_rfl) (by kernel_rfl) (by kernel_rfl) ?_
          refine WL.storeI hE hS 7 rfl [.slice a89 x81.times.length c90] (runs_plain rfl) rfl rfl rfl ty22 rfl rfl rfl rfl ?_; clear hE hS a w; intro a w hE hS
          refine WL.nil ?_
          refine ⟨⟨fun h => absurd h (by decide), fun _ => (St.front (St.front (St.front (St.front (St.front ((((hS.dropAt 1).dropAt 2).dropAt 4).dropAt 4) 5 rfl) 5 rfl) 5 rfl) 5 rfl) 5 rfl)⟩, ?_⟩
          refine Rg.one (i := 9) false true rfl (by kernel_rfl) (by kernel_rfl) (by kernel_rfl) ?_
          refine WL.storeI hE hS 3 rfl [.int .i64 q98] (runs_plain rfl) rfl rfl rfl ty3 rfl rfl rfl rfl ?_; clear hE hS a w; intro a w hE hS
          refine WL.nil ?_
          refine ⟨⟨fun h => absurd h (by decide), fun _ => (St.front (St.front (St.front (St.front (St.front ((((hS.dropAt 1).dropAt 2).dropAt 4).dropAt 4) 5 rfl) 5 rfl) 5 rfl) 5 rfl) 5 rfl)⟩, ?_⟩
          refine Rg.done (by kernel_rfl) ?_
          subst hK109
          refine W.ret ?_
          have hF := hS.fixD RI.mono 1 rfl h116 rfl; clear hS; obtain ⟨s122, hle123, hS, h124⟩ := hF
          replace h1 := Pt.mono RMendSolver.mono hle123 h1
          replace h91 := Sl.mono RI.mono hle123 h91
          replace h_v1 := Ev.mono RI.mono hle123 h_v1
          replace h_y0_0 := Sl.mono RI.mono hle123 h_y0_0
          replace h_y0_1 := Sl.mono RI.mono hle123 h_y0_1
          replace h_y0_2 := Sl.mono RI.mono hle123 h_y0_2
          replace h_y0_3 := Sl.mono RMendArc.mono hle123 h_y0_3
          replace h_y0_4 := Sl.mono RMendChoice.mono hle123 h_y0_4
          replace h_v0 := Ev.mono RI.mono hle123 h_v0
          refine finG (fn := Try.f65) (rs := []) (vs := []) hE rfl trivial ?_
          obtain rfl := Option.some.inj hr
          replace hS := hS.front 8 rfl
          replace hS := hS.front 8 rfl
          replace hS := hS.front 8 rfl
          replace hS := hS.front 8 rfl
          replace hS := hS.front 8 rfl
          replace hS := hS.front 8 rfl
          replace hS := hS.front 8 rfl
          replace hS := hS.front 8 rfl
          exact ⟨cs_v1, a112, c113, a89, c90, s122, rfl, hle123, h_v1, (rfl), h124, h91, hS⟩
        · replace hr := iteF hc108 hr
          refine W.skip ?_
          refine W.seq ?_
          refine W.region ?_
          refine WL.vS hS hE (runs_plain rfl) (Gives.loadB hE 2 rfl rfl rfl ty22) rfl ?_; clear hE a; intro a hE
          refine WL.vS hS hE (runs_plain rfl) (Gives.p hE rfl) rfl ?_; clear hE a; intro a hE
          obtain ⟨x125, hx126, hr⟩ := bindS hr
          obtain ⟨hi127, hlt128, hy129⟩ := gx_some hx126
          obtain ⟨vs130, hl131, hR132, hd133, hget134⟩ := h_v0.at hy129
          subst hR132
          refine WL.vS hS hE (runs_plain rfl) (Gives.idx hE ((x0).toNat) rfl rfl sl22 hi127 (by omega) (hS.vecAok 7 rfl (by omega : (x0).toNat < y2.length))) rfl ?_; clear hE a; intro a hE
          refine WL.vS hS hE (runs_plain rfl) (Gives.load1 hE rfl (fun w h => St.vecSees h 7 rfl ((x0).toNat * 1) _ hget134) ty3) rfl ?_; clear hE a; intro a hE
          refine WL.vS hS hE (runs_plain rfl) (Gives.p hE rfl) rfl ?_; clear hE a; intro a hE
          refine WL.nil ?_
          refine W.seq ?_
          refine W.seq ?_
          refine W.region ?_
          refine WL.vS hS hE (runs_plain rfl) (Gives.fld hE rfl fl50_4) rfl ?_; clear hE a; intro a hE
          refine WL.vS hS hE (runs_plain rfl) (Gives.loadB hE 0 rfl rfl rfl ty48) rfl ?_; clear hE a; intro a hE
          refine WL.vS hS hE (runs_plain rfl) (Gives.p hE rfl) rfl ?_; clear hE a; intro a hE
          obtain ⟨x135, hx136, hr⟩ := bindS hr
          obtain ⟨hi137, hlt138, hy139⟩ := gx_some hx136
          obtain ⟨cs140, hl141, hR142, hat143⟩ := h_y0_4.at hy139
          obtain ⟨a144, c145, rfl, h146⟩ := hR142
          refine WL.vS hS hE (runs_plain rfl) (Gives.idx hE (x125).toNat rfl rfl sl48 hi137 hlt138 (h_y0_4.aok hlt138)) rfl ?_; clear hE a; intro a hE
          refine WL.vS hS hE (runs_plain rfl) (Gives.fld hE rfl fl97_0) rfl ?_; clear hE a; intro a hE
          refine WL.vS hS hE (runs_plain rfl) (Gives.load1 hE rfl (fun w h => hat143 w _ h) ty95) rfl ?_; clear hE a; intro a hE
          refine WL.vS hS hE (runs_plain rfl) (Gives.len hE rfl sl95) rfl ?_; clear hE a; intro a hE
          refine WL.vS hS hE (runs_plain rfl) (Gives.p hE rfl) rfl ?_; clear hE a; intro a hE
          refine WL.nil ?_
          obtain ⟨q148, hq147, hr⟩ := bindS hr
          refine W.cut (fun a w => ∃ (q158 : List Int), ∃ (q164 : Int), ∃ (q165 : List Int), ∃ (q169 : List Int), ∃ (cs162 : List Value), ∃ (a166 : Option Addr), ∃ (c167 : Nat), ∃ (a170 : Option Addr), ∃ (c171 : Nat), ∃ (s156 : Sg), s.Le s156 ∧ (q158, q164, q165, q169) = q148 ∧ Ev 1 (RI .i64) s156 cs162 q158 ∧ q158.length = y3.length ∧ Sl 1 (RI .i64) s156 a166 c167 q165 ∧ Sl 1 (RI .i64) s156 a170 c171 q169 ∧ Rep a 78 [(5, .pointer (some ⟨pb3, 0, none⟩)), (12, .int .i64 x125)] ∧ St w s156 (pt pb0 (.cells #[.slice a_y0_0 y0.Ready.length c_y0_0, .slice a_y0_1 y0.Last.length c_y0_1, .slice a_y0_2 y0.Due.length c_y0_2, .slice a_y0_3 y0.Arcs.length c_y0_3, .slice a_y0_4 y0.Choices.length c_y0_4] 50 (0, 0)) :: pt pb1 (.cells #[.int .i64 q164] 3 (0, 0)) :: pt pb2 (.cells #[.slice a_v0 y2.length c_v0] 22 (0, 0)) :: pt pb3 (.cells #[.slice a_v1 y3.length c_v1] 22 (0, 0)) :: pt pb4 (.cells #[.slice a166 q165.length c167] 22 (0, 0)) :: pt pb5 (.cells #[.slice a170 q169.length c171] 22 (0, 0)) :: pt pb6 (.cells #[.func (.func 65) #[] #[.pointer (some ⟨pb0, 0, none⟩), .pointer (some ⟨pb1, 0, none⟩), .pointer (some ⟨pb2, 0, none⟩), .pointer (some ⟨pb3, 0, none⟩), .pointer (some ⟨pb4, 0, none⟩), .pointer (some ⟨pb5, 0, none⟩), .pointer (some ⟨pb6, 0, none⟩)]] 103 (0, 0)) :: vecC 3 1 a_v0 c_v0 y2.length cs_v0 :: vecC 3 1 a_v1 c_v1 y3.length cs162 :: R)) ?_ ?_
          · refine W.block ?_
            refine W.loop (fun m a w => ∃ (rest151 : List (List MendArc)) (k149 : Nat), ∃ (q158 : List Int), ∃ (q164 : Int), ∃ (q165 : List Int), ∃ (q169 : List Int), ∃ (cs162 : List Value), ∃ (a166 : Option Addr), ∃ (c167 : Nat), ∃ (a170 : Option Addr), ∃ (c171 : Nat), ∃ (s156 : Sg), rest151.length = m ∧ x135.Ways.drop k149 = rest151 ∧ s.Le s156 ∧ MendBest_1_v1.loop1 x0 x1 y0 y2 fu self_MendBest_1_v1 x125 rest151 k149 q158 q164 q165 q169 = some q148 ∧ Ev 1 (RI .i64) s156 cs162 q158 ∧ q158.length = y3.length ∧ Sl 1 (RI .i64) s156 a166 c167 q165 ∧ Sl 1 (RI .i64) s156 a170 c171 q169 ∧ Rep a 78 [(0, .int .i64 x0), (1, .pointer (some ⟨b83, o84, none⟩)), (5, .pointer (some ⟨pb3, 0, none⟩)), (8, .pointer (some ⟨pb6, 0, none⟩)), (12, .int .i64 x125), (50, .slice a144 x135.Ways.length c145), (51, .int .i64 ((x135.Ways).length : Int)), (52, .int .i64 ((k149 : Nat) : Int))] ∧ St w s156 (pt pb0 (.cells #[.slice a_y0_0 y0.Ready.length c_y0_0, .slice a_y0_1 y0.Last.length c_y0_1, .slice a_y0_2 y0.Due.length c_y0_2, .slice a_y0_3 y0.Arcs.length c_y0_3, .slice a_y0_4 y0.Choices.length c_y0_4] 50 (0, 0)) :: pt pb1 (.cells #[.int .i64 q164] 3 (0, 0)) :: pt pb2 (.cells #[.slice a_v0 y2.length c_v0] 22 (0, 0)) :: pt pb3 (.cells #[.slice a_v1 y3.length c_v1] 22 (0, 0)) :: pt pb4 (.cells #[.slice a166 q165.length c167] 22 (0, 0)) :: pt pb5 (.cells #[.slice a170 q169.length c171] 22 (0, 0)) :: pt pb6 (.cells #[.func (.func 65) #[] #[.pointer (some ⟨pb0, 0, none⟩), .pointer (some ⟨pb1, 0, none⟩), .pointer (some ⟨pb2, 0, none⟩), .pointer (some ⟨pb3, 0, none⟩), .pointer (some ⟨pb4, 0, none⟩), .pointer (some ⟨pb5, 0, none⟩), .pointer (some ⟨pb6, 0, none⟩)]] 103 (0, 0)) :: vecC 3 1 a_v0 c_v0 y2.length cs_v0 :: vecC 3 1 a_v1 c_v1 y3.length cs162 :: R)) (m := x135.Ways.length) ⟨x135.Ways, 0, y3, y1, y4, y5, cs_v1, a_y4_0, c_y4_0, a_y5_0, c_y5_0, s, rfl, rfl, (Sg.Le.refl _), hq147, h_v1, (rfl), h_y4_0, h_y5_0, hE.pick _ ⟨rfl, rfl, rfl, rfl, rfl, rfl, rfl, rfl, trivial⟩, hS⟩ ?_
            clear hE hS a w hq147; rintro m155 a w ⟨rest151, k149, q158, q164, q165, q169, cs162, a166, c167, a170, c171, s156, rfl, hd152, hle157, hq147, h161, hn163, h168, h172, hE, hS⟩
            refine W.gen fun K173 hK173 => ?_
            replace h1 := Pt.mono RMendSolver.mono hle157 h1
            replace h_y0_4 := Sl.mono RMendChoice.mono hle157 h_y0_4
            replace h146 := Sl.mono (RL.mono RMendArc.mono) hle157 h146
            replace h_y0_0 := Sl.mono RI.mono hle157 h_y0_0
            replace h_y0_1 := Sl.mono RI.mono hle157 h_y0_1
            replace h_y0_2 := Sl.mono RI.mono hle157 h_y0_2
            replace h_y0_3 := Sl.mono RMendArc.mono hle157 h_y0_3
            replace h_y4_0 := Sl.mono RI.mono hle157 h_y4_0
            replace h_y5_0 := Sl.mono RI.mono hle157 h_y5_0
            replace h_v0 := Ev.mono RI.mono hle157 h_v0
            replace h_v1 := Ev.mono RI.mono hle157 h_v1
            rcases rest151 with _ | ⟨x150, rest151⟩
            · have hlt153 := drop_nil hd152
              refine W.seq ?_
              refine W.region ?_
              refine WL.vS hS hE (runs_plain rfl) (Gives.p hE rfl) rfl ?_; clear hE a; intro a hE
              refine WL.nil ?_
              refine W.seq ?_
              refine W.condF hE rfl (decide_eq_false (by omega)) ?_
              subst hK173
              refine W.exit rfl ?_
              exact ⟨q158, q164, q165, q169, cs162, a166, c167, a170, c171, s156, hle157, Option.some.inj hq147, h161, hn163, h168, h172, hE.pick _ ⟨rfl, rfl, trivial⟩, hS⟩
            · obtain ⟨hlt153, hx154, hd152⟩ := drop_cons hd152
              rw [MendBest_1_v1.loop1] at hq147
              refine W.seq ?_
              refine W.region ?_
              refine WL.vS hS hE (runs_plain rfl) (Gives.p hE rfl) rfl ?_; clear hE a; intro a hE
              refine WL.nil ?_
              refine W.seq ?_
              refine W.condT hE rfl (decide_eq_true (by omega)) ?_
              refine W.skip ?_
              refine W.seq ?_
              refine W.block ?_
              refine W.seq ?_
              refine W.region ?_
              refine WL.vS hS hE (runs_plain rfl) (Gives.p hE rfl) rfl ?_; clear hE a; intro a hE
              obtain ⟨cs174, hl175, hR176, hat177⟩ := h146.at hx154
              obtain ⟨a178, c179, rfl, h180⟩ := hR176
              refine WL.vS hS hE (runs_plain rfl) (Gives.idx hE k149 rfl rfl sl95 rfl hlt153 (h146.aok hlt153)) rfl ?_; clear hE a; intro a hE
              refine WL.vS hS hE (runs_plain rfl) (Gives.load1 hE rfl (fun w h => hat177 w _ h) ty47) rfl ?_; clear hE a; intro a hE
              refine WL.vS hS hE (runs_plain rfl) (Gives.p hE rfl) rfl ?_; clear hE a; intro a hE
              refine WL.vS hS hE (runs_plain rfl) (Gives.p hE rfl) rfl ?_; clear hE a; intro a hE
              refine WL.nil ?_
              refine W.seq ?_
              refine W.region ?_
              refine WL.vS hS hE (runs_plain rfl) (Gives.p hE rfl) rfl ?_; clear hE a; intro a hE
              refine WL.vS hS hE (runs_plain rfl) (Gives.p hE rfl) rfl ?_; clear hE a; intro a hE
              obtain ⟨q181, hq182, hq147⟩ := bindS hq147
              have hc_ := MendSolverwith_ok hS h1 h180 hq182
              refine WL.fnq hE (hc_) (runs_plain rfl) bd68 rfl rfl rfl ?_
              clear hE hS hc_; rintro e w ⟨a183, s185, rfl, hle186, h184, hS⟩; refine ⟨_, rfl, ?_⟩; clear a; intro a hE
              replace h1 := Pt.mono RMendSolver.mono hle186 h1
              replace h146 := Sl.mono (RL.mono RMendArc.mono) hle186 h146
              replace h180 := Sl.mono RMendArc.mono hle186 h180
              replace h_y0_0 := Sl.mono RI.mono hle186 h_y0_0
              replace h_y0_1 := Sl.mono RI.mono hle186 h_y0_1
              replace h_y0_2 := Sl.mono RI.mono hle186 h_y0_2
              replace h_y0_3 := Sl.mono RMendArc.mono hle186 h_y0_3
              replace h_y0_4 := Sl.mono RMendChoice.mono hle186 h_y0_4
              replace h168 := Sl.mono RI.mono hle186 h168
              replace h172 := Sl.mono RI.mono hle186 h172
              replace h_v0 := Ev.mono RI.mono hle186 h_v0
              replace h161 := Ev.mono RI.mono hle186 h161
              refine WL.vS hS hE (runs_plain rfl) (Gives.p hE rfl) rfl ?_; clear hE a; intro a hE
              refine WL.vS hS hE (runs_plain rfl) (Gives.p hE rfl) rfl ?_; clear hE a; intro a hE
              refine WL.vS hS hE (runs_plain rfl) (Gives.p hE rfl) rfl ?_; clear hE a; intro a hE
              refine WL.vS hS hE (runs_plain rfl) (Gives.p hE rfl) rfl ?_; clear hE a; intro a hE
              refine WL.vS hS hE (runs_plain rfl) (Gives.p hE rfl) rfl ?_; clear hE a; intro a hE
              refine WL.nil ?_
              refine W.seq ?_
              refine W.region ?_
              refine WL.vS hS hE (runs_plain rfl) (Gives.p hE rfl) rfl ?_; clear hE a; intro a hE
              refine WL.nil ?_
              obtain ⟨q188, hq187, hq147⟩ := bindS hq147
              refine W.cut (fun a w => ∃ (q191 : List Int), ∃ (q197 : Int), ∃ (q198 : List Int), ∃ (q202 : List Int), ∃ (cs195 : List Value), ∃ (a199 : Option Addr), ∃ (c200 : Nat), ∃ (a203 : Option Addr), ∃ (c204 : Nat), ∃ (s189 : Sg), s185.Le s189 ∧ (q191, q197, q198, q202) = q188 ∧ Ev 1 (RI .i64) s189 cs195 q191 ∧ q191.length = y3.length ∧ Sl 1 (RI .i64) s189 a199 c200 q198 ∧ Sl 1 (RI .i64) s189 a203 c204 q202 ∧ Rep a 78 [(0, .int .i64 x0), (1, .pointer (some ⟨b83, o84, none⟩)), (5, .pointer (some ⟨pb3, 0, none⟩)), (8, .pointer (some ⟨pb6, 0, none⟩)), (12, .int .i64 x125), (50, .slice a144 x135.Ways.length c145), (51, .int .i64 ((x135.Ways).length : Int)), (52, .int .i64 ((k149 : Nat) : Int))] ∧ St w s189 (pt pb0 (.cells #[.slice a_y0_0 y0.Ready.length c_y0_0, .slice a_y0_1 y0.Last.length c_y0_1, .slice a_y0_2 y0.Due.length c_y0_2, .slice a_y0_3 y0.Arcs.length c_y0_3, .slice a_y0_4 y0.Choices.length c_y0_4] 50 (0, 0)) :: pt pb1 (.cells #[.int .i64 q197] 3 (0, 0)) :: pt pb2 (.cells #[.slice a_v0 y2.length c_v0] 22 (0, 0)) :: pt pb3 (.cells #[.slice a_v1 y3.length c_v1] 22 (0, 0)) :: pt pb4 (.cells #[.slice a199 q198.length c200] 22 (0, 0)) :: pt pb5 (.cells #[.slice a203 q202.length c204] 22 (0, 0)) :: pt pb6 (.cells #[.func (.func 65) #[] #[.pointer (some ⟨pb0, 0, none⟩), .pointer (some ⟨pb1, 0, none⟩), .pointer (some ⟨pb2, 0, none⟩), .pointer (some ⟨pb3, 0, none⟩), .pointer (some ⟨pb4, 0, none⟩), .pointer (some ⟨pb5, 0, none⟩), .pointer (some ⟨pb6, 0, none⟩)]] 103 (0, 0)) :: vecC 3 1 a_v0 c_v0 y2.length cs_v0 :: vecC 3 1 a_v1 c_v1 y3.length cs195 :: R)) ?_ ?_
              · refine W.gen fun K206 hK206 => ?_
                refine W.cond hE rfl (fun hc207 => ?_) (fun hc207 => ?_)
                · replace hq187 := iteT hc207 hq187
                  refine W.seq ?_
                  refine W.region ?_
                  refine WL.vS hS hE (runs_plain rfl) (Gives.loadB hE 3 rfl rfl rfl ty22) rfl ?_; clear hE a; intro a hE
                  refine WL.vS hS hE (runs_plain rfl) (Gives.p hE rfl) rfl ?_; clear hE a; intro a hE
                  refine WL.vS hS hE (runs_plain rfl) (Gives.p hE rfl) rfl ?_; clear hE a; intro a hE
                  refine WL.vS hS hE (runs_plain rfl) (Gives.inc hE rfl (by have := h146.small; omega)) rfl ?_; clear hE a; intro a hE
                  obtain ⟨_, hx209, hq187⟩ := bindS hq187
                  obtain ⟨h210, h211⟩ := ix_some hx209
                  refine WL.vS hS hE (runs_plain rfl) (Gives.idx hE ((x125).toNat) rfl rfl sl22 h210 (by have := hn163; omega) (hS.vecAok 8 rfl (by have := hn163; omega : (x125).toNat < y3.length))) rfl ?_; clear hE a; intro a hE
                  obtain ⟨x213, hx214, hq187⟩ := bindS hq187
                  refine WL.setD hE hS 8 rfl (runs_plain rfl) rfl rfl (vs := [.int .i64 ((k149 + 1 : Nat) : Int)]) rfl ty3 rfl rfl rfl h161 hn163 (sx_some hx214).1 hx214 rfl rfl ?_; clear hE hS a w; intro cs215 a w h216 hn217 hE hS
                  refine WL.nil ?_
                  refine W.region ?_
                  refine WL.vS hS hE (runs_plain rfl) (Gives.loadB hE 6 rfl rfl rfl ty103) rfl ?_; clear hE a; intro a hE
                  refine WL.vS hS hE (runs_plain rfl) (Gives.p hE rfl) rfl ?_; clear hE a; intro a hE
                  refine WL.vS hS hE (runs_plain rfl) (Gives.p hE rfl) rfl ?_; clear hE a; intro a hE
                  refine WL.vS hS hE (runs_plain rfl) (Gives.p hE rfl) rfl ?_; clear hE a; intro a hE
                  obtain ⟨q218, hq219, hq187⟩ := bindS hq187
                  have hc_ := ih_MendBest_1_v1 (y0 := y0) hS h184 h_y0_0 h_y0_1 h_y0_2 h_y0_3 h_y0_4 h_v0 (rfl) h216 hn217 h168 h172 hq219
                  refine WL.fnw hE (hc_) rfl (runs_plain rfl) bd65 rfl rfl rfl ?_
                  clear hE hS hc_; rintro e w ⟨cs220, a223, c224, a226, c227, s229, rfl, hle230, h221, hn222, h225, h228, hS⟩; refine ⟨_, rfl, ?_⟩; clear a; intro a hE
                  replace h1 := Pt.mono RMendSolver.mono hle230 h1
                  replace h146 := Sl.mono (RL.mono RMendArc.mono) hle230 h146
                  replace h180 := Sl.mono RMendArc.mono hle230 h180
                  replace h184 := Pt.mono RMendSolver.mono hle230 h184
                  replace h_y0_0 := Sl.mono RI.mono hle230 h_y0_0
                  replace h_y0_1 := Sl.mono RI.mono hle230 h_y0_1
                  replace h_y0_2 := Sl.mono RI.mono hle230 h_y0_2
                  replace h_y0_3 := Sl.mono RMendArc.mono hle230 h_y0_3
                  replace h_y0_4 := Sl.mono RMendChoice.mono hle230 h_y0_4
                  replace h168 := Sl.mono RI.mono hle230 h168
                  replace h172 := Sl.mono RI.mono hle230 h172
                  replace h_v0 := Ev.mono RI.mono hle230 h_v0
                  replace h216 := Ev.mono RI.mono hle230 h216
                  refine WL.nil ?_
                  subst hK206
                  exact ⟨q218.1, q218.2.1, q218.2.2.1, q218.2.2.2, cs220, a223, c224, a226, c227, s229, hle230, Option.some.inj hq187, h221, hn222, h225, h228, hE.pick _ ⟨rfl, rfl, rfl, rfl, rfl, rfl, rfl, rfl, trivial⟩, hS⟩
                · replace hq187 := iteF hc207 hq187
                  refine W.skip ?_
                  subst hK206
                  exact ⟨q158, q164, q165, q169, cs162, a166, c167, a170, c171, s185, (Sg.Le.refl _), Option.some.inj hq187, h161, hn163, h168, h172, hE.pick _ ⟨rfl, rfl, rfl, rfl, rfl, rfl, rfl, rfl, trivial⟩, hS⟩
              · clear hE hS a w; rintro a w ⟨q191, q197, q198, q202, cs195, a199, c200, a203, c204, s189, hle190, rfl, h194, hn196, h201, h205, hE, hS⟩
                dsimp only at hq147
                replace h1 := Pt.mono RMendSolver.mono hle190 h1
                replace h146 := Sl.mono (RL.mono RMendArc.mono) hle190 h146
                replace h_y0_0 := Sl.mono RI.mono hle190 h_y0_0
                replace h_y0_1 := Sl.mono RI.mono hle190 h_y0_1
                replace h_y0_2 := Sl.mono RI.mono hle190 h_y0_2
                replace h_y0_3 := Sl.mono RMendArc.mono hle190 h_y0_3
                replace h_y0_4 := Sl.mono RMendChoice.mono hle190 h_y0_4
                replace h168 := Sl.mono RI.mono hle190 h168
                replace h172 := Sl.mono RI.mono hle190 h172
                replace h_v0 := Ev.mono RI.mono hle190 h_v0
                replace h161 := Ev.mono RI.mono hle190 h161
                refine W.region ?_
                refine WL.vS hS hE (runs_plain rfl) (Gives.inc hE rfl (by have := h146.small; omega)) rfl ?_; clear hE a; intro a hE
                refine WL.vS hS hE (runs_plain rfl) (Gives.p hE rfl) rfl ?_; clear hE a; intro a hE
                refine WL.nil ?_
                subst hK173
                exact ⟨rest151.length, Nat.lt_succ_self _, rest151, k149 + 1, q191, q197, q198, q202, cs195, a199, c200, a203, c204, s189, rfl, hd152, (Sg.Le.trans (Sg.Le.trans hle157 hle186) hle190), hq147, h194, hn196, h201, h205, hE.pick _ ⟨rfl, rfl, rfl, rfl, rfl, rfl, rfl, rfl, trivial⟩, hS⟩
          · clear hE hS a w; rintro a w ⟨q158, q164, q165, q169, cs162, a166, c167, a170, c171, s156, hle157, rfl, h161, hn163, h168, h172, hE, hS⟩
            dsimp only at hr
            replace h1 := Pt.mono RMendSolver.mono hle157 h1
            replace h_y0_4 := Sl.mono RMendChoice.mono hle157 h_y0_4
            replace h146 := Sl.mono (RL.mono RMendArc.mono) hle157 h146
            replace h_y0_0 := Sl.mono RI.mono hle157 h_y0_0
            replace h_y0_1 := Sl.mono RI.mono hle157 h_y0_1
            replace h_y0_2 := Sl.mono RI.mono hle157 h_y0_2
            replace h_y0_3 := Sl.mono RMendArc.mono hle157 h_y0_3
            replace h_y4_0 := Sl.mono RI.mono hle157 h_y4_0
            replace h_y5_0 := Sl.mono RI.mono hle157 h_y5_0
            replace h_v0 := Ev.mono RI.mono hle157 h_v0
            replace h_v1 := Ev.mono RI.mono hle157 h_v1
            refine W.region ?_
            refine WL.vS hS hE (runs_plain rfl) (Gives.loadB hE 3 rfl rfl rfl ty22) rfl ?_; clear hE a; intro a hE
            refine WL.vS hS hE (runs_plain rfl) (Gives.p hE rfl) rfl ?_; clear hE a; intro a hE
            obtain ⟨_, hx232, hr⟩ := bindS hr
            obtain ⟨h233, h234⟩ := ix_some hx232
            refine WL.vS hS hE (runs_plain rfl) (Gives.idx hE ((x125).toNat) rfl rfl sl22 h233 (by have := hn163; omega) (hS.vecAok 8 rfl (by have := hn163; omega : (x125).toNat < y3.length))) rfl ?_; clear hE a; intro a hE
            obtain ⟨x236, hx237, hr⟩ := bindS hr
            refine WL.setD hE hS 8 rfl (runs_plain rfl) rfl rfl (vs := [.int .i64 0]) rfl ty3 rfl rfl rfl h161 hn163 (sx_some hx237).1 hx237 rfl rfl ?_; clear hE hS a w; intro cs238 a w h239 hn240 hE hS
            refine WL.nil ?_
            refine finG (fn := Try.f65) (rs := []) (vs := []) hE rfl trivial ?_
            obtain rfl := Option.some.inj hr
            exact ⟨cs238, a166, c167, a170, c171, s156, rfl, hle157, h239, hn240, h168, h172, hS⟩
set_option maxHeartbeats 8000000 in
theorem MendBest_ok {fu : Nat}  {w : World} {s : Sg} {R : List HP} {x0 : MendGraph} {a0_0 : Option Addr} {c0_0 : Nat} {a0_1 : Option Addr} {c0_1 : Nat} {a0_2 : Option Addr} {c0_2 : Nat} {a0_3 : Option Addr} {c0_3 : Nat} {a0_4 : Option Addr} {c0_4 : Nat} (hS : St w s (R)) (h0_0 : Sl 1 (RI .i64) s a0_0 c0_0 x0.Ready) (h0_1 : Sl 1 (RI .i64) s a0_1 c0_1 x0.Last) (h0_2 : Sl 1 (RI .i64) s a0_2 c0_2 x0.Due) (h0_3 : Sl 3 RMendArc s a0_3 c0_3 x0.Arcs) (h0_4 : Sl 1 RMendChoice s a0_4 c0_4 x0.Choices) {r : (List Int) × (List Int) × Int} (hr : MendBest fu x0 = some r) :
    Calls Try.prog 26 [.agg [.slice a0_0 x0.Ready.length c0_0, .slice a0_1 x0.Last.length c0_1, .slice a0_2 x0.Due.length c0_2, .slice a0_3 x0.Arcs.length c0_3, .slice a0_4 x0.Choices.length c0_4].toArray].toArray w (fun e w => ∃ (a0 : Option Addr) (c0 : Nat) (a1 : Option Addr) (c1 : Nat) (t : Sg), e = .returned (.tuple #[.slice a0 r.1.length c0, .slice a1 r.2.1.length c1, .int .i64 r.2.2]) ∧ s.Le t ∧ Sl 1 (RI .i64) t a0 c0 r.1 ∧ Sl 1 (RI .i64) t a1 c1 r.2.1 ∧ St w t (R)) := by
  refine enter Try.func26 rfl rfl rfl fun a hE => ?_
  rw [MendBest] at hr
  refine W.seq ?_
  refine W.region ?_
  refine WL.box hE hS (runs_plain rfl) rfl rfl rfl ?_; clear hE hS a w; intro b51 a w hE hS
  refine WL.vS hS hE (runs_plain rfl) (Gives.p hE rfl) rfl ?_; clear hE a; intro a hE
  refine WL.vS hS hE (runs_plain rfl) (Gives.p hE rfl) rfl ?_; clear hE a; intro a hE
  refine WL.vS hS hE (runs_plain rfl) (Gives.p hE rfl) rfl ?_; clear hE a; intro a hE
  refine WL.nil ?_
  refine W.seq ?_
  refine W.seq ?_
  refine W.region ?_
  refine WL.vS hS hE (runs_plain rfl) (Gives.loadBA hE 0 rfl rfl ty50) rfl ?_; clear hE a; intro a hE
  obtain ⟨q52, hq53, hr⟩ := bindS hr
  have hc_ := MendCheckGraph_ok hS h0_0 h0_1 h0_2 h0_3 h0_4 hq53
  refine WL.fnq hE (hc_) (runs_plain rfl) bd24 rfl rfl rfl ?_
  clear hE hS hc_; rintro e w ⟨rfl, hS⟩; refine ⟨_, rfl, ?_⟩; clear a; intro a hE
  refine WL.vS hS hE (runs_plain rfl) (Gives.p hE rfl) rfl ?_; clear hE a; intro a hE
  refine WL.nil ?_
  refine W.seq ?_
  refine W.region ?_
  refine WL.vS hS hE (runs_plain rfl) (Gives.p hE rfl) rfl ?_; clear hE a; intro a hE
  refine WL.vS hS hE (runs_plain rfl) (Gives.p hE rfl) rfl ?_; clear hE a; intro a hE
  refine WL.nil ?_
  refine W.cond hE rfl (fun hc54 => ?_) (fun hc54 => ?_)
  · replace hr := iteT hc54 hr
    refine W.seq ?_
    refine W.region ?_
    refine WL.vS hS hE (runs_plain rfl) (Gives.p hE rfl) rfl ?_; clear hE a; intro a hE
    refine WL.vS hS hE (runs_plain rfl) (Gives.p hE rfl) rfl ?_; clear hE a; intro a hE
    refine WL.vS hS hE (runs_plain rfl) (Gives.p hE rfl) rfl ?_; clear hE a; intro a hE
    refine WL.vS hS hE (runs_plain rfl) (Gives.p hE rfl) rfl ?_; clear hE a; intro a hE
    refine WL.nil ?_
    refine W.ret ?_
    refine finG (fn := Try.f26) (rs := [.tmp 2, .tmp 3, .tmp 4]) (vs := [_, _, _]) hE rfl ⟨rfl, rfl, rfl, trivial⟩ ?_
    obtain rfl := Option.some.inj hr
    replace hS := hS.tail
    exact ⟨none, 0, none, 0, s, rfl, (Sg.Le.refl _), Sl.nil, Sl.nil, hS⟩
  · replace hr := iteF hc54 hr
    refine W.skip ?_
    refine W.seq ?_
    refine W.gen fun K55 hK55 => ?_
    refine W.regionE (sel (fun w => St w s (pt b51 (.cells #[.slice a0_0 x0.Ready.length c0_0, .slice a0_1 x0.Last.length c0_1, .slice a0_2 x0.Due.length c0_2, .slice a0_3 x0.Arcs.length c0_3, .slice a0_4 x0.Choices.length c0_4] 50 (0, 0)) :: R)) (fun w => St w s (pt b51 (.cells #[.slice a0_0 x0.Ready.length c0_0, .slice a0_1 x0.Last.length c0_1, .slice a0_2 x0.Due.length c0_2, .slice a0_3 x0.Arcs.length c0_3, .slice a0_4 x0.Choices.length c0_4] 50 (0, 0)) :: R))) (fun b i => cond b ([0, 1, 2, 3, 4, 5, 6, 7, 8, 9, 10, 11, 12, 13].contains i) ([0, 1, 2, 3, 4, 5, 6, 7, 8, 9, 10, 11, 12, 13].contains i)) mixed ?_
    replace hS := hS.drew
    have hT := tw_sel (A := fun w => St w s (pt b51 (.cells #[.slice a0_0 x0.Ready.length c0_0, .slice a0_1 x0.Last.length c0_1, .slice a0_2 x0.Due.length c0_2, .slice a0_3 x0.Arcs.length c0_3, .slice a0_4 x0.Choices.length c0_4] 50 (0, 0)) :: R)) (B := fun w => St w s (pt b51 (.cells #[.slice a0_0 x0.Ready.length c0_0, .slice a0_1 x0.Last.length c0_1, .slice a0_2 x0.Due.length c0_2, .slice a0_3 x0.Arcs.length c0_3, .slice a0_4 x0.Choices.length c0_4] 50 (0, 0)) :: R)) (w := _) (x := true) (y := true) (fun _ => hS) (fun _ => hS)
    have hF := hS; replace hS := hS
    refine Rg.take (i := 0) true rfl hE rfl (by kernel_rfl) (runs_plain rfl) (Gives.loadBA hE 0 rfl rfl ty50) rfl hT ?_; clear hE a; intro a hE
    replace hS := hF; clear hF hT
    refine Rg.takeP (i := 1) hE rfl (by kernel_rfl) (runs_plain rfl) (Gives.fld hE rfl fl50_4) rfl (tw_sel (fun _ => hS) (fun _ => hS)) ?_; clear hE a; intro a hE
    have hT := tw_sel (A := fun w => St w s (pt b51 (.cells #[.slice a0_0 x0.Ready.length c0_0, .slice a0_1 x0.Last.length c0_1, .slice a0_2 x0.Due.length c0_2, .slice a0_3 x0.Arcs.length c0_3, .slice a0_4 x0.Choices.length c0_4] 50 (0, 0)) :: R)) (B := fun w => St w s (pt b51 (.cells #[.slice a0_0 x0.Ready.length c0_0, .slice a0_1 x0.Last.length c0_1, .slice a0_2 x0.Due.length c0_2, .slice a0_3 x0.Arcs.length c0_3, .slice a0_4 x0.Choices.length c0_4] 50 (0, 0)) :: R)) (w := _) (x := true) (y := true) (fun _ => hS) (fun _ => hS)
    have hF := hS; replace hS := hS
    refine Rg.take (i := 2) true rfl hE rfl (by kernel_rfl) (runs_plain rfl) (Gives.loadB hE 0 rfl rfl rfl ty48) rfl hT ?_; clear hE a; intro a hE
    replace hS := hF; clear hF hT
    refine Rg.takeP (i := 3) hE rfl (by kernel_rfl) (runs_plain rfl) (Gives.len hE rfl sl48) rfl (tw_sel (fun _ => hS) (fun _ => hS)) ?_; clear hE a; intro a hE
    obtain ⟨x56, hx57, hr⟩ := bindS hr
    obtain ⟨q65, hq66, hr⟩ := bindS hr
    suffices key : ∀ s75 a73 cs70 b77 a67 c68 (a : Act) (w : World), s.Le s75 → Pt 3 RMendSolver s75 a73 q65.2.1 → Ev 1 (RI .i64) s75 cs70 q65.1 → Sl 1 (RI .i64) s75 a0_0 c0_0 x0.Ready → Sl 1 (RI .i64) s75 a0_1 c0_1 x0.Last → Sl 1 (RI .i64) s75 a0_2 c0_2 x0.Due → Sl 3 RMendArc s75 a0_3 c0_3 x0.Arcs → Sl 1 RMendChoice s75 a0_4 c0_4 x0.Choices → Rep a 58 [(1, .pointer (some ⟨b51, 0, none⟩)), (6, .pointer (some ⟨b77, 0, none⟩)), (7, .pointer a73), (8, .bool q65.2.2)] → St w s75 (pt b77 (.cells #[.slice a67 q65.1.length c68] 22 (0, 0)) :: vecC 3 1 a67 c68 q65.1.length cs70 :: pt b51 (.cells #[.slice a0_0 x0.Ready.length c0_0, .slice a0_1 x0.Last.length c0_1, .slice a0_2 x0.Due.length c0_2, .slice a0_3 x0.Arcs.length c0_3, .slice a0_4 x0.Choices.length c0_4] 50 (0, 0)) :: R) → K55.nor a w by
      refine Rg.many 4 [10] (by kernel_rfl) ⟨?_, ?_, trivial⟩
      · refine Br.mk (i := 4) true true rfl (by kernel_rfl) (by kernel_rfl) ?_
        refine WL.mkD (Rr := RI .i64) hE hS (runs_plain rfl) rfl rfl ap22 zr3 rfl hx57 rfl ?_; clear hE hS a w; intro b58 cs59 a w h60 hE hS
        refine WL.nil ?_
        refine ⟨⟨fun _ => (hS.tail), fun _ => (hS.tail)⟩, ?_⟩
        refine Rg.many 5 [10] (by kernel_rfl) ⟨?_, ?_, trivial⟩
        · refine Br.mk (i := 5) true true rfl (by kernel_rfl) (by kernel_rfl) ?_
          have hF := hS.fixD RI.mono 0 rfl h60 (rfl); clear hS; obtain ⟨s62, hle63, hS, h64⟩ := hF
          replace h0_0 := Sl.mono RI.mono hle63 h0_0
          replace h0_1 := Sl.mono RI.mono hle63 h0_1
          replace h0_2 := Sl.mono RI.mono hle63 h0_2
          replace h0_3 := Sl.mono RMendArc.mono hle63 h0_3
          replace h0_4 := Sl.mono RMendChoice.mono hle63 h0_4
          have hc_ := Mendforced_ok hS h0_0 h0_1 h0_2 h0_3 h0_4 h64 hq66
          refine WL.fnq hE (hc_) (runs_plain rfl) bd64 rfl rfl rfl ?_
          clear hE hS hc_; rintro e w ⟨a67, c68, n69, cs70, a73, s75, rfl, hle76, h71, rfl, h74, hS⟩; refine ⟨_, rfl, ?_⟩; clear a; intro a hE
          replace h0_0 := Sl.mono RI.mono hle76 h0_0
          replace h0_1 := Sl.mono RI.mono hle76 h0_1
          replace h0_2 := Sl.mono RI.mono hle76 h0_2
          replace h0_3 := Sl.mono RMendArc.mono hle76 h0_3
          replace h0_4 := Sl.mono RMendChoice.mono hle76 h0_4
          replace h64 := Sl.mono RI.mono hle76 h64
          refine WL.nil ?_
          refine ⟨⟨fun _ => (St.down (Sg.Le.trans hle63 hle76) (hS.tail)), fun _ => (St.down (Sg.Le.trans hle63 hle76) (hS.tail))⟩, ?_⟩
          refine Rg.takeP (i := 6) hE rfl (by kernel_rfl) (runs_plain rfl) (Gives.p hE rfl) rfl (tw_sel (fun _ => (St.down (Sg.Le.trans hle63 hle76) (hS.tail))) (fun _ => (St.down (Sg.Le.trans hle63 hle76) (hS.tail)))) ?_; clear hE a; intro a hE
          refine Rg.takeP (i := 7) hE rfl (by kernel_rfl) (runs_plain rfl) (Gives.p hE rfl) rfl (tw_sel (fun _ => (St.down (Sg.Le.trans hle63 hle76) (hS.tail))) (fun _ => (St.down (Sg.Le.trans hle63 hle76) (hS.tail)))) ?_; clear hE a; intro a hE
          refine Rg.takeP (i := 8) hE rfl (by kernel_rfl) (runs_plain rfl) (Gives.p hE rfl) rfl (tw_sel (fun _ => (St.down (Sg.Le.trans hle63 hle76) (hS.tail))) (fun _ => (St.down (Sg.Le.trans hle63 hle76) (hS.tail)))) ?_; clear hE a; intro a hE
          refine Rg.takeP (i := 9) hE rfl (by kernel_rfl) (runs_plain rfl) (Gives.p hE rfl) rfl (tw_sel (fun _ => (St.down (Sg.Le.trans hle63 hle76) (hS.tail))) (fun _ => (St.down (Sg.Le.trans hle63 hle76) (hS.tail)))) ?_; clear hE a; intro a hE
          refine Rg.one (i := 10) true true rfl (by kernel_rfl) (by kernel_rfl) (by kernel_rfl) ?_
          refine WL.alloc hE hS (runs_plain rfl) zr22 rfl ?_; clear hE hS a w; intro b77 a w hE hS
          refine WL.nil ?_
          refine ⟨⟨fun _ => (St.down (Sg.Le.trans hle63 hle76) ((hS.tail).tail)), fun _ => (St.down (Sg.Le.trans hle63 hle76) ((hS.tail).tail))⟩, ?_⟩
          refine Rg.one (i := 11) true true rfl (by kernel_rfl) (by kernel_rfl) (by kernel_rfl) ?_
          refine WL.storeI hE hS 0 rfl [.slice a67 q65.1.length c68] (runs_plain rfl) rfl rfl rfl ty22 rfl rfl rfl rfl ?_; clear hE hS a w; intro a w hE hS
          refine WL.nil ?_
          refine ⟨⟨fun _ => (St.down (Sg.Le.trans hle63 hle76) ((hS.tail).tail)), fun _ => (St.down (Sg.Le.trans hle63 hle76) ((hS.tail).tail))⟩, ?_⟩
          refine Rg.takeP (i := 12) hE rfl (by kernel_rfl) (runs_plain rfl) (Gives.p hE rfl) rfl (tw_sel (fun _ => (St.down (Sg.Le.trans hle63 hle76) ((hS.tail).tail))) (fun _ => (St.down (Sg.Le.trans hle63 hle76) ((hS.tail).tail)))) ?_; clear hE a; intro a hE
          refine Rg.takeP (i := 13) hE rfl (by kernel_rfl) (runs_plain rfl) (Gives.p hE rfl) rfl (tw_sel (fun _ => (St.down (Sg.Le.trans hle63 hle76) ((hS.tail).tail))) (fun _ => (St.down (Sg.Le.trans hle63 hle76) ((hS.tail).tail)))) ?_; clear hE a; intro a hE
          refine Rg.done (by kernel_rfl) ?_
          exact key _ _ _ _ _ _ _ _ (Sg.Le.trans hle63 hle76) h74 h71 h0_0 h0_1 h0_2 h0_3 h0_4 (hE.pick _ ⟨rfl, rfl, rfl, rfl, trivial⟩) hS
        · refine Br.mk (i := 10) true true rfl (by kernel_rfl) (by kernel_rfl) ?_
          refine WL.alloc hE hS (runs_plain rfl) zr22 rfl ?_; clear hE hS a w; intro b77 a w hE hS
          refine WL.nil ?_
          refine ⟨⟨fun _ => ((hS.tail).tail), fun _ => ((hS.tail).tail)⟩, ?_⟩
          refine Rg.one (i := 5) true true rfl (by kernel_rfl) (by kernel_rfl) (by kernel_rfl) ?_
          have hF := hS.fixD RI.mono 1 rfl h60 (rfl); clear hS; obtain ⟨s62, hle63, hS, h64⟩ := hF
          replace h0_0 := Sl.mono RI.mono hle63 h0_0
          replace h0_1 := Sl.mono RI.mono hle63 h0_1
          replace h0_2 := Sl.mono RI.mono hle63 h0_2
          replace h0_3 := Sl.mono RMendArc.mono hle63 h0_3
          replace h0_4 := Sl.mono RMendChoice.mono hle63 h0_4
          have hc_ := Mendforced_ok hS h0_0 h0_1 h0_2 h0_3 h0_4 h64 hq66
          refine WL.fnq hE (hc_) (runs_plain rfl) bd64 rfl rfl rfl ?_
          clear hE hS hc_; rintro e w ⟨a67, c68, n69, cs70, a73, s75, rfl, hle76, h71, rfl, h74, hS⟩; refine ⟨_, rfl, ?_⟩; clear a; intro a hE
          replace h0_0 := Sl.mono RI.mono hle76 h0_0
          replace h0_1 := Sl.mono RI.mono hle76 h0_1
          replace h0_2 := Sl.mono RI.mono hle76 h0_2
          replace h0_3 := Sl.mono RMendArc.mono hle76 h0_3
          replace h0_4 := Sl.mono RMendChoice.mono hle76 h0_4
          replace h64 := Sl.mono RI.mono hle76 h64
          refine WL.nil ?_
          refine ⟨⟨fun _ => (St.down (Sg.Le.trans hle63 hle76) ((hS.tail).tail)), fun _ => (St.down (Sg.Le.trans hle63 hle76) ((hS.tail).tail))⟩, ?_⟩
          refine Rg.takeP (i := 6) hE rfl (by kernel_rfl) (runs_plain rfl) (Gives.p hE rfl) rfl (tw_sel (fun _ => (St.down (Sg.Le.trans hle63 hle76) ((hS.tail).tail))) (fun _ => (St.down (Sg.Le.trans hle63 hle76) ((hS.tail).tail)))) ?_; clear hE a; intro a hE
          refine Rg.takeP (i := 7) hE rfl (by kernel_rfl) (runs_plain rfl) (Gives.p hE rfl) rfl (tw_sel (fun _ => (St.down (Sg.Le.trans hle63 hle76) ((hS.tail).tail))) (fun _ => (St.down (Sg.Le.trans hle63 hle76) ((hS.tail).tail)))) ?_; clear hE a; intro a hE
          refine Rg.takeP (i := 8) hE rfl (by kernel_rfl) (runs_plain rfl) (Gives.p hE rfl) rfl (tw_sel (fun _ => (St.down (Sg.Le.trans hle63 hle76) ((hS.tail).tail))) (fun _ => (St.down (Sg.Le.trans hle63 hle76) ((hS.tail).tail)))) ?_; clear hE a; intro a hE
          refine Rg.takeP (i := 9) hE rfl (by kernel_rfl) (runs_plain rfl) (Gives.p hE rfl) rfl (tw_sel (fun _ => (St.down (Sg.Le.trans hle63 hle76) ((hS.tail).tail))) (fun _ => (St.down (Sg.Le.trans hle63 hle76) ((hS.tail).tail)))) ?_; clear hE a; intro a hE
          refine Rg.one (i := 11) true true rfl (by kernel_rfl) (by kernel_rfl) (by kernel_rfl) ?_
          refine WL.storeI hE hS 1 rfl [.slice a67 q65.1.length c68] (runs_plain rfl) rfl rfl rfl ty22 rfl rfl rfl rfl ?_; clear hE hS a w; intro a w hE hS
          refine WL.nil ?_
          refine ⟨⟨fun _ => (St.down (Sg.Le.trans hle63 hle76) ((hS.tail).tail)), fun _ => (St.down (Sg.Le.trans hle63 hle76) ((hS.tail).tail))⟩, ?_⟩
          refine Rg.takeP (i := 12) hE rfl (by kernel_rfl) (runs_plain rfl) (Gives.p hE rfl) rfl (tw_sel (fun _ => (St.down (Sg.Le.trans hle63 hle76) ((hS.tail).tail))) (fun _ => (St.down (Sg.Le.trans hle63 hle76) ((hS.tail).tail)))) ?_; clear hE a; intro a hE
          refine Rg.takeP (i := 13) hE rfl (by kernel_rfl) (runs_plain rfl) (Gives.p hE rfl) rfl (tw_sel (fun _ => (St.down (Sg.Le.trans hle63 hle76) ((hS.tail).tail))) (fun _ => (St.down (Sg.Le.trans hle63 hle76) ((hS.tail).tail)))) ?_; clear hE a; intro a hE
          refine Rg.done (by kernel_rfl) ?_
          replace hS := hS.front 2 rfl
          replace hS := hS.front 1 rfl
          replace hS := hS.front 2 rfl
          exact key _ _ _ _ _ _ _ _ (Sg.Le.trans hle63 hle76) h74 h71 h0_0 h0_1 h0_2 h0_3 h0_4 (hE.pick _ ⟨rfl, rfl, rfl, rfl, trivial⟩) hS
      · refine Br.mk (i := 10) true true rfl (by kernel_rfl) (by kernel_rfl) ?_
        refine WL.alloc hE hS (runs_plain rfl) zr22 rfl ?_; clear hE hS a w; intro b77 a w hE hS
        refine WL.nil ?_
        refine ⟨⟨fun _ => (hS.tail), fun _ => (hS.tail)⟩, ?_⟩
        refine Rg.one (i := 4) true true rfl (by kernel_rfl) (by kernel_rfl) (by kernel_rfl) ?_
        refine WL.mkD (Rr := RI .i64) hE hS (runs_plain rfl) rfl rfl ap22 zr3 rfl hx57 rfl ?_; clear hE hS a w; intro b58 cs59 a w h60 hE hS
        refine WL.nil ?_
        refine ⟨⟨fun _ => ((hS.tail).tail), fun _ => ((hS.tail).tail)⟩, ?_⟩
        refine Rg.one (i := 5) true true rfl (by kernel_rfl) (by kernel_rfl) (by kernel_rfl) ?_
        have hF := hS.fixD RI.mono 0 rfl h60 (rfl); clear hS; obtain ⟨s62, hle63, hS, h64⟩ := hF
        replace h0_0 := Sl.mono RI.mono hle63 h0_0
        replace h0_1 := Sl.mono RI.mono hle63 h0_1
        replace h0_2 := Sl.mono RI.mono hle63 h0_2
        replace h0_3 := Sl.mono RMendArc.mono hle63 h0_3
        replace h0_4 := Sl.mono RMendChoice.mono hle63 h0_4
        have hc_ := Mendforced_ok hS h0_0 h0_1 h0_2 h0_3 h0_4 h64 hq66
        refine WL.fnq hE (hc_) (runs_plain rfl) bd64 rfl rfl rfl ?_
        clear hE hS hc_; rintro e w ⟨a67, c68, n69, cs70, a73, s75, rfl, hle76, h71, rfl, h74, hS⟩; refine ⟨_, rfl, ?_⟩; clear a; intro a hE
        replace h0_0 := Sl.mono RI.mono hle76 h0_0
        replace h0_1 := Sl.mono RI.mono hle76 h0_1
        replace h0_2 := Sl.mono RI.mono hle76 h0_2
        replace h0_3 := Sl.mono RMendArc.mono hle76 h0_3
        replace h0_4 := Sl.mono RMendChoice.mono hle76 h0_4
        replace h64 := Sl.mono RI.mono hle76 h64
        refine WL.nil ?_
        refine ⟨⟨fun _ => (St.down (Sg.Le.trans hle63 hle76) ((hS.tail).tail)), fun _ => (St.down (Sg.Le.trans hle63 hle76) ((hS.tail).tail))⟩, ?_⟩
        refine Rg.takeP (i := 6) hE rfl (by kernel_rfl) (runs_plain rfl) (Gives.p hE rfl) rfl (tw_sel (fun _ => (St.down (Sg.Le.trans hle63 hle76) ((hS.tail).tail))) (fun _ => (St.down (Sg.Le.trans hle63 hle76) ((hS.tail).tail)))) ?_; clear hE a; intro a hE
        refine Rg.takeP (i := 7) hE rfl (by kernel_rfl) (runs_plain rfl) (Gives.p hE rfl) rfl (tw_sel (fun _ => (St.down (Sg.Le.trans hle63 hle76) ((hS.tail).tail))) (fun _ => (St.down (Sg.Le.trans hle63 hle76) ((hS.tail).tail)))) ?_; clear hE a; intro a hE
        refine Rg.takeP (i := 8) hE rfl (by kernel_rfl) (runs_plain rfl) (Gives.p hE rfl) rfl (tw_sel (fun _ => (St.down (Sg.Le.trans hle63 hle76) ((hS.tail).tail))) (fun _ => (St.down (Sg.Le.trans hle63 hle76) ((hS.tail).tail)))) ?_; clear hE a; intro a hE
        refine Rg.takeP (i := 9) hE rfl (by kernel_rfl) (runs_plain rfl) (Gives.p hE rfl) rfl (tw_sel (fun _ => (St.down (Sg.Le.trans hle63 hle76) ((hS.tail).tail))) (fun _ => (St.down (Sg.Le.trans hle63 hle76) ((hS.tail).tail)))) ?_; clear hE a; intro a hE
        refine Rg.one (i := 11) true true rfl (by kernel_rfl) (by kernel_rfl) (by kernel_rfl) ?_
        refine WL.storeI hE hS 1 rfl [.slice a67 q65.1.length c68] (runs_plain rfl) rfl rfl rfl ty22 rfl rfl rfl rfl ?_; clear hE hS a w; intro a w hE hS
        refine WL.nil ?_
        refine ⟨⟨fun _ => (St.down (Sg.Le.trans hle63 hle76) ((hS.tail).tail)), fun _ => (St.down (Sg.Le.trans hle63 hle76) ((hS.tail).tail))⟩, ?_⟩
        refine Rg.takeP (i := 12) hE rfl (by kernel_rfl) (runs_plain rfl) (Gives.p hE rfl) rfl (tw_sel (fun _ => (St.down (Sg.Le.trans hle63 hle76) ((hS.tail).tail))) (fun _ => (St.down (Sg.Le.trans hle63 hle76) ((hS.tail).tail)))) ?_; clear hE a; intro a hE
        refine Rg.takeP (i := 13) hE rfl (by kernel_rfl) (runs_plain rfl) (Gives.p hE rfl) rfl (tw_sel (fun _ => (St.down (Sg.Le.trans hle63 hle76) ((hS.tail).tail))) (fun _ => (St.down (Sg.Le.trans hle63 hle76) ((hS.tail).tail)))) ?_; clear hE a; intro a hE
        refine Rg.done (by kernel_rfl) ?_
        replace hS := hS.front 2 rfl
        replace hS := hS.front 1 rfl
        replace hS := hS.front 2 rfl
        exact key _ _ _ _ _ _ _ _ (Sg.Le.trans hle63 hle76) h74 h71 h0_0 h0_1 h0_2 h0_3 h0_4 (hE.pick _ ⟨rfl, rfl, rfl, rfl, trivial⟩) hS
    clear hE hS a w; intro s75 a73 cs70 b77 a67 c68 a w hle78 h74 h71 h0_0 h0_1 h0_2 h0_3 h0_4 hE hS
    subst hK55
    refine W.seq ?_
    refine W.seq ?_
    refine W.region ?_
    refine WL.vS hS hE (runs_plain rfl) (Gives.p hE rfl) rfl ?_; clear hE a; intro a hE
    refine WL.vS hS hE (runs_plain rfl) (Gives.p hE rfl) rfl ?_; clear hE a; intro a hE
    refine WL.nil ?_
    refine W.cond hE rfl (fun hc79 => ?_) (fun hc79 => ?_)
    · replace hr := iteT hc79 hr
      refine W.seq ?_
      refine W.region ?_
      refine WL.vS hS hE (runs_plain rfl) (Gives.p hE rfl) rfl ?_; clear hE a; intro a hE
      refine WL.vS hS hE (runs_plain rfl) (Gives.p hE rfl) rfl ?_; clear hE a; intro a hE
      refine WL.vS hS hE (runs_plain rfl) (Gives.p hE rfl) rfl ?_; clear hE a; intro a hE
      refine WL.nil ?_
      refine W.ret ?_
      refine finG (fn := Try.f26) (rs := [.tmp 2, .tmp 3, .tmp 4]) (vs := [_, _, _]) hE rfl ⟨rfl, rfl, rfl, trivial⟩ ?_
      obtain rfl := Option.some.inj hr
      replace hS := hS.tail
      replace hS := hS.tail
      replace hS := hS.tail
      exact ⟨none, 0, none, 0, s75, rfl, hle78, Sl.nil, Sl.nil, hS⟩
    · replace hr := iteF hc79 hr
      refine W.skip ?_
      refine W.seq ?_
      refine W.region ?_
      refine WL.alloc hE hS (runs_plain rfl) zr22 rfl ?_; clear hE hS a w; intro b80 a w hE hS
      refine WL.nil ?_
      refine W.seq ?_
      refine W.seq ?_
      refine W.region ?_
      refine WL.vS hS hE (runs_plain rfl) (Gives.loadB hE 1 rfl rfl rfl ty22) rfl ?_; clear hE a; intro a hE
      refine WL.vS hS hE (runs_plain rfl) (Gives.len hE rfl sl22) rfl ?_; clear hE a; intro a hE
      refine WL.vS hS hE (runs_plain rfl) (Gives.p hE rfl) rfl ?_; clear hE a; intro a hE
      refine WL.nil ?_
      replace hS := hS.vecNil 3 1
      have hb93 : q65.1.length ≤ 9223372036854775807 := by have := hS.vecCap 3 rfl; unfold maxLen at this; omega
      obtain ⟨q83, hq82, hr⟩ := bindS hr
      refine W.cut (fun a w => ∃ (q94 : List Int), ∃ (a95 : Option Addr), ∃ (c96 : Nat), ∃ (n98 : Nat), ∃ (cs99 : List Value), q94 = q83 ∧ Ev 1 (RI .i64) s75 cs99 q94 ∧ q94.length = n98 ∧ Rep a 58 [(1, .pointer (some ⟨b51, 0, none⟩)), (6, .pointer (some ⟨b77, 0, none⟩)), (7, .pointer a73), (9, .pointer (some ⟨b80, 0, none⟩))] ∧ St w s75 (vecC 3 1 a95 c96 n98 cs99 :: pt b80 (.cells #[.slice a95 n98 c96] 22 (0, 0)) :: pt b77 (.cells #[.slice a67 q65.1.length c68] 22 (0, 0)) :: vecC 3 1 a67 c68 q65.1.length cs70 :: pt b51 (.cells #[.slice a0_0 x0.Ready.length c0_0, .slice a0_1 x0.Last.length c0_1, .slice a0_2 x0.Due.length c0_2, .slice a0_3 x0.Arcs.length c0_3, .slice a0_4 x0.Choices.length c0_4] 50 (0, 0)) :: R)) ?_ ?_
      · refine W.block ?_
        refine W.loop (fun m a w => ∃ (rest86 : Nat) (k84 : Nat), ∃ (q94 : List Int), ∃ (a95 : Option Addr), ∃ (c96 : Nat), ∃ (n98 : Nat), ∃ (cs99 : List Value), rest86 = m ∧ k84 + rest86 = q65.1.length ∧ MendBest.loop1 q65 rest86 k84 q94 = some q83 ∧ Ev 1 (RI .i64) s75 cs99 q94 ∧ q94.length = n98 ∧ Rep a 58 [(1, .pointer (some ⟨b51, 0, none⟩)), (6, .pointer (some ⟨b77, 0, none⟩)), (7, .pointer a73), (9, .pointer (some ⟨b80, 0, none⟩)), (33, .slice a67 q65.1.length c68), (34, .int .i64 ((q65.1.length : Nat) : Int)), (35, .int .i64 ((k84 : Nat) : Int))] ∧ St w s75 (vecC 3 1 a95 c96 n98 cs99 :: pt b80 (.cells #[.slice a95 n98 c96] 22 (0, 0)) :: pt b77 (.cells #[.slice a67 q65.1.length c68] 22 (0, 0)) :: vecC 3 1 a67 c68 q65.1.length cs70 :: pt b51 (.cells #[.slice a0_0 x0.Ready.length c0_0, .slice a0_1 x0.Last.length c0_1, .slice a0_2 x0.Due.length c0_2, .slice a0_3 x0.Arcs.length c0_3, .slice a0_4 x0.Choices.length c0_4] 50 (0, 0)) :: R)) (m := q65.1.length) ⟨q65.1.length, 0, [], none, 0, 0, [], rfl, by omega, hq82, (Ev.nil), (rfl), hE.pick _ ⟨rfl, rfl, rfl, rfl, rfl, rfl, rfl, trivial⟩, hS⟩ ?_
        clear hE hS a w hq82; rintro m90 a w ⟨rest86, k84, q94, a95, c96, n98, cs99, rfl, hd87, hq82, h97, rfl, hE, hS⟩
        refine W.gen fun K101 hK101 => ?_
        rcases rest86 with _ | rest86
        · skip
          refine W.seq ?_
          refine W.region ?_
          refine WL.vS hS hE (runs_plain rfl) (Gives.p hE rfl) rfl ?_; clear hE a; intro a hE
          refine WL.nil ?_
          refine W.seq ?_
          refine W.condF hE rfl (decide_eq_false (by omega)) ?_
          subst hK101
          refine W.exit rfl ?_
          exact ⟨q94, a95, c96, q94.length, cs99, Option.some.inj hq82, h97, rfl, hE.pick _ ⟨rfl, rfl, rfl, rfl, trivial⟩, hS⟩
        · have hlt88 : k84 < q65.1.length := by omega
          rw [MendBest.loop1] at hq82
          refine W.seq ?_
          refine W.region ?_
          refine WL.vS hS hE (runs_plain rfl) (Gives.p hE rfl) rfl ?_; clear hE a; intro a hE
          refine WL.nil ?_
          refine W.seq ?_
          refine W.condT hE rfl (decide_eq_true (by omega)) ?_
          refine W.skip ?_
          refine W.seq ?_
          refine W.block ?_
          refine W.seq ?_
          refine W.region ?_
          refine WL.vS hS hE (runs_plain rfl) (Gives.p hE rfl) rfl ?_; clear hE a; intro a hE
          obtain ⟨x102, hx103, hq82⟩ := bindS hq82
          obtain ⟨hi104, hlt105, hy106⟩ := gx_some hx103
          obtain ⟨vs107, hl108, hR109, hd110, hget111⟩ := h71.at hy106
          subst hR109
          refine WL.vS hS hE (runs_plain rfl) (Gives.idx hE ((((k84 : Nat) : Int)).toNat) rfl rfl sl22 hi104 (by omega) (hS.vecAok 3 rfl (by omega : (((k84 : Nat) : Int)).toNat < q65.1.length))) rfl ?_; clear hE a; intro a hE
          refine WL.vS hS hE (runs_plain rfl) (Gives.load1 hE rfl (fun w h => St.vecSees h 3 rfl ((((k84 : Nat) : Int)).toNat * 1) _ hget111) ty3) rfl ?_; clear hE a; intro a hE
          refine WL.vS hS hE (runs_plain rfl) (Gives.p hE rfl) rfl ?_; clear hE a; intro a hE
          refine WL.vS hS hE (runs_plain rfl) (Gives.p hE rfl) rfl ?_; clear hE a; intro a hE
          refine WL.nil ?_
          refine W.seq ?_
          refine W.region ?_
          refine WL.vS hS hE (runs_plain rfl) (Gives.p hE rfl) rfl ?_; clear hE a; intro a hE
          refine WL.vS hS hE (runs_plain rfl) (Gives.p hE rfl) rfl ?_; clear hE a; intro a hE
          refine WL.nil ?_
          obtain ⟨q113, hq112, hq82⟩ := bindS hq82
          refine W.cut (fun a w => ∃ (q116 : List Int), ∃ (a117 : Option Addr), ∃ (c118 : Nat), ∃ (n120 : Nat), ∃ (cs121 : List Value), q116 = q113 ∧ Ev 1 (RI .i64) s75 cs121 q116 ∧ q116.length = n120 ∧ Rep a 58 [(1, .pointer (some ⟨b51, 0, none⟩)), (6, .pointer (some ⟨b77, 0, none⟩)), (7, .pointer a73), (9, .pointer (some ⟨b80, 0, none⟩)), (33, .slice a67 q65.1.length c68), (34, .int .i64 ((q65.1.length : Nat) : Int)), (35, .int .i64 ((k84 : Nat) : Int))] ∧ St w s75 (vecC 3 1 a117 c118 n120 cs121 :: pt b80 (.cells #[.slice a117 n120 c118] 22 (0, 0)) :: pt b77 (.cells #[.slice a67 q65.1.length c68] 22 (0, 0)) :: vecC 3 1 a67 c68 q65.1.length cs70 :: pt b51 (.cells #[.slice a0_0 x0.Ready.length c0_0, .slice a0_1 x0.Last.length c0_1, .slice a0_2 x0.Due.length c0_2, .slice a0_3 x0.Arcs.length c0_3, .slice a0_4 x0.Choices.length c0_4] 50 (0, 0)) :: R)) ?_ ?_
          · refine W.gen fun K123 hK123 => ?_
            refine W.cond hE rfl (fun hc124 => ?_) (fun hc124 => ?_)
            · replace hq112 := iteT hc124 hq112
              refine W.region ?_
              refine WL.vS hS hE (runs_plain rfl) (Gives.loadB hE 1 rfl rfl rfl ty22) rfl ?_; clear hE a; intro a hE
              refine WL.vS hS hE (runs_plain rfl) (Gives.p hE rfl) rfl ?_; clear hE a; intro a hE
              refine WL.lit hE hS (e := 3) (es := 1) (vs := [(0, .int .i64 ((k84 : Nat) : Int))]) (cs := [.int .i64 ((k84 : Nat) : Int)]) (runs_plain rfl) rfl (by kernel_rfl) rfl ?_; clear hE hS a w; intro b125 a w hE hS
              obtain ⟨x126, hx127, hq112⟩ := bindS hq112
              refine WL.appD hE hS 0 (m := 1) (runs_plain rfl) rfl rfl rfl ap22 rfl h97 rfl (xs := [((k84 : Nat) : Int)]) (Ev.cons (c1 := [.int .i64 ((k84 : Nat) : Int)]) rfl rfl (Ev.nil)) rfl rfl hx127 rfl ?_; clear hE hS a w; intro a128 c129 cs130 a w h131 hE hS
              refine WL.storeI hE hS 1 rfl [.slice a128 x126.length c129] (runs_plain rfl) rfl rfl rfl ty22 rfl rfl rfl rfl ?_; clear hE hS a w; intro a w hE hS
              refine WL.nil ?_
              subst hK123
              exact ⟨x126, a128, c129, x126.length, cs130, Option.some.inj hq112, h131, (rfl), hE.pick _ ⟨rfl, rfl, rfl, rfl, rfl, rfl, rfl, trivial⟩, hS⟩
            · replace hq112 := iteF hc124 hq112
              refine W.skip ?_
              subst hK123
              exact ⟨q94, a95, c96, q94.length, cs99, Option.some.inj hq112, h97, rfl, hE.pick _ ⟨rfl, rfl, rfl, rfl, rfl, rfl, rfl, trivial⟩, hS⟩
          · clear hE hS a w; rintro a w ⟨q116, a117, c118, n120, cs121, rfl, h119, rfl, hE, hS⟩
            refine W.region ?_
            refine WL.vS hS hE (runs_plain rfl) (Gives.inc hE rfl (by omega)) rfl ?_; clear hE a; intro a hE
            refine WL.vS hS hE (runs_plain rfl) (Gives.p hE rfl) rfl ?_; clear hE a; intro a hE
            refine WL.nil ?_
            subst hK101
            exact ⟨rest86, Nat.lt_succ_self _, rest86, k84 + 1, q116, a117, c118, q116.length, cs121, rfl, (by omega), hq82, h119, rfl, hE.pick _ ⟨rfl, rfl, rfl, rfl, rfl, rfl, rfl, trivial⟩, hS⟩
      · clear hE hS a w; rintro a w ⟨q94, a95, c96, n98, cs99, rfl, h97, rfl, hE, hS⟩
        refine W.seq ?_
        refine W.seq ?_
        refine W.region ?_
        refine WL.vS hS hE (runs_plain rfl) (Gives.loadB hE 1 rfl rfl rfl ty22) rfl ?_; clear hE a; intro a hE
        refine WL.vS hS hE (runs_plain rfl) (Gives.len hE rfl sl22) rfl ?_; clear hE a; intro a hE
        refine WL.vS hS hE (runs_plain rfl) (Gives.p hE rfl) rfl ?_; clear hE a; intro a hE
        refine WL.nil ?_
        refine W.cond hE rfl (fun hc132 => ?_) (fun hc132 => ?_)
        · replace hr := iteT hc132 hr
          refine W.seq ?_
          refine W.region ?_
          refine WL.vS hS hE (runs_plain rfl) (Gives.p hE rfl) rfl ?_; clear hE a; intro a hE
          refine WL.vS hS hE (runs_plain rfl) (Gives.p hE rfl) rfl ?_; clear hE a; intro a hE
          refine WL.vS hS hE (runs_plain rfl) (Gives.p hE rfl) rfl ?_; clear hE a; intro a hE
          refine WL.nil ?_
          refine W.ret ?_
          refine finG (fn := Try.f26) (rs := [.tmp 2, .tmp 3, .tmp 4]) (vs := [_, _, _]) hE rfl ⟨rfl, rfl, rfl, trivial⟩ ?_
          obtain rfl := Option.some.inj hr
          replace hS := hS.tail
          replace hS := hS.tail
          replace hS := hS.tail
          replace hS := hS.tail
          replace hS := hS.tail
          exact ⟨none, 0, none, 0, s75, rfl, hle78, Sl.nil, Sl.nil, hS⟩
        · replace hr := iteF hc132 hr
          refine W.skip ?_
          refine W.seq ?_
          refine W.region ?_
          refine WL.alloc hE hS (runs_plain rfl) zr22 rfl ?_; clear hE hS a w; intro b133 a w hE hS
          refine WL.alloc hE hS (runs_plain rfl) zr22 rfl ?_; clear hE hS a w; intro b134 a w hE hS
          refine WL.nil ?_
          refine W.seq ?_
          refine W.region ?_
          refine WL.alloc hE hS (runs_plain rfl) zr3 rfl ?_; clear hE hS a w; intro b135 a w hE hS
          refine WL.storeI hE hS 0 rfl [.int .i64 (-1)] (runs_plain rfl) rfl rfl rfl ty3 rfl rfl rfl rfl ?_; clear hE hS a w; intro a w hE hS
          refine WL.nil ?_
          refine W.seq ?_
          refine W.region ?_
          refine WL.alloc hE hS (runs_plain rfl) zr103 rfl ?_; clear hE hS a w; intro b136 a w hE hS
          refine WL.nil ?_
          refine W.seq ?_
          refine W.region ?_
          refine WL.vS hS hE (runs_plain rfl) (Gives.mkfn hE (vs := [.pointer (some ⟨b51, 0, none⟩), .pointer (some ⟨b135, 0, none⟩), .pointer (some ⟨b80, 0, none⟩), .pointer (some ⟨b77, 0, none⟩), .pointer (some ⟨b133, 0, none⟩), .pointer (some ⟨b134, 0, none⟩), .pointer (some ⟨b136, 0, none⟩)]) rfl) rfl ?_; clear hE a; intro a hE
          refine WL.storeI hE hS 0 rfl [.func (.func 65) #[] #[.pointer (some ⟨b51, 0, none⟩), .pointer (some ⟨b135, 0, none⟩), .pointer (some ⟨b80, 0, none⟩), .pointer (some ⟨b77, 0, none⟩), .pointer (some ⟨b133, 0, none⟩), .pointer (some ⟨b134, 0, none⟩), .pointer (some ⟨b136, 0, none⟩)]] (runs_plain rfl) rfl rfl rfl ty103 rfl rfl rfl rfl ?_; clear hE hS a w; intro a w hE hS
          refine WL.nil ?_
          refine W.seq ?_
          refine W.region ?_
          refine WL.vS hS hE (runs_plain rfl) (Gives.loadB hE 0 rfl rfl rfl ty103) rfl ?_; clear hE a; intro a hE
          refine WL.vS hS hE (runs_plain rfl) (Gives.p hE rfl) rfl ?_; clear hE a; intro a hE
          obtain ⟨q137, hq138, hr⟩ := bindS hr
          replace hS := hS.front 7 rfl
          replace hS := hS.front 5 rfl
          replace hS := hS.front 2 rfl
          replace hS := hS.front 4 rfl
          replace hS := hS.front 5 rfl
          replace hS := hS.front 7 rfl
          replace hS := hS.front 7 rfl
          replace hS := hS.front 7 rfl
          replace hS := hS.front 8 rfl
          have hc_ := MendBest_1_v1_ok (y0 := x0) hS h74 h0_0 h0_1 h0_2 h0_3 h0_4 h97 rfl h71 rfl Sl.nil Sl.nil hq138
          refine WL.fnw hE (hc_) rfl (runs_plain rfl) bd65 rfl rfl rfl ?_
          clear hE hS hc_; rintro e w ⟨cs139, a142, c143, a145, c146, s148, rfl, hle149, h140, hn141, h144, h147, hS⟩; refine ⟨_, rfl, ?_⟩; clear a; intro a hE
          replace h74 := Pt.mono RMendSolver.mono hle149 h74
          replace h0_0 := Sl.mono RI.mono hle149 h0_0
          replace h0_1 := Sl.mono RI.mono hle149 h0_1
          replace h0_2 := Sl.mono RI.mono hle149 h0_2
          replace h0_3 := Sl.mono RMendArc.mono hle149 h0_3
          replace h0_4 := Sl.mono RMendChoice.mono hle149 h0_4
          replace h97 := Ev.mono RI.mono hle149 h97
          replace h71 := Ev.mono RI.mono hle149 h71
          refine WL.nil ?_
          refine W.seq ?_
          refine W.seq ?_
          refine W.region ?_
          refine WL.vS hS hE (runs_plain rfl) (Gives.loadB hE 1 rfl rfl rfl ty3) rfl ?_; clear hE a; intro a hE
          refine WL.vS hS hE (runs_plain rfl) (Gives.p hE rfl) rfl ?_; clear hE a; intro a hE
          refine WL.nil ?_
          refine W.cond hE rfl (fun hc150 => ?_) (fun hc150 => ?_)
          · replace hr := iteT hc150 hr
            refine W.seq ?_
            refine W.region ?_
            refine WL.vS hS hE (runs_plain rfl) (Gives.p hE rfl) rfl ?_; clear hE a; intro a hE
            refine WL.vS hS hE (runs_plain rfl) (Gives.p hE rfl) rfl ?_; clear hE a; intro a hE
            refine WL.vS hS hE (runs_plain rfl) (Gives.p hE rfl) rfl ?_; clear hE a; intro a hE
            refine WL.nil ?_
            refine W.ret ?_
            refine finG (fn := Try.f26) (rs := [.tmp 2, .tmp 3, .tmp 4]) (vs := [_, _, _]) hE rfl ⟨rfl, rfl, rfl, trivial⟩ ?_
            obtain rfl := Option.some.inj hr
            replace hS := hS.tail
            replace hS := hS.tail
            replace hS := hS.tail
            replace hS := hS.tail
            replace hS := hS.tail
            replace hS := hS.tail
            replace hS := hS.tail
            replace hS := hS.tail
            replace hS := hS.tail
            exact ⟨none, 0, none, 0, s148, rfl, (Sg.Le.trans hle78 hle149), Sl.nil, Sl.nil, hS⟩
          · replace hr := iteF hc150 hr
            refine W.skip ?_
            refine W.seq ?_
            refine W.regionQ (C := fun w => St w s148 (pt b51 (.cells #[.slice a0_0 x0.Ready.length c0_0, .slice a0_1 x0.Last.length c0_1, .slice a0_2 x0.Due.length c0_2, .slice a0_3 x0.Arcs.length c0_3, .slice a0_4 x0.Choices.length c0_4] 50 (0, 0)) :: pt b135 (.cells #[.int .i64 q137.2.1] 3 (0, 0)) :: pt b80 (.cells #[.slice a95 q94.length c96] 22 (0, 0)) :: pt b77 (.cells #[.slice a67 q65.1.length c68] 22 (0, 0)) :: pt b133 (.cells #[.slice a142 q137.2.2.1.length c143] 22 (0, 0)) :: pt b134 (.cells #[.slice a145 q137.2.2.2.length c146] 22 (0, 0)) :: pt b136 (.cells #[.func (.func 65) #[] #[.pointer (some ⟨b51, 0, none⟩), .pointer (some ⟨b135, 0, none⟩), .pointer (some ⟨b80, 0, none⟩), .pointer (some ⟨b77, 0, none⟩), .pointer (some ⟨b133, 0, none⟩), .pointer (some ⟨b134, 0, none⟩), .pointer (some ⟨b136, 0, none⟩)]] 103 (0, 0)) :: vecC 3 1 a95 c96 q94.length cs99 :: vecC 3 1 a67 c68 q65.1.length cs139 :: R)) mixed (by kernel_rfl) hS.drew ?_
            refine QL.v hE (runs_plain rfl) (Gives.loadB hE 4 rfl rfl rfl ty22) rfl ?_; clear hE a; intro a hE
            refine QL.v hE (runs_plain rfl) (Gives.loadB hE 5 rfl rfl rfl ty22) rfl ?_; clear hE a; intro a hE
            refine QL.v hE (runs_plain rfl) (Gives.p hE rfl) rfl ?_; clear hE a; intro a hE
            refine QL.v hE (runs_plain rfl) (Gives.p hE rfl) rfl ?_; clear hE a; intro a hE
            refine QL.v hE (runs_plain rfl) (Gives.p hE rfl) rfl ?_; clear hE a; intro a hE
            refine QL.nil ?_; clear hS w; intro w hS
            refine W.ret ?_
            refine finG (fn := Try.f26) (rs := [.tmp 2, .tmp 3, .tmp 4]) (vs := [_, _, _]) hE rfl ⟨rfl, rfl, rfl, trivial⟩ ?_
            obtain rfl := Option.some.inj hr
            replace hS := hS.tail
            replace hS := hS.tail
            replace hS := hS.tail
            replace hS := hS.tail
            replace hS := hS.tail
            replace hS := hS.tail
            replace hS := hS.tail
            replace hS := hS.tail
            replace hS := hS.tail
            exact ⟨a142, c143, a145, c146, s148, rfl, (Sg.Le.trans hle78 hle149), h144, h147, hS⟩
set_option maxHeartbeats 8000000 in
theorem Fishref2within_ok  {w : World} {s : Sg} {R : List HP} {x0 : Int} {x1 : Int} {x2 : Int} (hS : St w s (R))  {r : Bool} (hr : Fishref2within x0 x1 x2 = r) :
    Calls Try.prog 51 [.int .i64 x0, .int .i64 x1, .int .i64 x2].toArray w (fun e w => e = .returned (.bool r) ∧ St w s (R)) := by
  refine enter Try.func51 rfl rfl rfl fun a hE => ?_
  rw [Fishref2within] at hr
  refine W.seq ?_
  refine W.region ?_
  refine WL.vS hS hE (runs_plain rfl) (Gives.p hE rfl) rfl ?_; clear hE a; intro a hE
  refine WL.nil ?_
  refine W.seq ?_
  obtain ⟨q52, hq51, hr⟩ := bndS hr
  refine W.cut (fun a w => ∃ (q55 : Bool), q55 = q52 ∧ Rep a 15 [(6, .bool q55)] ∧ St w s (R)) ?_ ?_
  · refine W.gen fun K56 hK56 => ?_
    refine W.region ?_
    refine WL.vS hS hE (runs_plain rfl) (Gives.p hE rfl) rfl ?_; clear hE a; intro a hE
    refine WL.vS hS hE (runs_plain rfl) (Gives.p hE rfl) rfl ?_; clear hE a; intro a hE
    refine WL.vS hS hE (runs_plain rfl) (Gives.p hE rfl) rfl ?_; clear hE a; intro a hE
    refine WL.vS hS hE (runs_plain rfl) (Gives.p hE rfl) rfl ?_; clear hE a; intro a hE
    rcases Bool.eq_false_or_eq_true (decide (x0 ≥ x1)) with hg57 | hg57
    · replace hq51 := iteT hg57 hq51
      refine WL.vS hS hE (runs_if hE rfl rfl rfl hg57) (Gives.p hE rfl) rfl ?_; clear hE a; intro a hE
      refine WL.vS hS hE (runs_if hE rfl rfl rfl hg57) (Gives.p hE rfl) rfl ?_; clear hE a; intro a hE
      refine WL.vS hS hE (runs_if hE rfl rfl rfl hg57) (Gives.p hE rfl) rfl ?_; clear hE a; intro a hE
      refine WL.vS hS hE (runs_plain rfl) (Gives.pickT hE rfl hg57 rfl) rfl ?_; clear hE a; intro a hE
      refine WL.vS hS hE (runs_plain rfl) (Gives.p hE rfl) rfl ?_; clear hE a; intro a hE
      refine WL.nil ?_
      subst hK56
      exact ⟨decide (x0 ≤ x2), hq51, hE.pick _ ⟨rfl, trivial⟩, hS⟩
    · replace hq51 := iteF hg57 hq51
      refine WL.no hE (runs_not hE rfl rfl rfl (by rw [hg57]; decide)) rfl ?_; clear hE a; intro a hE
      refine WL.no hE (runs_not hE rfl rfl rfl (by rw [hg57]; decide)) rfl ?_; clear hE a; intro a hE
      refine WL.no hE (runs_not hE rfl rfl rfl (by rw [hg57]; decide)) rfl ?_; clear hE a; intro a hE
      refine WL.vS hS hE (runs_plain rfl) (Gives.pickF hE rfl hg57 rfl) rfl ?_; clear hE a; intro a hE
      refine WL.vS hS hE (runs_plain rfl) (Gives.p hE rfl) rfl ?_; clear hE a; intro a hE
      refine WL.nil ?_
      subst hK56
      exact ⟨false, hq51, hE.pick _ ⟨rfl, trivial⟩, hS⟩
  · clear hE hS a w; rintro a w ⟨q55, rfl, hE, hS⟩
    refine W.ret ?_
    refine finG (fn := Try.f51) (rs := [.tmp 6]) (vs := [_]) hE rfl ⟨rfl, trivial⟩ ?_
    subst hr
    exact ⟨rfl, hS⟩
set_option maxHeartbeats 8000000 in
theorem Fishref2arcFault_ok  {w : World} {s : Sg} {R : List HP} {x0 : MendArc} {x1 : Int} (hS : St w s (R))  {r : Int} (hr : Fishref2arcFault x0 x1 = r) :
    Calls Try.prog 63 [.agg (MendArc.cells x0).toArray, .int .i64 x1].toArray w (fun e w => e = .returned (.int .i64 r) ∧ St w s (R)) := by
  refine enter Try.func63 rfl rfl rfl fun a hE => ?_
  rw [Fishref2arcFault] at hr
  refine W.seq ?_
  refine W.region ?_
  refine WL.box hE hS (runs_plain rfl) rfl rfl rfl ?_; clear hE hS a w; intro b51 a w hE hS
  refine WL.vS hS hE (runs_plain rfl) (Gives.p hE rfl) rfl ?_; clear hE a; intro a hE
  refine WL.nil ?_
  refine W.seq ?_
  refine W.block ?_
  refine W.seq ?_
  obtain ⟨q53, hq52, hr⟩ := bndS hr
  refine W.cut (fun a w => ∃ (q56 : Bool), q56 = q53 ∧ Rep a 37 [(2, .pointer (some ⟨b51, 0, none⟩)), (5, .bool q56)] ∧ St w s (pt b51 (.cells (MendArc.cells x0).toArray 94 (0, 0)) :: R)) ?_ ?_
  · refine W.gen fun K57 hK57 => ?_
    refine W.region ?_
    refine WL.vS hS hE (runs_plain rfl) (Gives.fld hE rfl fl94_0) rfl ?_; clear hE a; intro a hE
    refine WL.vS hS hE (runs_plain rfl) (Gives.loadB hE 0 rfl rfl rfl ty3) rfl ?_; clear hE a; intro a hE
    refine WL.vS hS hE (runs_plain rfl) (Gives.p hE rfl) rfl ?_; clear hE a; intro a hE
    refine WL.vS hS hE (runs_plain rfl) (Gives.p hE rfl) rfl ?_; clear hE a; intro a hE
    rcases Bool.eq_false_or_eq_true (decide (x0.From < 0)) with hg58 | hg58
    · replace hq52 := iteT hg58 hq52
      refine WL.no hE (runs_not hE rfl rfl rfl (by rw [hg58]; decide)) rfl ?_; clear hE a; intro a hE
      refine WL.no hE (runs_not hE rfl rfl rfl (by rw [hg58]; decide)) rfl ?_; clear hE a; intro a hE
      refine WL.no hE (runs_not hE rfl rfl rfl (by rw [hg58]; decide)) rfl ?_; clear hE a; intro a hE
      refine WL.no hE (runs_not hE rfl rfl rfl (by rw [hg58]; decide)) rfl ?_; clear hE a; intro a hE
      refine WL.vS hS hE (runs_plain rfl) (Gives.pickT hE rfl hg58 rfl) rfl ?_; clear hE a; intro a hE
      refine WL.vS hS hE (runs_plain rfl) (Gives.p hE rfl) rfl ?_; clear hE a; intro a hE
      refine WL.no hE (runs_not hE rfl rfl rfl (by decide)) rfl ?_; clear hE a; intro a hE
      refine WL.no hE (runs_not hE rfl rfl rfl (by decide)) rfl ?_; clear hE a; intro a hE
      refine WL.no hE (runs_not hE rfl rfl rfl (by decide)) rfl ?_; clear hE a; intro a hE
      refine WL.vS hS hE (runs_plain rfl) (Gives.pickT hE rfl rfl rfl) rfl ?_; clear hE a; intro a hE
      refine WL.vS hS hE (runs_plain rfl) (Gives.p hE rfl) rfl ?_; clear hE a; intro a hE
      refine WL.no hE (runs_not hE rfl rfl rfl (by decide)) rfl ?_; clear hE a; intro a hE
      refine WL.no hE (runs_not hE rfl rfl rfl (by decide)) rfl ?_; clear hE a; intro a hE
      refine WL.no hE (runs_not hE rfl rfl rfl (by decide)) rfl ?_; clear hE a; intro a hE
      refine WL.no hE (runs_not hE rfl rfl rfl (by decide)) rfl ?_; clear hE a; intro a hE
      refine WL.vS hS hE (runs_plain rfl) (Gives.pickT hE rfl rfl rfl) rfl ?_; clear hE a; intro a hE
      refine WL.vS hS hE (runs_plain rfl) (Gives.p hE rfl) rfl ?_; clear hE a; intro a hE
      refine WL.nil ?_
      subst hK57
      exact ⟨true, hq52, hE.pick _ ⟨rfl, rfl, trivial⟩, hS⟩
    · replace hq52 := iteF hg58 hq52
      refine WL.vS hS hE (runs_if hE rfl rfl rfl hg58) (Gives.fld hE rfl fl94_0) rfl ?_; clear hE a; intro a hE
      refine WL.vS hS hE (runs_if hE rfl rfl rfl hg58) (Gives.loadB hE 0 rfl rfl rfl ty3) rfl ?_; clear hE a; intro a hE
      refine WL.vS hS hE (runs_if hE rfl rfl rfl hg58) (Gives.p hE rfl) rfl ?_; clear hE a; intro a hE
      refine WL.vS hS hE (runs_if hE rfl rfl rfl hg58) (Gives.p hE rfl) rfl ?_; clear hE a; intro a hE
      refine WL.vS hS hE (runs_plain rfl) (Gives.pickF hE rfl hg58 rfl) rfl ?_; clear hE a; intro a hE
      refine WL.vS hS hE (runs_plain rfl) (Gives.p hE rfl) rfl ?_; clear hE a; intro a hE
      rcases Bool.eq_false_or_eq_true (decide (x0.From ≥ x1)) with hg59 | hg59
      · replace hq52 := iteT hg59 hq52
        refine WL.no hE (runs_not hE rfl rfl rfl (by rw [hg59]; decide)) rfl ?_; clear hE a; intro a hE
        refine WL.no hE (runs_not hE rfl rfl rfl (by rw [hg59]; decide)) rfl ?_; clear hE a; intro a hE
        refine WL.no hE (runs_not hE rfl rfl rfl (by rw [hg59]; decide)) rfl ?_; clear hE a; intro a hE
        refine WL.vS hS hE (runs_plain rfl) (Gives.pickT hE rfl hg59 rfl) rfl ?_; clear hE a; intro a hE
        refine WL.vS hS hE (runs_plain rfl) (Gives.p hE rfl) rfl ?_; clear hE a; intro a hE
        refine WL.no hE (runs_not hE rfl rfl rfl (by decide)) rfl ?_; clear hE a; intro a hE
        refine WL.no hE (runs_not hE rfl rfl rfl (by decide)) rfl ?_; clear hE a; intro a hE
        refine WL.no hE (runs_not hE rfl rfl rfl (by decide)) rfl ?_; clear hE a; intro a hE
        refine WL.no hE (runs_not hE rfl rfl rfl (by decide)) rfl ?_; clear hE a; intro a hE
        refine WL.vS hS hE (runs_plain rfl) (Gives.pickT hE rfl rfl rfl) rfl ?_; clear hE a; intro a hE
        refine WL.vS hS hE (runs_plain rfl) (Gives.p hE rfl) rfl ?_; clear hE a; intro a hE
        refine WL.nil ?_
        subst hK57
        exact ⟨true, hq52, hE.pick _ ⟨rfl, rfl, trivial⟩, hS⟩
      · replace hq52 := iteF hg59 hq52
        refine WL.vS hS hE (runs_if hE rfl rfl rfl hg59) (Gives.fld hE rfl fl94_1) rfl ?_; clear hE a; intro a hE
        refine WL.vS hS hE (runs_if hE rfl rfl rfl hg59) (Gives.loadB hE 0 rfl rfl rfl ty3) rfl ?_; clear hE a; intro a hE
        refine WL.vS hS hE (runs_if hE rfl rfl rfl hg59) (Gives.p hE rfl) rfl ?_; clear hE a; intro a hE
        refine WL.vS hS hE (runs_plain rfl) (Gives.pickF hE rfl hg59 rfl) rfl ?_; clear hE a; intro a hE
        refine WL.vS hS hE (runs_plain rfl) (Gives.p hE rfl) rfl ?_; clear hE a; intro a hE
        rcases Bool.eq_false_or_eq_true (decide (x0.To < 0)) with hg60 | hg60
        · replace hq52 := iteT hg60 hq52
          refine WL.no hE (runs_not hE rfl rfl rfl (by rw [hg60]; decide)) rfl ?_; clear hE a; intro a hE
          refine WL.no hE (runs_not hE rfl rfl rfl (by rw [hg60]; decide)) rfl ?_; clear hE a; intro a hE
          refine WL.no hE (runs_not hE rfl rfl rfl (by rw [hg60]; decide)) rfl ?_; clear hE a; intro a hE
          refine WL.no hE (runs_not hE rfl rfl rfl (by rw [hg60]; decide)) rfl ?_; clear hE a; intro a hE
          refine WL.vS hS hE (runs_plain rfl) (Gives.pickT hE rfl hg60 rfl) rfl ?_; clear hE a; intro a hE
          refine WL.vS hS hE (runs_plain rfl) (Gives.p hE rfl) rfl ?_; clear hE a; intro a hE
          refine WL.nil ?_
          subst hK57
          exact ⟨true, hq52, hE.pick _ ⟨rfl, rfl, trivial⟩, hS⟩
        · replace hq52 := iteF hg60 hq52
          refine WL.vS hS hE (runs_if hE rfl rfl rfl hg60) (Gives.fld hE rfl fl94_1) rfl ?_; clear hE a; intro a hE
          refine WL.vS hS hE (runs_if hE rfl rfl rfl hg60) (Gives.loadB hE 0 rfl rfl rfl ty3) rfl ?_; clear hE a; intro a hE
          refine WL.vS hS hE (runs_if hE rfl rfl rfl hg60) (Gives.p hE rfl) rfl ?_; clear hE a; intro a hE
          refine WL.vS hS hE (runs_if hE rfl rfl rfl hg60) (Gives.p hE rfl) rfl ?_; clear hE a; intro a hE
          refine WL.vS hS hE (runs_plain rfl) (Gives.pickF hE rfl hg60 rfl) rfl ?_; clear hE a; intro a hE
          refine WL.vS hS hE (runs_plain rfl) (Gives.p hE rfl) rfl ?_; clear hE a; intro a hE
          refine WL.nil ?_
          subst hK57
          exact ⟨decide (x0.To ≥ x1), hq52, hE.pick _ ⟨rfl, rfl, trivial⟩, hS⟩
  · clear hE hS a w; rintro a w ⟨q56, rfl, hE, hS⟩
    refine W.cond hE rfl (fun hc61 => ?_) (fun hc61 => ?_)
    · replace hr := iteT hc61 hr
      refine W.seq ?_
      refine W.region ?_
      refine WL.vS hS hE (runs_plain rfl) (Gives.p hE rfl) rfl ?_; clear hE a; intro a hE
      refine WL.nil ?_
      refine W.ret ?_
      refine finG (fn := Try.f63) (rs := [.tmp 4]) (vs := [_]) hE rfl ⟨rfl, trivial⟩ ?_
      subst hr
      replace hS := hS.tail
      exact ⟨rfl, hS⟩
    · replace hr := iteF hc61 hr
      refine W.seq ?_
      refine W.region ?_
      refine WL.vS hS hE (runs_plain rfl) (Gives.fld hE rfl fl94_0) rfl ?_; clear hE a; intro a hE
      refine WL.vS hS hE (runs_plain rfl) (Gives.loadB hE 0 rfl rfl rfl ty3) rfl ?_; clear hE a; intro a hE
      refine WL.vS hS hE (runs_plain rfl) (Gives.fld hE rfl fl94_1) rfl ?_; clear hE a; intro a hE
      refine WL.vS hS hE (runs_plain rfl) (Gives.loadB hE 0 rfl rfl rfl ty3) rfl ?_; clear hE a; intro a hE
      refine WL.vS hS hE (runs_plain rfl) (Gives.p hE rfl) rfl ?_; clear hE a; intro a hE
      refine WL.vS hS hE (runs_plain rfl) (Gives.p hE rfl) rfl ?_; clear hE a; intro a hE
      refine WL.nil ?_
      refine W.cond hE rfl (fun hc62 => ?_) (fun hc62 => ?_)
      · replace hr := iteT hc62 hr
        refine W.seq ?_
        refine W.region ?_
        refine WL.vS hS hE (runs_plain rfl) (Gives.p hE rfl) rfl ?_; clear hE a; intro a hE
        refine WL.nil ?_
        refine W.ret ?_
        refine finG (fn := Try.f63) (rs := [.tmp 4]) (vs := [_]) hE rfl ⟨rfl, trivial⟩ ?_
        subst hr
        replace hS := hS.tail
        exact ⟨rfl, hS⟩
      · replace hr := iteF hc62 hr
        refine W.seq ?_
        refine W.region ?_
        refine WL.vS hS hE (runs_plain rfl) (Gives.fld hE rfl fl94_2) rfl ?_; clear hE a; intro a hE
        refine WL.vS hS hE (runs_plain rfl) (Gives.loadB hE 0 rfl rfl rfl ty3) rfl ?_; clear hE a; intro a hE
        refine WL.fnq hE (Fishref2within_ok hS  rfl (r := Fishref2within x0.Len (-28800) 28800)) (runs_plain rfl) bd51 rfl rfl rfl ?_
        clear hE hS; rintro e w ⟨rfl, hS⟩; refine ⟨_, rfl, ?_⟩; clear a; intro a hE
        refine WL.vS hS hE (runs_plain rfl) (Gives.p hE rfl) rfl ?_; clear hE a; intro a hE
        refine WL.vS hS hE (runs_plain rfl) (Gives.p hE rfl) rfl ?_; clear hE a; intro a hE
        refine WL.nil ?_
        refine W.cond hE rfl (fun hc63 => ?_) (fun hc63 => ?_)
        · replace hr := iteT hc63 hr
          refine W.seq ?_
          refine W.region ?_
          refine WL.vS hS hE (runs_plain rfl) (Gives.p hE rfl) rfl ?_; clear hE a; intro a hE
          refine WL.nil ?_
          refine W.ret ?_
          refine finG (fn := Try.f63) (rs := [.tmp 4]) (vs := [_]) hE rfl ⟨rfl, trivial⟩ ?_
          subst hr
          replace hS := hS.tail
          exact ⟨rfl, hS⟩
        · replace hr := iteF hc63 hr
          refine W.skip ?_
          refine W.seq ?_
          refine W.region ?_
          refine WL.vS hS hE (runs_plain rfl) (Gives.p hE rfl) rfl ?_; clear hE a; intro a hE
          refine WL.nil ?_
          refine W.ret ?_
          refine finG (fn := Try.f63) (rs := [.tmp 4]) (vs := [_]) hE rfl ⟨rfl, trivial⟩ ?_
          subst hr
          replace hS := hS.tail
          exact ⟨rfl, hS⟩
end Go.Proofs.Ytfioafdipipcaaa
