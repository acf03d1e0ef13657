/- The walks of the functions that FleetAssigns reaches: each call comes to what its mirror says. The conditions are those of each contract. -/
import Derived.Test.YtfhkpdnohcidgaaProg
import Derived.Test.YtfhkpdnohcidgaaFleetAssignsM
import Derived.Test.YtfhkpdnohcidgaaFpMore
import Derived.Test.YtfhkpdnohcidgaaFleetAssignsW1
namespace Go.Proofs.Ytfhkpdnohcidgaa
open Go Go.Fp
set_option maxHeartbeats 8000000 in
theorem FleetGivernote_v1_ok {fu : Nat}  {w : World} {s : Sg} {R : List HP} {pb0 : Nat} {y0 : FleetGiver} {a_y0_0 : Option Addr} {c_y0_0 : Nat} {a_y0_2 : Option Addr} {c_y0_2 : Nat} {a_v0 : Option Addr} {c_v0 n_v0 : Nat} {cs_v0 : List Value} {a_v1 : Option Addr} {c_v1 n_v1 : Nat} {cs_v1 : List Value} {a_y0_8 : Option Addr} {c_y0_8 : Nat} (hS : St w s (pt pb0 (.cells #[.slice a_y0_0 y0.tasks.length c_y0_0, .int .i64 y0.turn, .slice a_y0_2 y0.sets.length c_y0_2, .int .i64 y0.shop.Place, .int .i64 y0.shop.Long, .int .i64 y0.shop.Limit, .slice a_v0 n_v0 c_v0, .slice a_v1 n_v1 c_v1, .slice a_y0_8 y0.best.length c_y0_8, .int .i64 y0.least] 93 (0, 0)) :: vecC 3 1 a_v0 c_v0 n_v0 cs_v0 :: vecC 44 1 a_v1 c_v1 n_v1 cs_v1 :: R)) (h_y0_0 : Sl 6 RFleetTask s a_y0_0 c_y0_0 y0.tasks) (h_y0_2 : Sl 2 RFleetSet s a_y0_2 c_y0_2 y0.sets) (h_v0 : Ev 1 (RI .i64) s cs_v0 y0.order) (hn_v0 : y0.order.length = n_v0) (h_v1 : Ev 1 (RL 1 (RI .i64)) s cs_v1 y0.turns) (hn_v1 : y0.turns.length = n_v1) (h_y0_8 : Sl 1 (RL 1 (RI .i64)) s a_y0_8 c_y0_8 y0.best) (hz_y0_8 : y0.best = [] → a_y0_8 = none) {r : (List (List Int)) × Int} (hr : FleetGivernote_v1 fu y0 = some r) :
  Calls Try.prog 106 [.pointer (some ⟨pb0, 0, none⟩)].toArray w (fun e w => ∃ (a58 : Option Addr) (c59 : Nat) (t : Sg), e = .returned (.tuple #[]) ∧ s.Le t ∧ Sl 1 (RL 1 (RI .i64)) t a58 c59 r.1 ∧ (r.1 = [] → a58 = none) ∧ St w t (pt pb0 (.cells #[.slice a_y0_0 y0.tasks.length c_y0_0, .int .i64 y0.turn, .slice a_y0_2 y0.sets.length c_y0_2, .int .i64 y0.shop.Place, .int .i64 y0.shop.Long, .int .i64 y0.shop.Limit, .slice a_v0 n_v0 c_v0, .slice a_v1 n_v1 c_v1, .slice a58 r.1.length c59, .int .i64 r.2] 93 (0, 0)) :: vecC 3 1 a_v0 c_v0 n_v0 cs_v0 :: vecC 44 1 a_v1 c_v1 n_v1 cs_v1 :: R)) := by
 refine enter Try.func106 rfl rfl rfl fun a hE => ?_
 rw [FleetGivernote_v1] at hr
 subst hn_v0
 subst hn_v1
 refine W.seq (W.region ?_)
 refine WL.vS hS hE (runs_plain rfl) (Gives.p hE rfl) rfl ?_; clear hE a; intro a hE
 refine WL.nil ?_
 refine W.seq ?_
 refine W.seq (W.region ?_)
 refine WL.vS hS hE (runs_plain rfl) (Gives.p hE rfl) rfl ?_; clear hE a; intro a hE
 refine WL.vS hS hE (runs_plain rfl) (Gives.nilOk hE rfl) rfl ?_; clear hE a; intro a hE
 refine WL.vS hS hE (runs_plain rfl) (Gives.fld hE rfl fl93_5) rfl ?_; clear hE a; intro a hE
 refine WL.vS hS hE (runs_plain rfl) (Gives.loadB hE 0 rfl rfl rfl ty25) rfl ?_; clear hE a; intro a hE
 refine WL.vS hS hE (runs_plain rfl) (Gives.len hE rfl sl25) rfl ?_; clear hE a; intro a hE
 refine WL.vS hS hE (runs_plain rfl) (Gives.p hE rfl) rfl ?_; clear hE a; intro a hE
 refine WL.nil ?_
 have hb74 : y0.turns.length ≤ 9223372036854775807 := by have := hS.vecCap 2 rfl; unfold maxLen at this; omega
 obtain ⟨q64, hq63, hr⟩ := bindS hr
 refine W.cut (fun a w => ∃ (q75 : Int), (.next q75) = q64 ∧ Rep a 69 [(0, .pointer (some ⟨pb0, 0, none⟩)), (2, .int .i64 q75)] ∧ St w s (pt pb0 (.cells #[.slice a_y0_0 y0.tasks.length c_y0_0, .int .i64 y0.turn, .slice a_y0_2 y0.sets.length c_y0_2, .int .i64 y0.shop.Place, .int .i64 y0.shop.Long, .int .i64 y0.shop.Limit, .slice a_v0 y0.order.length c_v0, .slice a_v1 y0.turns.length c_v1, .slice a_y0_8 y0.best.length c_y0_8, .int .i64 y0.least] 93 (0, 0)) :: vecC 3 1 a_v0 c_v0 y0.order.length cs_v0 :: vecC 44 1 a_v1 c_v1 y0.turns.length cs_v1 :: R)) ?_ ?_
 ·refine W.block ?_
  refine W.loop (fun m a w => ∃ (rest67 : Nat) (k65 : Nat), ∃ (q75 : Int), rest67 = m ∧ k65 + rest67 = y0.turns.length ∧ FleetGivernote_v1.loop1 y0 fu rest67 k65 q75 = some q64 ∧ Rep a 69 [(0, .pointer (some ⟨pb0, 0, none⟩)), (2, .int .i64 q75), (10, .slice a_v1 y0.turns.length c_v1), (11, .int .i64 ((y0.turns.length : Nat) : Int)), (12, .int .i64 ((k65 : Nat) : Int))] ∧ St w s (pt pb0 (.cells #[.slice a_y0_0 y0.tasks.length c_y0_0, .int .i64 y0.turn, .slice a_y0_2 y0.sets.length c_y0_2, .int .i64 y0.shop.Place, .int .i64 y0.shop.Long, .int .i64 y0.shop.Limit, .slice a_v0 y0.order.length c_v0, .slice a_v1 y0.turns.length c_v1, .slice a_y0_8 y0.best.length c_y0_8, .int .i64 y0.least] 93 (0, 0)) :: vecC 3 1 a_v0 c_v0 y0.order.length cs_v0 :: vecC 44 1 a_v1 c_v1 y0.turns.length cs_v1 :: R)) (m := y0.turns.length) ⟨y0.turns.length, 0, 0, rfl, by omega, hq63, hE.pick _ ⟨rfl, rfl, rfl, rfl, rfl, trivial⟩, hS⟩ ?_
  clear hE hS a w hq63; rintro m71 a w ⟨rest67, k65, q75, rfl, hd68, hq63, hE, hS⟩
  refine W.gen fun K76 hK76 => ?_
  rcases rest67 with _ | rest67
  ·skip
   refine W.seq (W.region ?_)
   refine WL.vS hS hE (runs_plain rfl) (Gives.p hE rfl) rfl ?_; clear hE a; intro a hE
   refine WL.nil ?_
   refine W.seq ?_
   refine W.condF hE rfl (decide_eq_false (by omega)) ?_
   subst hK76
   refine W.exit rfl ?_
   exact ⟨q75, Option.some.inj hq63, hE.pick _ ⟨rfl, rfl, trivial⟩, hS⟩
  ·have hlt69 : k65 < y0.turns.length := by omega
   rw [FleetGivernote_v1.loop1] at hq63
   refine W.seq (W.region ?_)
   refine WL.vS hS hE (runs_plain rfl) (Gives.p hE rfl) rfl ?_; clear hE a; intro a hE
   refine WL.nil ?_
   refine W.seq ?_
   refine W.condT hE rfl (decide_eq_true (by omega)) ?_
   refine W.skip ?_
   refine W.seq ?_
   refine W.block ?_
   refine W.seq (W.region ?_)
   refine WL.vS hS hE (runs_plain rfl) (Gives.p hE rfl) rfl ?_; clear hE a; intro a hE
   obtain ⟨x77, hx78, hq63⟩ := bindS hq63
   obtain ⟨hi79, hlt80, hy81⟩ := gx_some hx78
   obtain ⟨vs82, hl83, hR84, hd85, hget86⟩ := h_v1.at hy81
   obtain ⟨a87, c88, rfl, h89⟩ := hR84
   refine WL.vS hS hE (runs_plain rfl) (Gives.idx hE ((((k65 : Nat) : Int)).toNat) rfl rfl sl25 hi79 (by omega) (hS.vecAok 2 rfl (by omega : (((k65 : Nat) : Int)).toNat < y0.turns.length))) rfl ?_; clear hE a; intro a hE
   refine WL.vS hS hE (runs_plain rfl) (Gives.load1 hE rfl (fun w h => St.vecSees h 2 rfl ((((k65 : Nat) : Int)).toNat * 1) _ hget86) ty44) rfl ?_; clear hE a; intro a hE
   refine WL.vS hS hE (runs_plain rfl) (Gives.p hE rfl) rfl ?_; clear hE a; intro a hE
   refine WL.vS hS hE (runs_plain rfl) (Gives.p hE rfl) rfl ?_; clear hE a; intro a hE
   refine WL.nil ?_
   refine W.seq ?_
   refine W.gen fun K90 hK90 => ?_
   refine W.regionE (sel (fun w => St w s (pt pb0 (.cells #[.slice a_y0_0 y0.tasks.length c_y0_0, .int .i64 y0.turn, .slice a_y0_2 y0.sets.length c_y0_2, .int .i64 y0.shop.Place, .int .i64 y0.shop.Long, .int .i64 y0.shop.Limit, .slice a_v0 y0.order.length c_v0, .slice a_v1 y0.turns.length c_v1, .slice a_y0_8 y0.best.length c_y0_8, .int .i64 y0.least] 93 (0, 0)) :: vecC 3 1 a_v0 c_v0 y0.order.length cs_v0 :: vecC 44 1 a_v1 c_v1 y0.turns.length cs_v1 :: R)) (fun w => St w s (pt pb0 (.cells #[.slice a_y0_0 y0.tasks.length c_y0_0, .int .i64 y0.turn, .slice a_y0_2 y0.sets.length c_y0_2, .int .i64 y0.shop.Place, .int .i64 y0.shop.Long, .int .i64 y0.shop.Limit, .slice a_v0 y0.order.length c_v0, .slice a_v1 y0.turns.length c_v1, .slice a_y0_8 y0.best.length c_y0_8, .int .i64 y0.least] 93 (0, 0)) :: vecC 3 1 a_v0 c_v0 y0.order.length cs_v0 :: vecC 44 1 a_v1 c_v1 y0.turns.length cs_v1 :: R))) (fun b i => cond b ([0, 1, 2, 3, 4, 5, 6, 7, 8, 9, 10, 11, 12, 13, 14, 15, 16, 17, 18, 19, 20, 21].contains i) ([0, 1, 2, 3, 4, 5, 6, 7, 8, 9, 10, 11, 12, 13, 14, 15, 16, 17, 18, 19, 20, 21].contains i)) mixed ?_
   replace hS := hS.drew
   refine Rg.takeP (i := 0) hE rfl (by kernel_rfl) (runs_plain rfl) (Gives.p hE rfl) rfl (tw_sel (fun _ => hS) (fun _ => hS)) ?_; clear hE a; intro a hE
   have hT := tw_sel (A := fun w => St w s _) (B := fun w => St w s _) (w := _) (x := true) (y := true) (fun _ => hS) (fun _ => hS)
   have hF := hS; replace hS := hS
   refine Rg.take (i := 1) true rfl hE rfl (by kernel_rfl) (runs_plain rfl) (Gives.nilOk hE rfl) rfl hT ?_; clear hE a; intro a hE
   replace hS := hF; clear hF hT
   refine Rg.takeP (i := 2) hE rfl (by kernel_rfl) (runs_plain rfl) (Gives.fld hE rfl fl93_0) rfl (tw_sel (fun _ => hS) (fun _ => hS)) ?_; clear hE a; intro a hE
   have hT := tw_sel (A := fun w => St w s _) (B := fun w => St w s _) (w := _) (x := true) (y := true) (fun _ => hS) (fun _ => hS)
   have hF := hS; replace hS := hS
   refine Rg.take (i := 3) true rfl hE rfl (by kernel_rfl) (runs_plain rfl) (Gives.loadB hE 0 rfl rfl rfl ty32) rfl hT ?_; clear hE a; intro a hE
   replace hS := hF; clear hF hT
   refine Rg.takeP (i := 4) hE rfl (by kernel_rfl) (runs_plain rfl) (Gives.p hE rfl) rfl (tw_sel (fun _ => hS) (fun _ => hS)) ?_; clear hE a; intro a hE
   refine Rg.takeP (i := 5) hE rfl (by kernel_rfl) (runs_plain rfl) (Gives.p hE rfl) rfl (tw_sel (fun _ => hS) (fun _ => hS)) ?_; clear hE a; intro a hE
   have hT := tw_sel (A := fun w => St w s _) (B := fun w => St w s _) (w := _) (x := true) (y := true) (fun _ => hS) (fun _ => hS)
   have hF := hS; replace hS := hS
   refine Rg.take (i := 6) true rfl hE rfl (by kernel_rfl) (runs_plain rfl) (Gives.nilOk hE rfl) rfl hT ?_; clear hE a; intro a hE
   replace hS := hF; clear hF hT
   refine Rg.takeP (i := 7) hE rfl (by kernel_rfl) (runs_plain rfl) (Gives.fld hE rfl fl93_2) rfl (tw_sel (fun _ => hS) (fun _ => hS)) ?_; clear hE a; intro a hE
   have hT := tw_sel (A := fun w => St w s _) (B := fun w => St w s _) (w := _) (x := true) (y := true) (fun _ => hS) (fun _ => hS)
   have hF := hS; replace hS := hS
   refine Rg.take (i := 8) true rfl hE rfl (by kernel_rfl) (runs_plain rfl) (Gives.loadB hE 0 rfl rfl rfl ty33) rfl hT ?_; clear hE a; intro a hE
   replace hS := hF; clear hF hT
   refine Rg.takeP (i := 9) hE rfl (by kernel_rfl) (runs_plain rfl) (Gives.p hE rfl) rfl (tw_sel (fun _ => hS) (fun _ => hS)) ?_; clear hE a; intro a hE
   obtain ⟨x91, hx92, hq63⟩ := bindS hq63
   obtain ⟨hi93, hlt94, hy95⟩ := gx_some hx92
   obtain ⟨cs96, hl97, hR98, hat99⟩ := h_y0_2.at hy95
   subst hR98
   refine Rg.takeP (i := 10) hE rfl (by kernel_rfl) (runs_plain rfl) (Gives.idx hE (((k65 : Nat) : Int)).toNat rfl rfl sl33 hi93 hlt94 (h_y0_2.aok hlt94)) rfl (tw_sel (fun _ => hS) (fun _ => hS)) ?_; clear hE a; intro a hE
   have hT := tw_sel (A := fun w => St w s _) (B := fun w => St w s _) (w := _) (x := true) (y := true) (fun _ => hS) (fun _ => hS)
   have hF := hS; replace hS := hS
   refine Rg.take (i := 11) true rfl hE rfl (by kernel_rfl) (runs_plain rfl) (Gives.loadA hE rfl (fun w h => hat99 w _ h) ty84) rfl hT ?_; clear hE a; intro a hE
   replace hS := hF; clear hF hT
   refine Rg.takeP (i := 12) hE rfl (by kernel_rfl) (runs_plain rfl) (Gives.p hE rfl) rfl (tw_sel (fun _ => hS) (fun _ => hS)) ?_; clear hE a; intro a hE
   have hT := tw_sel (A := fun w => St w s _) (B := fun w => St w s _) (w := _) (x := true) (y := true) (fun _ => hS) (fun _ => hS)
   have hF := hS; replace hS := hS
   refine Rg.take (i := 13) true rfl hE rfl (by kernel_rfl) (runs_plain rfl) (Gives.nilOk hE rfl) rfl hT ?_; clear hE a; intro a hE
   replace hS := hF; clear hF hT
   refine Rg.takeP (i := 14) hE rfl (by kernel_rfl) (runs_plain rfl) (Gives.fld hE rfl fl93_3) rfl (tw_sel (fun _ => hS) (fun _ => hS)) ?_; clear hE a; intro a hE
   have hT := tw_sel (A := fun w => St w s _) (B := fun w => St w s _) (w := _) (x := true) (y := true) (fun _ => hS) (fun _ => hS)
   have hF := hS; replace hS := hS
   refine Rg.take (i := 15) true rfl hE rfl (by kernel_rfl) (runs_plain rfl) (Gives.loadA (cs := [.int .i64 y0.shop.Place, .int .i64 y0.shop.Long, .int .i64 y0.shop.Limit]) hE rfl (fun w h => (St.seesAt h 0 rfl).part 3 3) ty35) rfl hT ?_; clear hE a; intro a hE
   replace hS := hF; clear hF hT
   refine Rg.one (i := 16) true true rfl (by kernel_rfl) (by kernel_rfl) (by kernel_rfl) ?_
   obtain ⟨q100, hq101, hq63⟩ := bindS hq63
   have hc_ := Fleetpositions_ok hS h_y0_0 h89 hq101
   refine WL.fnq hE (hc_) (runs_plain rfl) bd57 rfl rfl rfl ?_
   clear hE hS hc_; rintro e w ⟨a102, c103, n104, cs105, rfl, h106, rfl, hS⟩; refine ⟨_, rfl, ?_⟩; clear a; intro a hE
   refine WL.nil ?_
   refine ⟨⟨fun _ => (hS.tail), fun _ => (hS.tail)⟩, ?_⟩
   refine Rg.takeP (i := 17) hE rfl (by kernel_rfl) (runs_plain rfl) (Gives.p hE rfl) rfl (tw_sel (fun _ => (hS.tail)) (fun _ => (hS.tail))) ?_; clear hE a; intro a hE
   refine Rg.takeP (i := 18) hE rfl (by kernel_rfl) (runs_plain rfl) (Gives.p hE rfl) rfl (tw_sel (fun _ => (hS.tail)) (fun _ => (hS.tail))) ?_; clear hE a; intro a hE
   refine Rg.takeP (i := 19) hE rfl (by kernel_rfl) (runs_plain rfl) (Gives.p hE rfl) rfl (tw_sel (fun _ => (hS.tail)) (fun _ => (hS.tail))) ?_; clear hE a; intro a hE
   refine Rg.takeP (i := 20) hE rfl (by kernel_rfl) (runs_plain rfl) (Gives.p hE rfl) rfl (tw_sel (fun _ => (hS.tail)) (fun _ => (hS.tail))) ?_; clear hE a; intro a hE
   refine Rg.takeP (i := 21) hE rfl (by kernel_rfl) (runs_plain rfl) (Gives.p hE rfl) rfl (tw_sel (fun _ => (hS.tail)) (fun _ => (hS.tail))) ?_; clear hE a; intro a hE
   refine Rg.done (by kernel_rfl) ?_
   subst hK90
   refine W.seq ?_
   refine W.seq (W.region ?_)
   refine WL.vS hS hE (runs_plain rfl) (Gives.p hE rfl) rfl ?_; clear hE a; intro a hE
   refine WL.vS hS hE (runs_plain rfl) (Gives.p hE rfl) rfl ?_; clear hE a; intro a hE
   refine WL.nil ?_
   refine W.cond hE rfl (fun hc108 => ?_) (fun hc108 => ?_)
   ·replace hq63 := iteT hc108 hq63
    refine W.ret ?_
    subst hK76
    rw [← Option.some.inj hq63] at hr
    dsimp only at hr
    refine finG (fn := Try.f106) (rs := []) (vs := []) hE rfl trivial ?_
    obtain rfl := Option.some.inj hr
    replace hS := hS.tail
    exact ⟨a_y0_8, c_y0_8, s, rfl, (Sg.Le.refl _), h_y0_8, hz_y0_8, hS⟩
   ·replace hq63 := iteF hc108 hq63
    refine W.skip ?_
    refine W.region ?_
    refine WL.vS hS hE (runs_plain rfl) (Gives.p hE rfl) rfl ?_; clear hE a; intro a hE
    refine WL.vS hS hE (runs_plain rfl) (Gives.p hE rfl) rfl ?_; clear hE a; intro a hE
    refine WL.vS hS hE (runs_plain rfl) (Gives.len hE rfl sl44) rfl ?_; clear hE a; intro a hE
    refine WL.vS hS hE (runs_plain rfl) (Gives.p hE rfl) rfl ?_; clear hE a; intro a hE
    refine WL.vS hS hE (runs_plain rfl) (Gives.p hE rfl) rfl ?_; clear hE a; intro a hE
    refine WL.nil ?_
    refine W.region ?_
    refine WL.vS hS hE (runs_plain rfl) (Gives.inc hE rfl (by omega)) rfl ?_; clear hE a; intro a hE
    refine WL.vS hS hE (runs_plain rfl) (Gives.p hE rfl) rfl ?_; clear hE a; intro a hE
    refine WL.nil ?_
    replace hS := hS.tail
    subst hK76
    exact ⟨rest67, Nat.lt_succ_self _, rest67, k65 + 1, (w64 (q75 + ((q100.1.length : Nat) : Int))), rfl, (by omega), hq63, hE.pick _ ⟨rfl, rfl, rfl, rfl, rfl, trivial⟩, hS⟩
 ·clear hE hS a w; rintro a w ⟨q75, rfl, hE, hS⟩
  dsimp only at hr
  refine W.seq ?_
  obtain ⟨q110, hq109, hr⟩ := bndS hr
  refine W.cut (fun a w => ∃ (q113 : Bool), q113 = q110 ∧ Rep a 69 [(0, .pointer (some ⟨pb0, 0, none⟩)), (2, .int .i64 q75), (56, .bool q113)] ∧ St w s (pt pb0 (.cells #[.slice a_y0_0 y0.tasks.length c_y0_0, .int .i64 y0.turn, .slice a_y0_2 y0.sets.length c_y0_2, .int .i64 y0.shop.Place, .int .i64 y0.shop.Long, .int .i64 y0.shop.Limit, .slice a_v0 y0.order.length c_v0, .slice a_v1 y0.turns.length c_v1, .slice a_y0_8 y0.best.length c_y0_8, .int .i64 y0.least] 93 (0, 0)) :: vecC 3 1 a_v0 c_v0 y0.order.length cs_v0 :: vecC 44 1 a_v1 c_v1 y0.turns.length cs_v1 :: R)) ?_ ?_
  ·refine W.gen fun K114 hK114 => ?_
   refine W.region ?_
   refine WL.vS hS hE (runs_plain rfl) (Gives.p hE rfl) rfl ?_; clear hE a; intro a hE
   refine WL.vS hS hE (runs_plain rfl) (Gives.nilOk hE rfl) rfl ?_; clear hE a; intro a hE
   refine WL.vS hS hE (runs_plain rfl) (Gives.fld hE rfl fl93_6) rfl ?_; clear hE a; intro a hE
   refine WL.vS hS hE (runs_plain rfl) (Gives.loadB hE 0 rfl rfl rfl ty25) rfl ?_; clear hE a; intro a hE
   refine WL.vS hS hE (runs_plain rfl) (Gives.isNilZ hE (isNone_eq h_y0_8 hz_y0_8) rfl rfl isl25) rfl ?_; clear hE a; intro a hE
   refine WL.vS hS hE (runs_plain rfl) (Gives.p hE rfl) rfl ?_; clear hE a; intro a hE
   rcases Bool.eq_false_or_eq_true y0.best.isEmpty with hg115 | hg115
   ·replace hq109 := iteT hg115 hq109
    refine WL.no hE (runs_not hE rfl rfl rfl (by rw [hg115]; decide)) rfl ?_; clear hE a; intro a hE
    refine WL.no hE (runs_not hE rfl rfl rfl (by rw [hg115]; decide)) rfl ?_; clear hE a; intro a hE
    refine WL.no hE (runs_not hE rfl rfl rfl (by rw [hg115]; decide)) rfl ?_; clear hE a; intro a hE
    refine WL.no hE (runs_not hE rfl rfl rfl (by rw [hg115]; decide)) rfl ?_; clear hE a; intro a hE
    refine WL.no hE (runs_not hE rfl rfl rfl (by rw [hg115]; decide)) rfl ?_; clear hE a; intro a hE
    refine WL.no hE (runs_not hE rfl rfl rfl (by rw [hg115]; decide)) rfl ?_; clear hE a; intro a hE
    refine WL.vS hS hE (runs_plain rfl) (Gives.pickT hE rfl hg115 rfl) rfl ?_; clear hE a; intro a hE
    refine WL.nil ?_
    subst hK114
    exact ⟨true, hq109, hE.pick _ ⟨rfl, rfl, rfl, trivial⟩, hS⟩
   ·replace hq109 := iteF hg115 hq109
    refine WL.vS hS hE (runs_if hE rfl rfl rfl hg115) (Gives.p hE rfl) rfl ?_; clear hE a; intro a hE
    refine WL.vS hS hE (runs_if hE rfl rfl rfl hg115) (Gives.p hE rfl) rfl ?_; clear hE a; intro a hE
    refine WL.vS hS hE (runs_if hE rfl rfl rfl hg115) (Gives.nilOk hE rfl) rfl ?_; clear hE a; intro a hE
    refine WL.vS hS hE (runs_if hE rfl rfl rfl hg115) (Gives.fld hE rfl fl93_7) rfl ?_; clear hE a; intro a hE
    refine WL.vS hS hE (runs_if hE rfl rfl rfl hg115) (Gives.loadB hE 0 rfl rfl rfl ty3) rfl ?_; clear hE a; intro a hE
    refine WL.vS hS hE (runs_if hE rfl rfl rfl hg115) (Gives.p hE rfl) rfl ?_; clear hE a; intro a hE
    refine WL.vS hS hE (runs_plain rfl) (Gives.pickF hE rfl hg115 rfl) rfl ?_; clear hE a; intro a hE
    refine WL.nil ?_
    subst hK114
    exact ⟨decide (q75 < y0.least), hq109, hE.pick _ ⟨rfl, rfl, rfl, trivial⟩, hS⟩
  ·clear hE hS a w; rintro a w ⟨q113, rfl, hE, hS⟩
   obtain ⟨q117, hq116, hr⟩ := bindS hr
   refine W.cut (fun a w => ∃ (q120 : List (List Int)), ∃ (q125 : Int), ∃ (a121 : Option Addr), ∃ (c122 : Nat), ∃ (s118 : Sg), s.Le s118 ∧ (q120, q125) = q117 ∧ Sl 1 (RL 1 (RI .i64)) s118 a121 c122 q120 ∧ (q120 = [] → a121 = none) ∧ Rep a 69 [] ∧ St w s118 (pt pb0 (.cells #[.slice a_y0_0 y0.tasks.length c_y0_0, .int .i64 y0.turn, .slice a_y0_2 y0.sets.length c_y0_2, .int .i64 y0.shop.Place, .int .i64 y0.shop.Long, .int .i64 y0.shop.Limit, .slice a_v0 y0.order.length c_v0, .slice a_v1 y0.turns.length c_v1, .slice a121 q120.length c122, .int .i64 q125] 93 (0, 0)) :: vecC 3 1 a_v0 c_v0 y0.order.length cs_v0 :: vecC 44 1 a_v1 c_v1 y0.turns.length cs_v1 :: R)) ?_ ?_
   ·refine W.gen fun K126 hK126 => ?_
    refine W.cond hE rfl (fun hc127 => ?_) (fun hc127 => ?_)
    ·replace hq116 := iteT hc127 hq116
     refine W.region ?_
     refine WL.vS hS hE (runs_plain rfl) (Gives.p hE rfl) rfl ?_; clear hE a; intro a hE
     refine WL.vS hS hE (runs_plain rfl) (Gives.p hE rfl) rfl ?_; clear hE a; intro a hE
     refine WL.vS hS hE (runs_plain rfl) (Gives.p hE rfl) rfl ?_; clear hE a; intro a hE
     refine WL.vS hS hE (runs_plain rfl) (Gives.nilOk hE rfl) rfl ?_; clear hE a; intro a hE
     refine WL.vS hS hE (runs_plain rfl) (Gives.fld hE rfl fl93_5) rfl ?_; clear hE a; intro a hE
     refine WL.vS hS hE (runs_plain rfl) (Gives.loadB hE 0 rfl rfl rfl ty25) rfl ?_; clear hE a; intro a hE
     obtain ⟨q128, hq129, hq116⟩ := bindS hq116
     replace hS := hS.front 2 rfl
     have hc_ := SlicesCloneLLint_v1_ok hS h_v1 (rfl) hq129
     refine WL.fnq hE (hc_) (runs_plain rfl) bd40 rfl rfl rfl ?_
     clear hE hS hc_; rintro e w ⟨a130, c131, n132, cs133, rfl, h134, rfl, hS⟩; refine ⟨_, rfl, ?_⟩; clear a; intro a hE
     refine WL.vS hS hE (runs_plain rfl) (Gives.p hE rfl) rfl ?_; clear hE a; intro a hE
     refine WL.vS hS hE (runs_plain rfl) (Gives.nilOk hE rfl) rfl ?_; clear hE a; intro a hE
     refine WL.vS hS hE (runs_plain rfl) (Gives.fld hE rfl fl93_6) rfl ?_; clear hE a; intro a hE
     have hF := hS.fixD (RL.mono RI.mono) 0 rfl h134 rfl; clear hS; obtain ⟨s136, hle137, hS, h138⟩ := hF
     replace h_v1 := Ev.mono (RL.mono RI.mono) hle137 h_v1
     replace h_y0_0 := Sl.mono RFleetTask.mono hle137 h_y0_0
     replace h_y0_2 := Sl.mono RFleetSet.mono hle137 h_y0_2
     replace h_y0_8 := Sl.mono (RL.mono RI.mono) hle137 h_y0_8
     replace h_v0 := Ev.mono RI.mono hle137 h_v0
     obtain ⟨_, hx139, hq116⟩ := bindS hq116
     refine WL.storeI hE hS 1 rfl [.slice a_y0_0 y0.tasks.length c_y0_0, .int .i64 y0.turn, .slice a_y0_2 y0.sets.length c_y0_2, .int .i64 y0.shop.Place, .int .i64 y0.shop.Long, .int .i64 y0.shop.Limit, .slice a_v0 y0.order.length c_v0, .slice a_v1 y0.turns.length c_v1, .slice a130 q128.length c131, .int .i64 y0.least] (runs_plain rfl) rfl rfl rfl ty25 rfl rfl rfl rfl ?_; clear hE hS a w; intro a w hE hS
     refine WL.vS hS hE (runs_plain rfl) (Gives.nilOk hE rfl) rfl ?_; clear hE a; intro a hE
     refine WL.vS hS hE (runs_plain rfl) (Gives.fld hE rfl fl93_7) rfl ?_; clear hE a; intro a hE
     refine WL.storeI hE hS 1 rfl [.slice a_y0_0 y0.tasks.length c_y0_0, .int .i64 y0.turn, .slice a_y0_2 y0.sets.length c_y0_2, .int .i64 y0.shop.Place, .int .i64 y0.shop.Long, .int .i64 y0.shop.Limit, .slice a_v0 y0.order.length c_v0, .slice a_v1 y0.turns.length c_v1, .slice a130 q128.length c131, .int .i64 q75] (runs_plain rfl) rfl rfl rfl ty3 rfl rfl rfl rfl ?_; clear hE hS a w; intro a w hE hS
     refine WL.nil ?_
     replace hS := hS.front 2 rfl
     replace hS := hS.front 2 rfl
     subst hK126
     exact ⟨q128, q75, a130, c131, s136, hle137, Option.some.inj hq116, h138, (nz_some hx139), hE.pick _ trivial, hS⟩
    ·replace hq116 := iteF hc127 hq116
     refine W.skip ?_
     subst hK126
     exact ⟨y0.best, y0.least, a_y0_8, c_y0_8, s, (Sg.Le.refl _), Option.some.inj hq116, h_y0_8, hz_y0_8, hE.pick _ trivial, hS⟩
   ·clear hE hS a w; rintro a w ⟨q120, q125, a121, c122, s118, hle119, rfl, h123, hz124, hE, hS⟩
    dsimp only at hr
    replace h_y0_0 := Sl.mono RFleetTask.mono hle119 h_y0_0
    replace h_y0_2 := Sl.mono RFleetSet.mono hle119 h_y0_2
    replace h_y0_8 := Sl.mono (RL.mono RI.mono) hle119 h_y0_8
    replace h_v0 := Ev.mono RI.mono hle119 h_v0
    replace h_v1 := Ev.mono (RL.mono RI.mono) hle119 h_v1
    refine finG (fn := Try.f106) (rs := []) (vs := []) hE rfl trivial ?_
    obtain rfl := Option.some.inj hr
    exact ⟨a121, c122, s118, rfl, hle119, h123, hz124, hS⟩
set_option maxHeartbeats 8000000 in
theorem Fleetfollows_ok  {w : World} {s : Sg} {R : List HP} {x0 : FleetTask} {x1 : FleetTask} {x2 : Int} (hS : St w s (R))  {r : Bool} (hr : Fleetfollows x0 x1 x2 = r) :
  Calls Try.prog 56 [.agg (FleetTask.cells x0).toArray, .agg (FleetTask.cells x1).toArray, .int .i64 x2].toArray w (fun e w => e = .returned (.bool r) ∧ St w s (R)) := by
 refine enter Try.func56 rfl rfl rfl fun a hE => ?_
 rw [Fleetfollows] at hr
 refine W.seq (W.region ?_)
 refine WL.box hE hS (runs_plain rfl) rfl rfl rfl ?_; clear hE hS a w; intro b51 a w hE hS
 refine WL.box hE hS (runs_plain rfl) rfl rfl rfl ?_; clear hE hS a w; intro b52 a w hE hS
 refine WL.vS hS hE (runs_plain rfl) (Gives.p hE rfl) rfl ?_; clear hE a; intro a hE
 refine WL.nil ?_
 refine W.seq ?_
 obtain ⟨q54, hq53, hr⟩ := bndS hr
 refine W.cut (fun a w => ∃ (q57 : Bool), q57 = q54 ∧ Rep a 21 [(6, .bool q57)] ∧ St w s (pt b52 (.cells (FleetTask.cells x1).toArray 78 (0, 0)) :: pt b51 (.cells (FleetTask.cells x0).toArray 78 (0, 0)) :: R)) ?_ ?_
 ·refine W.gen fun K58 hK58 => ?_
  refine W.region ?_
  refine WL.vS hS hE (runs_plain rfl) (Gives.fld hE rfl fl78_0) rfl ?_; clear hE a; intro a hE
  refine WL.vS hS hE (runs_plain rfl) (Gives.loadB hE 0 rfl rfl rfl ty3) rfl ?_; clear hE a; intro a hE
  refine WL.vS hS hE (runs_plain rfl) (Gives.fld hE rfl fl78_1) rfl ?_; clear hE a; intro a hE
  refine WL.vS hS hE (runs_plain rfl) (Gives.loadB hE 1 rfl rfl rfl ty3) rfl ?_; clear hE a; intro a hE
  refine WL.vS hS hE (runs_plain rfl) (Gives.p hE rfl) rfl ?_; clear hE a; intro a hE
  refine WL.vS hS hE (runs_plain rfl) (Gives.p hE rfl) rfl ?_; clear hE a; intro a hE
  rcases Bool.eq_false_or_eq_true (x1.From == x0.To) with hg59 | hg59
  ·replace hq53 := iteT hg59 hq53
   refine WL.vS hS hE (runs_if hE rfl rfl rfl hg59) (Gives.fld hE rfl fl78_2) rfl ?_; clear hE a; intro a hE
   refine WL.vS hS hE (runs_if hE rfl rfl rfl hg59) (Gives.loadB hE 0 rfl rfl rfl ty3) rfl ?_; clear hE a; intro a hE
   refine WL.vS hS hE (runs_if hE rfl rfl rfl hg59) (Gives.fld hE rfl fl78_3) rfl ?_; clear hE a; intro a hE
   refine WL.vS hS hE (runs_if hE rfl rfl rfl hg59) (Gives.loadB hE 1 rfl rfl rfl ty3) rfl ?_; clear hE a; intro a hE
   refine WL.vS hS hE (runs_if hE rfl rfl rfl hg59) (Gives.p hE rfl) rfl ?_; clear hE a; intro a hE
   refine WL.vS hS hE (runs_if hE rfl rfl rfl hg59) (Gives.p hE rfl) rfl ?_; clear hE a; intro a hE
   refine WL.vS hS hE (runs_if hE rfl rfl rfl hg59) (Gives.p hE rfl) rfl ?_; clear hE a; intro a hE
   refine WL.vS hS hE (runs_plain rfl) (Gives.pickT hE rfl hg59 rfl) rfl ?_; clear hE a; intro a hE
   refine WL.vS hS hE (runs_plain rfl) (Gives.p hE rfl) rfl ?_; clear hE a; intro a hE
   refine WL.nil ?_
   subst hK58
   exact ⟨decide (x1.Dep ≥ (w64 (x0.Arr + x2))), hq53, hE.pick _ ⟨rfl, trivial⟩, hS⟩
  ·replace hq53 := iteF hg59 hq53
   refine WL.no hE (runs_not hE rfl rfl rfl (by rw [hg59]; decide)) rfl ?_; clear hE a; intro a hE
   refine WL.no hE (runs_not hE rfl rfl rfl (by rw [hg59]; decide)) rfl ?_; clear hE a; intro a hE
   refine WL.no hE (runs_not hE rfl rfl rfl (by rw [hg59]; decide)) rfl ?_; clear hE a; intro a hE
   refine WL.no hE (runs_not hE rfl rfl rfl (by rw [hg59]; decide)) rfl ?_; clear hE a; intro a hE
   refine WL.no hE (runs_not hE rfl rfl rfl (by rw [hg59]; decide)) rfl ?_; clear hE a; intro a hE
   refine WL.no hE (runs_not hE rfl rfl rfl (by rw [hg59]; decide)) rfl ?_; clear hE a; intro a hE
   refine WL.no hE (runs_not hE rfl rfl rfl (by rw [hg59]; decide)) rfl ?_; clear hE a; intro a hE
   refine WL.vS hS hE (runs_plain rfl) (Gives.pickF hE rfl hg59 rfl) rfl ?_; clear hE a; intro a hE
   refine WL.vS hS hE (runs_plain rfl) (Gives.p hE rfl) rfl ?_; clear hE a; intro a hE
   refine WL.nil ?_
   subst hK58
   exact ⟨false, hq53, hE.pick _ ⟨rfl, trivial⟩, hS⟩
 ·clear hE hS a w; rintro a w ⟨q57, rfl, hE, hS⟩
  refine W.ret ?_
  refine finG (fn := Try.f56) (rs := [.tmp 6]) (vs := [_]) hE rfl ⟨rfl, trivial⟩ ?_
  subst hr
  replace hS := hS.tail
  replace hS := hS.tail
  exact ⟨rfl, hS⟩
set_option maxHeartbeats 8000000 in
theorem SlicesCloneLint_ok  {w : World} {s : Sg} {R : List HP} {x0 : List Int} {a0 : Option Addr} {c0 : Nat} (hS : St w s (R)) (h0 : Sl 1 (RI .i64) s a0 c0 x0) {r : (List Int)} (hr : SlicesCloneLint x0 = some r) :
  Calls Try.prog 41 [.slice a0 x0.length c0].toArray w (fun e w => ∃ (a0 : Option Addr) (c0 n0 : Nat) (cs0 : List Value), e = .returned (.slice a0 n0 c0) ∧ Ev 1 (RI .i64) s cs0 r ∧ r.length = n0 ∧ St w s (vecC 3 1 a0 c0 n0 cs0 :: R)) := by
 refine enter Try.func41 rfl rfl rfl fun a hE => ?_
 rw [SlicesCloneLint] at hr
 refine W.seq (W.region ?_)
 refine WL.vS hS hE (runs_plain rfl) (Gives.p hE rfl) rfl ?_; clear hE a; intro a hE
 refine WL.nil ?_
 refine W.seq ?_
 refine W.seq (W.region ?_)
 refine WL.vS hS hE (runs_plain rfl) (Gives.p hE rfl) rfl ?_; clear hE a; intro a hE
 refine WL.vS hS hE (runs_plain rfl) (Gives.isNil hE rfl rfl isl44) rfl ?_; clear hE a; intro a hE
 refine WL.nil ?_
 rcases a0 with _ | g51
 ·obtain rfl := h0.none_nil
  replace hr : some [] = _ := hr
  refine W.condT hE rfl rfl ?_
  refine W.seq (W.region ?_)
  refine WL.vS hS hE (runs_plain rfl) (Gives.p hE rfl) rfl ?_; clear hE a; intro a hE
  refine WL.nil ?_
  refine W.ret ?_
  replace hS := hS.vecNil 3 1
  refine finG (fn := Try.f41) (rs := [.tmp 2]) (vs := [_]) hE rfl ⟨rfl, trivial⟩ ?_
  obtain rfl := Option.some.inj hr
  exact ⟨none, 0, 0, [], rfl, (Ev.nil), (rfl), hS⟩
 ·skip
  refine W.condF hE rfl rfl ?_
  refine W.skip ?_
  refine W.seq (W.region ?_)
  refine WL.lit hE hS (e := 3) (es := 1) (vs := []) (cs := []) (runs_plain rfl) rfl (by kernel_rfl) rfl ?_; clear hE hS a w; intro b53 a w hE hS
  replace hS := hS.ptVec (es := 1) (m := 0) rfl (by decide)
  have h55 : Ev 1 (RI .i64) s [] [] := (Ev.nil)
  refine WL.vS hS hE (runs_plain rfl) (Gives.p hE rfl) rfl ?_; clear hE a; intro a hE
  obtain ⟨x56, hx57, hr⟩ := bindS hr
  refine WL.appS hE hS 0 (runs_plain rfl) rfl rfl (xs := x0) rfl rfl ap44 RI.one h55 (rfl) h0 hx57 rfl ?_; clear hE hS a w; intro a58 c59 cs60 a w h61 hE hS
  refine WL.vS hS hE (runs_plain rfl) (Gives.p hE rfl) rfl ?_; clear hE a; intro a hE
  refine WL.nil ?_
  refine W.ret ?_
  refine finG (fn := Try.f41) (rs := [.tmp 2]) (vs := [_]) hE rfl ⟨rfl, trivial⟩ ?_
  obtain rfl := Option.some.inj hr
  exact ⟨a58, c59, x56.length, cs60, rfl, h61, (rfl), hS⟩
set_option maxHeartbeats 8000000 in
theorem FleetGivergive_v1_ok : ∀ {fu : Nat} {w : World} {s : Sg} {R : List HP} {pb0 : Nat} {x1 : Int} {x2 : Int} {x3 : Int} {y0 : FleetGiver} {a_y0_0 : Option Addr} {c_y0_0 : Nat} {a_y0_2 : Option Addr} {c_y0_2 : Nat} {a_v0 : Option Addr} {c_v0 n_v0 : Nat} {cs_v0 : List Value} {a_v1 : Option Addr} {c_v1 n_v1 : Nat} {cs_v1 : List Value} {a_y0_8 : Option Addr} {c_y0_8 : Nat} (_hS : St w s (pt pb0 (.cells #[.slice a_y0_0 y0.tasks.length c_y0_0, .int .i64 y0.turn, .slice a_y0_2 y0.sets.length c_y0_2, .int .i64 y0.shop.Place, .int .i64 y0.shop.Long, .int .i64 y0.shop.Limit, .slice a_v0 n_v0 c_v0, .slice a_v1 n_v1 c_v1, .slice a_y0_8 y0.best.length c_y0_8, .int .i64 y0.least] 93 (0, 0)) :: vecC 3 1 a_v0 c_v0 n_v0 cs_v0 :: vecC 44 1 a_v1 c_v1 n_v1 cs_v1 :: R)) (_h_y0_0 : Sl 6 RFleetTask s a_y0_0 c_y0_0 y0.tasks) (_h_y0_2 : Sl 2 RFleetSet s a_y0_2 c_y0_2 y0.sets) (_h_v0 : Ev 1 (RI .i64) s cs_v0 y0.order) (_hn_v0 : y0.order.length = n_v0) (_h_v1 : Ev 1 (RL 1 (RI .i64)) s cs_v1 y0.turns) (_hn_v1 : y0.turns.length = n_v1) (_h_y0_8 : Sl 1 (RL 1 (RI .i64)) s a_y0_8 c_y0_8 y0.best) (_hz_y0_8 : y0.best = [] → a_y0_8 = none) {r : (List (List Int)) × (List (List Int)) × Int} (_hr : FleetGivergive_v1 fu x1 x2 x3 y0 = some r),
  Calls Try.prog 63 [.pointer (some ⟨pb0, 0, none⟩), .int .i64 x1, .int .i64 x2, .int .i64 x3].toArray w (fun e w => ∃ (cs67 : List Value) (a70 : Option Addr) (c71 : Nat) (t : Sg), e = .returned (.tuple #[]) ∧ s.Le t ∧ Ev 1 (RL 1 (RI .i64)) t cs67 r.1 ∧ r.1.length = n_v1 ∧ Sl 1 (RL 1 (RI .i64)) t a70 c71 r.2.1 ∧ (r.2.1 = [] → a70 = none) ∧ St w t (pt pb0 (.cells #[.slice a_y0_0 y0.tasks.length c_y0_0, .int .i64 y0.turn, .slice a_y0_2 y0.sets.length c_y0_2, .int .i64 y0.shop.Place, .int .i64 y0.shop.Long, .int .i64 y0.shop.Limit, .slice a_v0 n_v0 c_v0, .slice a_v1 n_v1 c_v1, .slice a70 r.2.1.length c71, .int .i64 r.2.2] 93 (0, 0)) :: vecC 3 1 a_v0 c_v0 n_v0 cs_v0 :: vecC 44 1 a_v1 c_v1 n_v1 cs67 :: R)) := by
 intro fu
 induction fu with
 | zero => intro w s R pb0 x1 x2 x3 y0 a_y0_0 c_y0_0 a_y0_2 c_y0_2 a_v0 c_v0 n_v0 cs_v0 a_v1 c_v1 n_v1 cs_v1 a_y0_8 c_y0_8 hS h_y0_0 h_y0_2 h_v0 hn_v0 h_v1 hn_v1 h_y0_8 hz_y0_8 r hr; rw [FleetGivergive_v1] at hr; exact absurd hr (by simp)
 | succ fu ih_FleetGivergive_v1 =>
  intro w s R pb0 x1 x2 x3 y0 a_y0_0 c_y0_0 a_y0_2 c_y0_2 a_v0 c_v0 n_v0 cs_v0 a_v1 c_v1 n_v1 cs_v1 a_y0_8 c_y0_8 hS h_y0_0 h_y0_2 h_v0 hn_v0 h_v1 hn_v1 h_y0_8 hz_y0_8 r hr
  rw [FleetGivergive_v1] at hr
  generalize FleetGivergive_v1 fu = self_FleetGivergive_v1 at hr ih_FleetGivergive_v1
  refine enter Try.func63 rfl rfl rfl fun a hE => ?_
  subst hn_v0
  subst hn_v1
  refine W.seq ?_
  refine W.seq (W.region ?_)
  refine WL.vS hS hE (runs_plain rfl) (Gives.p hE rfl) rfl ?_; clear hE a; intro a hE
  refine WL.vS hS hE (runs_plain rfl) (Gives.p hE rfl) rfl ?_; clear hE a; intro a hE
  refine WL.vS hS hE (runs_plain rfl) (Gives.nilOk hE rfl) rfl ?_; clear hE a; intro a hE
  refine WL.vS hS hE (runs_plain rfl) (Gives.fld hE rfl fl93_4) rfl ?_; clear hE a; intro a hE
  refine WL.vS hS hE (runs_plain rfl) (Gives.loadB hE 0 rfl rfl rfl ty44) rfl ?_; clear hE a; intro a hE
  refine WL.vS hS hE (runs_plain rfl) (Gives.len hE rfl sl44) rfl ?_; clear hE a; intro a hE
  refine WL.vS hS hE (runs_plain rfl) (Gives.p hE rfl) rfl ?_; clear hE a; intro a hE
  refine WL.nil ?_
  refine W.cond hE rfl (fun hc75 => ?_) (fun hc75 => ?_)
  ·replace hr := iteT hc75 hr
   refine W.seq (W.region ?_)
   refine WL.vS hS hE (runs_plain rfl) (Gives.p hE rfl) rfl ?_; clear hE a; intro a hE
   obtain ⟨q76, hq77, hr⟩ := bindS hr
   have hc_ := FleetGivernote_v1_ok (y0 := y0) hS h_y0_0 h_y0_2 h_v0 (rfl) h_v1 (rfl) h_y0_8 hz_y0_8 hq77
   refine WL.fnq hE (hc_) (runs_plain rfl) bd106 rfl rfl rfl ?_
   clear hE hS hc_; rintro e w ⟨a78, c79, s82, rfl, hle83, h80, hz81, hS⟩; refine ⟨_, rfl, ?_⟩; clear a; intro a hE
   replace h_y0_0 := Sl.mono RFleetTask.mono hle83 h_y0_0
   replace h_y0_2 := Sl.mono RFleetSet.mono hle83 h_y0_2
   replace h_y0_8 := Sl.mono (RL.mono RI.mono) hle83 h_y0_8
   replace h_v0 := Ev.mono RI.mono hle83 h_v0
   replace h_v1 := Ev.mono (RL.mono RI.mono) hle83 h_v1
   refine WL.nil ?_
   refine W.ret ?_
   refine finG (fn := Try.f63) (rs := []) (vs := []) hE rfl trivial ?_
   obtain rfl := Option.some.inj hr
   exact ⟨cs_v1, a78, c79, s82, rfl, hle83, h_v1, (rfl), h80, hz81, hS⟩
  ·replace hr := iteF hc75 hr
   refine W.skip ?_
   refine W.seq (W.region ?_)
   refine WL.vS hS hE (runs_plain rfl) (Gives.p hE rfl) rfl ?_; clear hE a; intro a hE
   refine WL.vS hS hE (runs_plain rfl) (Gives.nilOk hE rfl) rfl ?_; clear hE a; intro a hE
   refine WL.vS hS hE (runs_plain rfl) (Gives.fld hE rfl fl93_4) rfl ?_; clear hE a; intro a hE
   refine WL.vS hS hE (runs_plain rfl) (Gives.loadB hE 0 rfl rfl rfl ty44) rfl ?_; clear hE a; intro a hE
   refine WL.vS hS hE (runs_plain rfl) (Gives.p hE rfl) rfl ?_; clear hE a; intro a hE
   obtain ⟨x84, hx85, hr⟩ := bindS hr
   obtain ⟨hi86, hlt87, hy88⟩ := gx_some hx85
   obtain ⟨vs89, hl90, hR91, hd92, hget93⟩ := h_v0.at hy88
   subst hR91
   refine WL.vS hS hE (runs_plain rfl) (Gives.idx hE ((x1).toNat) rfl rfl sl44 hi86 (by omega) (hS.vecAok 1 rfl (by omega : (x1).toNat < y0.order.length))) rfl ?_; clear hE a; intro a hE
   refine WL.vS hS hE (runs_plain rfl) (Gives.load1 hE rfl (fun w h => St.vecSees h 1 rfl ((x1).toNat * 1) _ hget93) ty3) rfl ?_; clear hE a; intro a hE
   refine WL.vS hS hE (runs_plain rfl) (Gives.p hE rfl) rfl ?_; clear hE a; intro a hE
   refine WL.nil ?_
   refine W.seq ?_
   refine W.seq (W.region ?_)
   refine WL.vS hS hE (runs_plain rfl) (Gives.p hE rfl) rfl ?_; clear hE a; intro a hE
   refine WL.vS hS hE (runs_plain rfl) (Gives.p hE rfl) rfl ?_; clear hE a; intro a hE
   refine WL.vS hS hE (runs_plain rfl) (Gives.nilOk hE rfl) rfl ?_; clear hE a; intro a hE
   refine WL.vS hS hE (runs_plain rfl) (Gives.fld hE rfl fl93_0) rfl ?_; clear hE a; intro a hE
   refine WL.vS hS hE (runs_plain rfl) (Gives.loadB hE 0 rfl rfl rfl ty32) rfl ?_; clear hE a; intro a hE
   refine WL.vS hS hE (runs_plain rfl) (Gives.p hE rfl) rfl ?_; clear hE a; intro a hE
   obtain ⟨x94, hx95, hr⟩ := bindS hr
   obtain ⟨hi96, hlt97, hy98⟩ := gx_some hx95
   obtain ⟨cs99, hl100, hR101, hat102⟩ := h_y0_0.at hy98
   subst hR101
   refine WL.vS hS hE (runs_plain rfl) (Gives.idx hE (x84).toNat rfl rfl sl32 hi96 hlt97 (h_y0_0.aok hlt97)) rfl ?_; clear hE a; intro a hE
   refine WL.vS hS hE (runs_plain rfl) (Gives.fld hE rfl fl78_5) rfl ?_; clear hE a; intro a hE
   refine WL.vS hS hE (runs_plain rfl) (Gives.load1 hE rfl (fun w h => (hat102 w _ h).one rfl) ty3) rfl ?_; clear hE a; intro a hE
   refine WL.vS hS hE (runs_plain rfl) (Gives.p hE rfl) rfl ?_; clear hE a; intro a hE
   refine WL.nil ?_
   refine W.cond hE rfl (fun hc103 => ?_) (fun hc103 => ?_)
   ·replace hr := iteT hc103 hr
    refine W.seq (W.region ?_)
    refine WL.vS hS hE (runs_plain rfl) (Gives.p hE rfl) rfl ?_; clear hE a; intro a hE
    refine WL.vS hS hE (runs_plain rfl) (Gives.p hE rfl) rfl ?_; clear hE a; intro a hE
    refine WL.vS hS hE (runs_plain rfl) (Gives.p hE rfl) rfl ?_; clear hE a; intro a hE
    obtain ⟨q104, hq105, hr⟩ := bindS hr
    have hc_ := ih_FleetGivergive_v1 (y0 := y0) hS h_y0_0 h_y0_2 h_v0 (rfl) h_v1 (rfl) h_y0_8 hz_y0_8 hq105
    refine WL.fnq hE (hc_) (runs_plain rfl) bd63 rfl rfl rfl ?_
    clear hE hS hc_; rintro e w ⟨cs106, a109, c110, s113, rfl, hle114, h107, hn108, h111, hz112, hS⟩; refine ⟨_, rfl, ?_⟩; clear a; intro a hE
    replace h_y0_0 := Sl.mono RFleetTask.mono hle114 h_y0_0
    replace h_y0_2 := Sl.mono RFleetSet.mono hle114 h_y0_2
    replace h_y0_8 := Sl.mono (RL.mono RI.mono) hle114 h_y0_8
    replace h_v0 := Ev.mono RI.mono hle114 h_v0
    replace h_v1 := Ev.mono (RL.mono RI.mono) hle114 h_v1
    refine WL.nil ?_
    refine W.ret ?_
    refine finG (fn := Try.f63) (rs := []) (vs := []) hE rfl trivial ?_
    obtain rfl := Option.some.inj hr
    exact ⟨cs106, a109, c110, s113, rfl, hle114, h107, hn108, h111, hz112, hS⟩
   ·replace hr := iteF hc103 hr
    refine W.skip ?_
    refine W.seq (W.region ?_)
    refine WL.vS hS hE (runs_plain rfl) (Gives.p hE rfl) rfl ?_; clear hE a; intro a hE
    refine WL.vS hS hE (runs_plain rfl) (Gives.p hE rfl) rfl ?_; clear hE a; intro a hE
    refine WL.nil ?_
    obtain ⟨q116, hq115, hr⟩ := bindS hr
    refine W.cut (fun a w => ∃ (q121 : Int), ∃ (q122 : List (List Int)), ∃ (q128 : List (List Int)), ∃ (q133 : Int), ∃ (cs126 : List Value), ∃ (a129 : Option Addr), ∃ (c130 : Nat), ∃ (s119 : Sg), s.Le s119 ∧ (q121, q122, q128, q133) = q116 ∧ Ev 1 (RL 1 (RI .i64)) s119 cs126 q122 ∧ q122.length = y0.turns.length ∧ Sl 1 (RL 1 (RI .i64)) s119 a129 c130 q128 ∧ (q128 = [] → a129 = none) ∧ Rep a 137 [] ∧ St w s119 (pt pb0 (.cells #[.slice a_y0_0 y0.tasks.length c_y0_0, .int .i64 y0.turn, .slice a_y0_2 y0.sets.length c_y0_2, .int .i64 y0.shop.Place, .int .i64 y0.shop.Long, .int .i64 y0.shop.Limit, .slice a_v0 y0.order.length c_v0, .slice a_v1 y0.turns.length c_v1, .slice a129 q128.length c130, .int .i64 q133] 93 (0, 0)) :: vecC 3 1 a_v0 c_v0 y0.order.length cs_v0 :: vecC 44 1 a_v1 c_v1 y0.turns.length cs126 :: R)) ?_ ?_
    ·refine W.block ?_
     refine W.loop (fun m a w => ∃ (n117 : Nat), ∃ (q121 : Int), ∃ (q122 : List (List Int)), ∃ (q128 : List (List Int)), ∃ (q133 : Int), ∃ (cs126 : List Value), ∃ (a129 : Option Addr), ∃ (c130 : Nat), ∃ (s119 : Sg), n117 = m ∧ s.Le s119 ∧ FleetGivergive_v1.loop1 x1 x2 y0 self_FleetGivergive_v1 x84 n117 q121 q122 q128 q133 = some q116 ∧ Ev 1 (RL 1 (RI .i64)) s119 cs126 q122 ∧ q122.length = y0.turns.length ∧ Sl 1 (RL 1 (RI .i64)) s119 a129 c130 q128 ∧ (q128 = [] → a129 = none) ∧ Rep a 137 [(0, .pointer (some ⟨pb0, 0, none⟩)), (1, .int .i64 x1), (2, .int .i64 x2), (8, .int .i64 x84), (9, .int .i64 q121)] ∧ St w s119 (pt pb0 (.cells #[.slice a_y0_0 y0.tasks.length c_y0_0, .int .i64 y0.turn, .slice a_y0_2 y0.sets.length c_y0_2, .int .i64 y0.shop.Place, .int .i64 y0.shop.Long, .int .i64 y0.shop.Limit, .slice a_v0 y0.order.length c_v0, .slice a_v1 y0.turns.length c_v1, .slice a129 q128.length c130, .int .i64 q133] 93 (0, 0)) :: vecC 3 1 a_v0 c_v0 y0.order.length cs_v0 :: vecC 44 1 a_v1 c_v1 y0.turns.length cs126 :: R)) (m := fu) ⟨fu, x3, y0.turns, y0.best, y0.least, cs_v1, a_y0_8, c_y0_8, s, rfl, (Sg.Le.refl _), hq115, h_v1, (rfl), h_y0_8, hz_y0_8, hE.pick _ ⟨rfl, rfl, rfl, rfl, rfl, trivial⟩, hS⟩ ?_
     clear hE hS a w hq115; rintro m118 a w ⟨n117, q121, q122, q128, q133, cs126, a129, c130, s119, rfl, hle120, hq115, h125, hn127, h131, hz132, hE, hS⟩
     refine W.gen fun K134 hK134 => ?_
     replace h_y0_0 := Sl.mono RFleetTask.mono hle120 h_y0_0
     replace h_y0_2 := Sl.mono RFleetSet.mono hle120 h_y0_2
     replace h_y0_8 := Sl.mono (RL.mono RI.mono) hle120 h_y0_8
     replace h_v0 := Ev.mono RI.mono hle120 h_v0
     replace h_v1 := Ev.mono (RL.mono RI.mono) hle120 h_v1
     rcases n117 with _ | n117
     ·rw [FleetGivergive_v1.loop1] at hq115; exact absurd hq115 (by simp)
     rw [FleetGivergive_v1.loop1] at hq115
     refine W.seq ?_
     refine W.seq (W.region ?_)
     refine WL.vS hS hE (runs_plain rfl) (Gives.p hE rfl) rfl ?_; clear hE a; intro a hE
     refine WL.vS hS hE (runs_plain rfl) (Gives.p hE rfl) rfl ?_; clear hE a; intro a hE
     refine WL.vS hS hE (runs_plain rfl) (Gives.nilOk hE rfl) rfl ?_; clear hE a; intro a hE
     refine WL.vS hS hE (runs_plain rfl) (Gives.fld hE rfl fl93_2) rfl ?_; clear hE a; intro a hE
     refine WL.vS hS hE (runs_plain rfl) (Gives.loadB hE 0 rfl rfl rfl ty33) rfl ?_; clear hE a; intro a hE
     refine WL.vS hS hE (runs_plain rfl) (Gives.len hE rfl sl33) rfl ?_; clear hE a; intro a hE
     refine WL.vS hS hE (runs_plain rfl) (Gives.p hE rfl) rfl ?_; clear hE a; intro a hE
     refine WL.nil ?_
     refine W.cond hE rfl (fun hc135 => ?_) (fun hc135 => ?_)
     ·replace hq115 := iteT hc135 hq115
      refine W.skip ?_
      refine W.seq ?_
      refine W.block ?_
      refine W.seq (W.region ?_)
      refine WL.vS hS hE (runs_plain rfl) (Gives.p hE rfl) rfl ?_; clear hE a; intro a hE
      refine WL.vS hS hE (runs_plain rfl) (Gives.nilOk hE rfl) rfl ?_; clear hE a; intro a hE
      refine WL.vS hS hE (runs_plain rfl) (Gives.fld hE rfl fl93_5) rfl ?_; clear hE a; intro a hE
      refine WL.vS hS hE (runs_plain rfl) (Gives.loadB hE 0 rfl rfl rfl ty25) rfl ?_; clear hE a; intro a hE
      refine WL.vS hS hE (runs_plain rfl) (Gives.p hE rfl) rfl ?_; clear hE a; intro a hE
      obtain ⟨x136, hx137, hq115⟩ := bindS hq115
      obtain ⟨hi138, hlt139, hy140⟩ := gx_some hx137
      obtain ⟨vs141, hl142, hR143, hd144, hget145⟩ := h125.at hy140
      obtain ⟨a146, c147, rfl, h148⟩ := hR143
      refine WL.vS hS hE (runs_plain rfl) (Gives.idx hE ((q121).toNat) rfl rfl sl25 hi138 (by have := hn127; omega) (hS.vecAok 2 rfl (by have := hn127; omega : (q121).toNat < y0.turns.length))) rfl ?_; clear hE a; intro a hE
      refine WL.vS hS hE (runs_plain rfl) (Gives.load1 hE rfl (fun w h => St.vecSees h 2 rfl ((q121).toNat * 1) _ hget145) ty44) rfl ?_; clear hE a; intro a hE
      refine WL.vS hS hE (runs_plain rfl) (Gives.p hE rfl) rfl ?_; clear hE a; intro a hE
      refine WL.nil ?_
      refine W.seq ?_
      refine W.seq ?_
      obtain ⟨q150, hq149, hq115⟩ := bindS hq115
      refine W.cut (fun a w => ∃ (q153 : Bool), q153 = q150 ∧ Rep a 137 [(0, .pointer (some ⟨pb0, 0, none⟩)), (1, .int .i64 x1), (2, .int .i64 x2), (8, .int .i64 x84), (9, .int .i64 q121), (10, .slice a146 x136.length c147), (111, .bool q153)] ∧ St w s119 (pt pb0 (.cells #[.slice a_y0_0 y0.tasks.length c_y0_0, .int .i64 y0.turn, .slice a_y0_2 y0.sets.length c_y0_2, .int .i64 y0.shop.Place, .int .i64 y0.shop.Long, .int .i64 y0.shop.Limit, .slice a_v0 y0.order.length c_v0, .slice a_v1 y0.turns.length c_v1, .slice a129 q128.length c130, .int .i64 q133] 93 (0, 0)) :: vecC 3 1 a_v0 c_v0 y0.order.length cs_v0 :: vecC 44 1 a_v1 c_v1 y0.turns.length cs126 :: R)) ?_ ?_
      ·refine W.gen fun K154 hK154 => ?_
       refine W.regionQ (C := fun w => St w s119 (pt pb0 (.cells #[.slice a_y0_0 y0.tasks.length c_y0_0, .int .i64 y0.turn, .slice a_y0_2 y0.sets.length c_y0_2, .int .i64 y0.shop.Place, .int .i64 y0.shop.Long, .int .i64 y0.shop.Limit, .slice a_v0 y0.order.length c_v0, .slice a_v1 y0.turns.length c_v1, .slice a129 q128.length c130, .int .i64 q133] 93 (0, 0)) :: vecC 3 1 a_v0 c_v0 y0.order.length cs_v0 :: vecC 44 1 a_v1 c_v1 y0.turns.length cs126 :: R)) mixed (by kernel_rfl) hS.drew ?_
       refine QL.v hE (runs_plain rfl) (Gives.p hE rfl) rfl ?_; clear hE a; intro a hE
       refine QL.v hE (runs_plain rfl) (Gives.len hE rfl sl44) rfl ?_; clear hE a; intro a hE
       refine QL.v hE (runs_plain rfl) (Gives.p hE rfl) rfl ?_; clear hE a; intro a hE
       refine QL.v hE (runs_plain rfl) (Gives.p hE rfl) rfl ?_; clear hE a; intro a hE
       rcases Bool.eq_false_or_eq_true (((x136).length : Int) == 0) with hg155 | hg155
       ·replace hq149 := iteT hg155 hq149
        refine QL.v hE (runs_if hE rfl rfl rfl hg155) (Gives.p hE rfl) rfl ?_; clear hE a; intro a hE
        refine QL.v hE (runs_if hE rfl rfl rfl hg155) (Gives.nilOk hE rfl) rfl ?_; clear hE a; intro a hE
        refine QL.v hE (runs_if hE rfl rfl rfl hg155) (Gives.fld hE rfl fl93_0) rfl ?_; clear hE a; intro a hE
        refine QL.v hE (runs_if hE rfl rfl rfl hg155) (Gives.loadB hE 0 rfl rfl rfl ty32) rfl ?_; clear hE a; intro a hE
        refine QL.v hE (runs_if hE rfl rfl rfl hg155) (Gives.p hE rfl) rfl ?_; clear hE a; intro a hE
        obtain ⟨x156, hx157, hq149⟩ := bindS hq149
        obtain ⟨hi158, hlt159, hy160⟩ := gx_some hx157
        obtain ⟨cs161, hl162, hR163, hat164⟩ := h_y0_0.at hy160
        subst hR163
        refine QL.v hE (runs_if hE rfl rfl rfl hg155) (Gives.idx hE (x84).toNat rfl rfl sl32 hi158 hlt159 (h_y0_0.aok hlt159)) rfl ?_; clear hE a; intro a hE
        refine QL.v hE (runs_if hE rfl rfl rfl hg155) (Gives.fld hE rfl fl78_0) rfl ?_; clear hE a; intro a hE
        refine QL.v hE (runs_if hE rfl rfl rfl hg155) (Gives.load1 hE rfl (fun w h => (hat164 w _ h).one rfl) ty3) rfl ?_; clear hE a; intro a hE
        refine QL.v hE (runs_if hE rfl rfl rfl hg155) (Gives.p hE rfl) rfl ?_; clear hE a; intro a hE
        refine QL.v hE (runs_if hE rfl rfl rfl hg155) (Gives.nilOk hE rfl) rfl ?_; clear hE a; intro a hE
        refine QL.v hE (runs_if hE rfl rfl rfl hg155) (Gives.fld hE rfl fl93_2) rfl ?_; clear hE a; intro a hE
        refine QL.v hE (runs_if hE rfl rfl rfl hg155) (Gives.loadB hE 0 rfl rfl rfl ty33) rfl ?_; clear hE a; intro a hE
        refine QL.v hE (runs_if hE rfl rfl rfl hg155) (Gives.p hE rfl) rfl ?_; clear hE a; intro a hE
        obtain ⟨x165, hx166, hq149⟩ := bindS hq149
        obtain ⟨hi167, hlt168, hy169⟩ := gx_some hx166
        obtain ⟨cs170, hl171, hR172, hat173⟩ := h_y0_2.at hy169
        subst hR172
        refine QL.v hE (runs_if hE rfl rfl rfl hg155) (Gives.idx hE (q121).toNat rfl rfl sl33 hi167 hlt168 (h_y0_2.aok hlt168)) rfl ?_; clear hE a; intro a hE
        refine QL.v hE (runs_if hE rfl rfl rfl hg155) (Gives.fld hE rfl fl84_0) rfl ?_; clear hE a; intro a hE
        refine QL.v hE (runs_if hE rfl rfl rfl hg155) (Gives.load1 hE rfl (fun w h => (hat173 w _ h).one rfl) ty3) rfl ?_; clear hE a; intro a hE
        refine QL.v hE (runs_if hE rfl rfl rfl hg155) (Gives.p hE rfl) rfl ?_; clear hE a; intro a hE
        refine QL.v hE (runs_plain rfl) (Gives.pickT hE rfl hg155 rfl) rfl ?_; clear hE a; intro a hE
        refine QL.v hE (runs_plain rfl) (Gives.p hE rfl) rfl ?_; clear hE a; intro a hE
        rcases Bool.eq_false_or_eq_true (x156.From != x165.Home) with hg174 | hg174
        ·replace hq149 := iteT hg174 hq149
         refine QL.no hE (runs_not hE rfl rfl rfl (by rw [hg174]; decide)) rfl ?_; clear hE a; intro a hE
         refine QL.no hE (runs_not hE rfl rfl rfl (by rw [hg174]; decide)) rfl ?_; clear hE a; intro a hE
         refine QL.no hE (runs_not hE rfl rfl rfl (by rw [hg174]; decide)) rfl ?_; clear hE a; intro a hE
         refine QL.no hE (runs_not hE rfl rfl rfl (by rw [hg174]; decide)) rfl ?_; clear hE a; intro a hE
         refine QL.no hE (runs_undef hE rfl rfl rfl) rfl ?_; clear hE a; intro a hE
         refine QL.no hE (runs_undef hE rfl rfl rfl) rfl ?_; clear hE a; intro a hE
         refine QL.no hE (runs_undef hE rfl rfl rfl) rfl ?_; clear hE a; intro a hE
         refine QL.no hE (runs_undef hE rfl rfl rfl) rfl ?_; clear hE a; intro a hE
         refine QL.no hE (runs_undef hE rfl rfl rfl) rfl ?_; clear hE a; intro a hE
         refine QL.no hE (runs_undef hE rfl rfl rfl) rfl ?_; clear hE a; intro a hE
         refine QL.no hE (runs_undef hE rfl rfl rfl) rfl ?_; clear hE a; intro a hE
         refine QL.no hE (runs_undef hE rfl rfl rfl) rfl ?_; clear hE a; intro a hE
         refine QL.no hE (runs_undef hE rfl rfl rfl) rfl ?_; clear hE a; intro a hE
         refine QL.no hE (runs_undef hE rfl rfl rfl) rfl ?_; clear hE a; intro a hE
         refine QL.no hE (runs_undef hE rfl rfl rfl) rfl ?_; clear hE a; intro a hE
         refine QL.no hE (runs_undef hE rfl rfl rfl) rfl ?_; clear hE a; intro a hE
         refine QL.no hE (runs_undef hE rfl rfl rfl) rfl ?_; clear hE a; intro a hE
         refine QL.no hE (runs_undef hE rfl rfl rfl) rfl ?_; clear hE a; intro a hE
         refine QL.no hE (runs_undef hE rfl rfl rfl) rfl ?_; clear hE a; intro a hE
         refine QL.no hE (runs_undef hE rfl rfl rfl) rfl ?_; clear hE a; intro a hE
         refine QL.no hE (runs_undef hE rfl rfl rfl) rfl ?_; clear hE a; intro a hE
         refine QL.no hE (runs_undef hE rfl rfl rfl) rfl ?_; clear hE a; intro a hE
         refine QL.no hE (runs_undef hE rfl rfl rfl) rfl ?_; clear hE a; intro a hE
         refine QL.no hE (runs_undef hE rfl rfl rfl) rfl ?_; clear hE a; intro a hE
         refine QL.no hE (runs_undef hE rfl rfl rfl) rfl ?_; clear hE a; intro a hE
         refine QL.no hE (runs_undef hE rfl rfl rfl) rfl ?_; clear hE a; intro a hE
         refine QL.no hE (runs_undef hE rfl rfl rfl) rfl ?_; clear hE a; intro a hE
         refine QL.no hE (runs_undef hE rfl rfl rfl) rfl ?_; clear hE a; intro a hE
         refine QL.no hE (runs_undef hE rfl rfl rfl) rfl ?_; clear hE a; intro a hE
         refine QL.no hE (runs_not hE rfl rfl rfl (by rw [hg174]; decide)) rfl ?_; clear hE a; intro a hE
         refine QL.v hE (runs_plain rfl) (Gives.pickT hE rfl hg174 rfl) rfl ?_; clear hE a; intro a hE
         refine QL.nil ?_; clear hS w; intro w hS
         subst hK154
         exact ⟨true, Option.some.inj hq149, hE.pick _ ⟨rfl, rfl, rfl, rfl, rfl, rfl, rfl, trivial⟩, hS⟩
        ·replace hq149 := iteF hg174 hq149
         refine QL.v hE (runs_if hE rfl rfl rfl hg174) (Gives.p hE rfl) rfl ?_; clear hE a; intro a hE
         refine QL.v hE (runs_if hE rfl rfl rfl hg174) (Gives.len hE rfl sl44) rfl ?_; clear hE a; intro a hE
         refine QL.v hE (runs_if hE rfl rfl rfl hg174) (Gives.p hE rfl) rfl ?_; clear hE a; intro a hE
         refine QL.v hE (runs_if hE rfl rfl rfl hg174) (Gives.p hE rfl) rfl ?_; clear hE a; intro a hE
         rcases Bool.eq_false_or_eq_true (decide (((x136).length : Int) > 0)) with hg175 | hg175
         ·replace hq149 := iteT hg175 hq149
          refine QL.v hE (runs_if hE rfl rfl rfl hg175) (Gives.p hE rfl) rfl ?_; clear hE a; intro a hE
          refine QL.v hE (runs_if hE rfl rfl rfl hg175) (Gives.nilOk hE rfl) rfl ?_; clear hE a; intro a hE
          refine QL.v hE (runs_if hE rfl rfl rfl hg175) (Gives.fld hE rfl fl93_0) rfl ?_; clear hE a; intro a hE
          refine QL.v hE (runs_if hE rfl rfl rfl hg175) (Gives.loadB hE 0 rfl rfl rfl ty32) rfl ?_; clear hE a; intro a hE
          refine QL.v hE (runs_if hE rfl rfl rfl hg175) (Gives.p hE rfl) rfl ?_; clear hE a; intro a hE
          refine QL.v hE (runs_if hE rfl rfl rfl hg175) (Gives.p hE rfl) rfl ?_; clear hE a; intro a hE
          refine QL.v hE (runs_if hE rfl rfl rfl hg175) (Gives.len hE rfl sl44) rfl ?_; clear hE a; intro a hE
          refine QL.v hE (runs_if hE rfl rfl rfl hg175) (Gives.p hE rfl) rfl ?_; clear hE a; intro a hE
          obtain ⟨x176, hx177, hq149⟩ := bindS hq149
          obtain ⟨hi178, hlt179, hy180⟩ := gx_some hx177
          obtain ⟨cs181, hl182, hR183, hat184⟩ := h148.at hy180
          subst hR183
          refine QL.v hE (runs_if hE rfl rfl rfl hg175) (Gives.idx hE (w64 (((x136).length : Int) - 1)).toNat rfl rfl sl44 hi178 hlt179 (h148.aok hlt179)) rfl ?_; clear hE a; intro a hE
          refine QL.v hE (runs_if hE rfl rfl rfl hg175) (Gives.load1 hE rfl (fun w h => hat184 w _ h) ty3) rfl ?_; clear hE a; intro a hE
          obtain ⟨x185, hx186, hq149⟩ := bindS hq149
          obtain ⟨hi187, hlt188, hy189⟩ := gx_some hx186
          obtain ⟨cs190, hl191, hR192, hat193⟩ := h_y0_0.at hy189
          subst hR192
          refine QL.v hE (runs_if hE rfl rfl rfl hg175) (Gives.idx hE (x176).toNat rfl rfl sl32 hi187 hlt188 (h_y0_0.aok hlt188)) rfl ?_; clear hE a; intro a hE
          refine QL.v hE (runs_if hE rfl rfl rfl hg175) (Gives.loadA hE rfl (fun w h => hat193 w _ h) ty78) rfl ?_; clear hE a; intro a hE
          refine QL.v hE (runs_if hE rfl rfl rfl hg175) (Gives.p hE rfl) rfl ?_; clear hE a; intro a hE
          refine QL.v hE (runs_if hE rfl rfl rfl hg175) (Gives.nilOk hE rfl) rfl ?_; clear hE a; intro a hE
          refine QL.v hE (runs_if hE rfl rfl rfl hg175) (Gives.fld hE rfl fl93_0) rfl ?_; clear hE a; intro a hE
          refine QL.v hE (runs_if hE rfl rfl rfl hg175) (Gives.loadB hE 0 rfl rfl rfl ty32) rfl ?_; clear hE a; intro a hE
          refine QL.v hE (runs_if hE rfl rfl rfl hg175) (Gives.p hE rfl) rfl ?_; clear hE a; intro a hE
          obtain ⟨x194, hx195, hq149⟩ := bindS hq149
          obtain ⟨hi196, hlt197, hy198⟩ := gx_some hx195
          obtain ⟨cs199, hl200, hR201, hat202⟩ := h_y0_0.at hy198
          subst hR201
          refine QL.v hE (runs_if hE rfl rfl rfl hg175) (Gives.idx hE (x84).toNat rfl rfl sl32 hi196 hlt197 (h_y0_0.aok hlt197)) rfl ?_; clear hE a; intro a hE
          refine QL.v hE (runs_if hE rfl rfl rfl hg175) (Gives.loadA hE rfl (fun w h => hat202 w _ h) ty78) rfl ?_; clear hE a; intro a hE
          refine QL.v hE (runs_if hE rfl rfl rfl hg175) (Gives.p hE rfl) rfl ?_; clear hE a; intro a hE
          refine QL.v hE (runs_if hE rfl rfl rfl hg175) (Gives.nilOk hE rfl) rfl ?_; clear hE a; intro a hE
          refine QL.v hE (runs_if hE rfl rfl rfl hg175) (Gives.fld hE rfl fl93_1) rfl ?_; clear hE a; intro a hE
          refine QL.v hE (runs_if hE rfl rfl rfl hg175) (Gives.loadB hE 0 rfl rfl rfl ty3) rfl ?_; clear hE a; intro a hE
          refine QL.fnq hE (fun w hS => Fleetfollows_ok hS  rfl (r := Fleetfollows x185 x194 y0.turn)) (runs_if hE rfl rfl rfl hg175) bd56 rfl rfl rfl ?_; clear hE a; intro a hE
          refine QL.v hE (runs_if hE rfl rfl rfl hg175) (Gives.p hE rfl) rfl ?_; clear hE a; intro a hE
          refine QL.v hE (runs_if hE rfl rfl rfl hg174) (Gives.pickT hE rfl hg175 rfl) rfl ?_; clear hE a; intro a hE
          refine QL.v hE (runs_plain rfl) (Gives.pickF hE rfl hg174 rfl) rfl ?_; clear hE a; intro a hE
          refine QL.nil ?_; clear hS w; intro w hS
          subst hK154
          exact ⟨!(Fleetfollows x185 x194 y0.turn), Option.some.inj hq149, hE.pick _ ⟨rfl, rfl, rfl, rfl, rfl, rfl, rfl, trivial⟩, hS⟩
         ·replace hq149 := iteF hg175 hq149
          refine QL.no hE (runs_not hE rfl rfl rfl (by rw [hg175]; decide)) rfl ?_; clear hE a; intro a hE
          refine QL.no hE (runs_not hE rfl rfl rfl (by rw [hg175]; decide)) rfl ?_; clear hE a; intro a hE
          refine QL.no hE (runs_not hE rfl rfl rfl (by rw [hg175]; decide)) rfl ?_; clear hE a; intro a hE
          refine QL.no hE (runs_not hE rfl rfl rfl (by rw [hg175]; decide)) rfl ?_; clear hE a; intro a hE
          refine QL.no hE (runs_not hE rfl rfl rfl (by rw [hg175]; decide)) rfl ?_; clear hE a; intro a hE
          refine QL.no hE (runs_not hE rfl rfl rfl (by rw [hg175]; decide)) rfl ?_; clear hE a; intro a hE
          refine QL.no hE (runs_not hE rfl rfl rfl (by rw [hg175]; decide)) rfl ?_; clear hE a; intro a hE
          refine QL.no hE (runs_not hE rfl rfl rfl (by rw [hg175]; decide)) rfl ?_; clear hE a; intro a hE
          refine QL.no hE (runs_not hE rfl rfl rfl (by rw [hg175]; decide)) rfl ?_; clear hE a; intro a hE
          refine QL.no hE (runs_not hE rfl rfl rfl (by rw [hg175]; decide)) rfl ?_; clear hE a; intro a hE
          refine QL.no hE (runs_not hE rfl rfl rfl (by rw [hg175]; decide)) rfl ?_; clear hE a; intro a hE
          refine QL.no hE (runs_not hE rfl rfl rfl (by rw [hg175]; decide)) rfl ?_; clear hE a; intro a hE
          refine QL.no hE (runs_not hE rfl rfl rfl (by rw [hg175]; decide)) rfl ?_; clear hE a; intro a hE
          refine QL.no hE (runs_not hE rfl rfl rfl (by rw [hg175]; decide)) rfl ?_; clear hE a; intro a hE
          refine QL.no hE (runs_not hE rfl rfl rfl (by rw [hg175]; decide)) rfl ?_; clear hE a; intro a hE
          refine QL.no hE (runs_not hE rfl rfl rfl (by rw [hg175]; decide)) rfl ?_; clear hE a; intro a hE
          refine QL.no hE (runs_not hE rfl rfl rfl (by rw [hg175]; decide)) rfl ?_; clear hE a; intro a hE
          refine QL.no hE (runs_not hE rfl rfl rfl (by rw [hg175]; decide)) rfl ?_; clear hE a; intro a hE
          refine QL.no hE (runs_not hE rfl rfl rfl (by rw [hg175]; decide)) rfl ?_; clear hE a; intro a hE
          refine QL.no hE (runs_not hE rfl rfl rfl (by rw [hg175]; decide)) rfl ?_; clear hE a; intro a hE
          refine QL.no hE (runs_not hE rfl rfl rfl (by rw [hg175]; decide)) rfl ?_; clear hE a; intro a hE
          refine QL.no hE (runs_not hE rfl rfl rfl (by rw [hg175]; decide)) rfl ?_; clear hE a; intro a hE
          refine QL.no hE (runs_not hE rfl rfl rfl (by rw [hg175]; decide)) rfl ?_; clear hE a; intro a hE
          refine QL.no hE (runs_not hE rfl rfl rfl (by rw [hg175]; decide)) rfl ?_; clear hE a; intro a hE
          refine QL.no hE (runs_not hE rfl rfl rfl (by rw [hg175]; decide)) rfl ?_; clear hE a; intro a hE
          refine QL.v hE (runs_if hE rfl rfl rfl hg174) (Gives.pickF hE rfl hg175 rfl) rfl ?_; clear hE a; intro a hE
          refine QL.v hE (runs_plain rfl) (Gives.pickF hE rfl hg174 rfl) rfl ?_; clear hE a; intro a hE
          refine QL.nil ?_; clear hS w; intro w hS
          subst hK154
          exact ⟨false, Option.some.inj hq149, hE.pick _ ⟨rfl, rfl, rfl, rfl, rfl, rfl, rfl, trivial⟩, hS⟩
       ·replace hq149 := iteF hg155 hq149
        refine QL.no hE (runs_not hE rfl rfl rfl (by rw [hg155]; decide)) rfl ?_; clear hE a; intro a hE
        refine QL.no hE (runs_not hE rfl rfl rfl (by rw [hg155]; decide)) rfl ?_; clear hE a; intro a hE
        refine QL.no hE (runs_not hE rfl rfl rfl (by rw [hg155]; decide)) rfl ?_; clear hE a; intro a hE
        refine QL.no hE (runs_not hE rfl rfl rfl (by rw [hg155]; decide)) rfl ?_; clear hE a; intro a hE
        refine QL.no hE (runs_not hE rfl rfl rfl (by rw [hg155]; decide)) rfl ?_; clear hE a; intro a hE
        refine QL.no hE (runs_not hE rfl rfl rfl (by rw [hg155]; decide)) rfl ?_; clear hE a; intro a hE
        refine QL.no hE (runs_not hE rfl rfl rfl (by rw [hg155]; decide)) rfl ?_; clear hE a; intro a hE
        refine QL.no hE (runs_not hE rfl rfl rfl (by rw [hg155]; decide)) rfl ?_; clear hE a; intro a hE
        refine QL.no hE (runs_not hE rfl rfl rfl (by rw [hg155]; decide)) rfl ?_; clear hE a; intro a hE
        refine QL.no hE (runs_not hE rfl rfl rfl (by rw [hg155]; decide)) rfl ?_; clear hE a; intro a hE
        refine QL.no hE (runs_not hE rfl rfl rfl (by rw [hg155]; decide)) rfl ?_; clear hE a; intro a hE
        refine QL.no hE (runs_not hE rfl rfl rfl (by rw [hg155]; decide)) rfl ?_; clear hE a; intro a hE
        refine QL.no hE (runs_not hE rfl rfl rfl (by rw [hg155]; decide)) rfl ?_; clear hE a; intro a hE
        refine QL.no hE (runs_not hE rfl rfl rfl (by rw [hg155]; decide)) rfl ?_; clear hE a; intro a hE
        refine QL.no hE (runs_not hE rfl rfl rfl (by rw [hg155]; decide)) rfl ?_; clear hE a; intro a hE
        refine QL.no hE (runs_not hE rfl rfl rfl (by rw [hg155]; decide)) rfl ?_; clear hE a; intro a hE
        refine QL.no hE (runs_not hE rfl rfl rfl (by rw [hg155]; decide)) rfl ?_; clear hE a; intro a hE
        refine QL.v hE (runs_plain rfl) (Gives.pickF hE rfl hg155 rfl) rfl ?_; clear hE a; intro a hE
        refine QL.v hE (runs_plain rfl) (Gives.p hE rfl) rfl ?_; clear hE a; intro a hE
        refine QL.v hE (runs_if hE rfl rfl rfl rfl) (Gives.p hE rfl) rfl ?_; clear hE a; intro a hE
        refine QL.v hE (runs_if hE rfl rfl rfl rfl) (Gives.len hE rfl sl44) rfl ?_; clear hE a; intro a hE
        refine QL.v hE (runs_if hE rfl rfl rfl rfl) (Gives.p hE rfl) rfl ?_; clear hE a; intro a hE
        refine QL.v hE (runs_if hE rfl rfl rfl rfl) (Gives.p hE rfl) rfl ?_; clear hE a; intro a hE
        rcases Bool.eq_false_or_eq_true (decide (((x136).length : Int) > 0)) with hg203 | hg203
        ·replace hq149 := iteT hg203 hq149
         refine QL.v hE (runs_if hE rfl rfl rfl hg203) (Gives.p hE rfl) rfl ?_; clear hE a; intro a hE
         refine QL.v hE (runs_if hE rfl rfl rfl hg203) (Gives.nilOk hE rfl) rfl ?_; clear hE a; intro a hE
         refine QL.v hE (runs_if hE rfl rfl rfl hg203) (Gives.fld hE rfl fl93_0) rfl ?_; clear hE a; intro a hE
         refine QL.v hE (runs_if hE rfl rfl rfl hg203) (Gives.loadB hE 0 rfl rfl rfl ty32) rfl ?_; clear hE a; intro a hE
         refine QL.v hE (runs_if hE rfl rfl rfl hg203) (Gives.p hE rfl) rfl ?_; clear hE a; intro a hE
         refine QL.v hE (runs_if hE rfl rfl rfl hg203) (Gives.p hE rfl) rfl ?_; clear hE a; intro a hE
         refine QL.v hE (runs_if hE rfl rfl rfl hg203) (Gives.len hE rfl sl44) rfl ?_; clear hE a; intro a hE
         refine QL.v hE (runs_if hE rfl rfl rfl hg203) (Gives.p hE rfl) rfl ?_; clear hE a; intro a hE
         obtain ⟨x204, hx205, hq149⟩ := bindS hq149
         obtain ⟨hi206, hlt207, hy208⟩ := gx_some hx205
         obtain ⟨cs209, hl210, hR211, hat212⟩ := h148.at hy208
         subst hR211
         refine QL.v hE (runs_if hE rfl rfl rfl hg203) (Gives.idx hE (w64 (((x136).length : Int) - 1)).toNat rfl rfl sl44 hi206 hlt207 (h148.aok hlt207)) rfl ?_; clear hE a; intro a hE
         refine QL.v hE (runs_if hE rfl rfl rfl hg203) (Gives.load1 hE rfl (fun w h => hat212 w _ h) ty3) rfl ?_; clear hE a; intro a hE
         obtain ⟨x213, hx214, hq149⟩ := bindS hq149
         obtain ⟨hi215, hlt216, hy217⟩ := gx_some hx214
         obtain ⟨cs218, hl219, hR220, hat221⟩ := h_y0_0.at hy217
         subst hR220
         refine QL.v hE (runs_if hE rfl rfl rfl hg203) (Gives.idx hE (x204).toNat rfl rfl sl32 hi215 hlt216 (h_y0_0.aok hlt216)) rfl ?_; clear hE a; intro a hE
         refine QL.v hE (runs_if hE rfl rfl rfl hg203) (Gives.loadA hE rfl (fun w h => hat221 w _ h) ty78) rfl ?_; clear hE a; intro a hE
         refine QL.v hE (runs_if hE rfl rfl rfl hg203) (Gives.p hE rfl) rfl ?_; clear hE a; intro a hE
         refine QL.v hE (runs_if hE rfl rfl rfl hg203) (Gives.nilOk hE rfl) rfl ?_; clear hE a; intro a hE
         refine QL.v hE (runs_if hE rfl rfl rfl hg203) (Gives.fld hE rfl fl93_0) rfl ?_; clear hE a; intro a hE
         refine QL.v hE (runs_if hE rfl rfl rfl hg203) (Gives.loadB hE 0 rfl rfl rfl ty32) rfl ?_; clear hE a; intro a hE
         refine QL.v hE (runs_if hE rfl rfl rfl hg203) (Gives.p hE rfl) rfl ?_; clear hE a; intro a hE
         obtain ⟨x222, hx223, hq149⟩ := bindS hq149
         obtain ⟨hi224, hlt225, hy226⟩ := gx_some hx223
         obtain ⟨cs227, hl228, hR229, hat230⟩ := h_y0_0.at hy226
         subst hR229
         refine QL.v hE (runs_if hE rfl rfl rfl hg203) (Gives.idx hE (x84).toNat rfl rfl sl32 hi224 hlt225 (h_y0_0.aok hlt225)) rfl ?_; clear hE a; intro a hE
         refine QL.v hE (runs_if hE rfl rfl rfl hg203) (Gives.loadA hE rfl (fun w h => hat230 w _ h) ty78) rfl ?_; clear hE a; intro a hE
         refine QL.v hE (runs_if hE rfl rfl rfl hg203) (Gives.p hE rfl) rfl ?_; clear hE a; intro a hE
         refine QL.v hE (runs_if hE rfl rfl rfl hg203) (Gives.nilOk hE rfl) rfl ?_; clear hE a; intro a hE
         refine QL.v hE (runs_if hE rfl rfl rfl hg203) (Gives.fld hE rfl fl93_1) rfl ?_; clear hE a; intro a hE
         refine QL.v hE (runs_if hE rfl rfl rfl hg203) (Gives.loadB hE 0 rfl rfl rfl ty3) rfl ?_; clear hE a; intro a hE
         refine QL.fnq hE (fun w hS => Fleetfollows_ok hS  rfl (r := Fleetfollows x213 x222 y0.turn)) (runs_if hE rfl rfl rfl hg203) bd56 rfl rfl rfl ?_; clear hE a; intro a hE
         refine QL.v hE (runs_if hE rfl rfl rfl hg203) (Gives.p hE rfl) rfl ?_; clear hE a; intro a hE
         refine QL.v hE (runs_if hE rfl rfl rfl rfl) (Gives.pickT hE rfl hg203 rfl) rfl ?_; clear hE a; intro a hE
         refine QL.v hE (runs_plain rfl) (Gives.pickF hE rfl rfl rfl) rfl ?_; clear hE a; intro a hE
         refine QL.nil ?_; clear hS w; intro w hS
         subst hK154
         exact ⟨!(Fleetfollows x213 x222 y0.turn), Option.some.inj hq149, hE.pick _ ⟨rfl, rfl, rfl, rfl, rfl, rfl, rfl, trivial⟩, hS⟩
        ·replace hq149 := iteF hg203 hq149
         refine QL.no hE (runs_not hE rfl rfl rfl (by rw [hg203]; decide)) rfl ?_; clear hE a; intro a hE
         refine QL.no hE (runs_not hE rfl rfl rfl (by rw [hg203]; decide)) rfl ?_; clear hE a; intro a hE
         refine QL.no hE (runs_not hE rfl rfl rfl (by rw [hg203]; decide)) rfl ?_; clear hE a; intro a hE
         refine QL.no hE (runs_not hE rfl rfl rfl (by rw [hg203]; decide)) rfl ?_; clear hE a; intro a hE
         refine QL.no hE (runs_not hE rfl rfl rfl (by rw [hg203]; decide)) rfl ?_; clear hE a; intro a hE
         refine QL.no hE (runs_not hE rfl rfl rfl (by rw [hg203]; decide)) rfl ?_; clear hE a; intro a hE
         refine QL.no hE (runs_not hE rfl rfl rfl (by rw [hg203]; decide)) rfl ?_; clear hE a; intro a hE
         refine QL.no hE (runs_not hE rfl rfl rfl (by rw [hg203]; decide)) rfl ?_; clear hE a; intro a hE
         refine QL.no hE (runs_not hE rfl rfl rfl (by rw [hg203]; decide)) rfl ?_; clear hE a; intro a hE
         refine QL.no hE (runs_not hE rfl rfl rfl (by rw [hg203]; decide)) rfl ?_; clear hE a; intro a hE
         refine QL.no hE (runs_not hE rfl rfl rfl (by rw [hg203]; decide)) rfl ?_; clear hE a; intro a hE
         refine QL.no hE (runs_not hE rfl rfl rfl (by rw [hg203]; decide)) rfl ?_; clear hE a; intro a hE
         refine QL.no hE (runs_not hE rfl rfl rfl (by rw [hg203]; decide)) rfl ?_; clear hE a; intro a hE
         refine QL.no hE (runs_not hE rfl rfl rfl (by rw [hg203]; decide)) rfl ?_; clear hE a; intro a hE
         refine QL.no hE (runs_not hE rfl rfl rfl (by rw [hg203]; decide)) rfl ?_; clear hE a; intro a hE
         refine QL.no hE (runs_not hE rfl rfl rfl (by rw [hg203]; decide)) rfl ?_; clear hE a; intro a hE
         refine QL.no hE (runs_not hE rfl rfl rfl (by rw [hg203]; decide)) rfl ?_; clear hE a; intro a hE
         refine QL.no hE (runs_not hE rfl rfl rfl (by rw [hg203]; decide)) rfl ?_; clear hE a; intro a hE
         refine QL.no hE (runs_not hE rfl rfl rfl (by rw [hg203]; decide)) rfl ?_; clear hE a; intro a hE
         refine QL.no hE (runs_not hE rfl rfl rfl (by rw [hg203]; decide)) rfl ?_; clear hE a; intro a hE
         refine QL.no hE (runs_not hE rfl rfl rfl (by rw [hg203]; decide)) rfl ?_; clear hE a; intro a hE
         refine QL.no hE (runs_not hE rfl rfl rfl (by rw [hg203]; decide)) rfl ?_; clear hE a; intro a hE
         refine QL.no hE (runs_not hE rfl rfl rfl (by rw [hg203]; decide)) rfl ?_; clear hE a; intro a hE
         refine QL.no hE (runs_not hE rfl rfl rfl (by rw [hg203]; decide)) rfl ?_; clear hE a; intro a hE
         refine QL.no hE (runs_not hE rfl rfl rfl (by rw [hg203]; decide)) rfl ?_; clear hE a; intro a hE
         refine QL.v hE (runs_if hE rfl rfl rfl rfl) (Gives.pickF hE rfl hg203 rfl) rfl ?_; clear hE a; intro a hE
         refine QL.v hE (runs_plain rfl) (Gives.pickF hE rfl rfl rfl) rfl ?_; clear hE a; intro a hE
         refine QL.nil ?_; clear hS w; intro w hS
         subst hK154
         exact ⟨false, Option.some.inj hq149, hE.pick _ ⟨rfl, rfl, rfl, rfl, rfl, rfl, rfl, trivial⟩, hS⟩
      ·clear hE hS a w; rintro a w ⟨q153, rfl, hE, hS⟩
       refine W.cond hE rfl (fun hc231 => ?_) (fun hc231 => ?_)
       ·replace hq115 := iteT hc231 hq115
        refine W.exit rfl ?_
        refine W.region ?_
        refine WL.vS hS hE (runs_plain rfl) (Gives.p hE rfl) rfl ?_; clear hE a; intro a hE
        refine WL.vS hS hE (runs_plain rfl) (Gives.p hE rfl) rfl ?_; clear hE a; intro a hE
        refine WL.vS hS hE (runs_plain rfl) (Gives.p hE rfl) rfl ?_; clear hE a; intro a hE
        refine WL.nil ?_
        subst hK134
        exact ⟨n117, Nat.lt_succ_self _, n117, (w64 (q121 + 1)), q122, q128, q133, cs126, a129, c130, s119, rfl, hle120, hq115, h125, hn127, h131, hz132, hE.pick _ ⟨rfl, rfl, rfl, rfl, rfl, trivial⟩, hS⟩
       ·replace hq115 := iteF hc231 hq115
        refine W.skip ?_
        refine W.seq ?_
        refine W.gen fun K232 hK232 => ?_
        refine W.regionE (sel (fun w => St w s119 (pt pb0 (.cells #[.slice a_y0_0 y0.tasks.length c_y0_0, .int .i64 y0.turn, .slice a_y0_2 y0.sets.length c_y0_2, .int .i64 y0.shop.Place, .int .i64 y0.shop.Long, .int .i64 y0.shop.Limit, .slice a_v0 y0.order.length c_v0, .slice a_v1 y0.turns.length c_v1, .slice a129 q128.length c130, .int .i64 q133] 93 (0, 0)) :: vecC 3 1 a_v0 c_v0 y0.order.length cs_v0 :: vecC 44 1 a_v1 c_v1 y0.turns.length cs126 :: R)) (fun w => St w s119 (pt pb0 (.cells #[.slice a_y0_0 y0.tasks.length c_y0_0, .int .i64 y0.turn, .slice a_y0_2 y0.sets.length c_y0_2, .int .i64 y0.shop.Place, .int .i64 y0.shop.Long, .int .i64 y0.shop.Limit, .slice a_v0 y0.order.length c_v0, .slice a_v1 y0.turns.length c_v1, .slice a129 q128.length c130, .int .i64 q133] 93 (0, 0)) :: vecC 3 1 a_v0 c_v0 y0.order.length cs_v0 :: R))) (fun b i => cond b ([0, 1, 2, 3, 4, 5, 6, 7, 8, 9, 10].contains i) ([0, 1, 2, 3, 4, 5, 6, 7, 8, 9, 10, 11].contains i)) mixed ?_
        replace hS := hS.drew
        refine Rg.takeP (i := 0) hE rfl (by kernel_rfl) (runs_plain rfl) (Gives.p hE rfl) rfl (tw_sel (fun _ => hS) (fun _ => (hS.dropAt 2))) ?_; clear hE a; intro a hE
        have hT := tw_sel (A := fun w => St w s119 _) (B := fun w => St w s119 _) (w := _) (x := true) (y := true) (fun _ => hS) (fun _ => (hS.dropAt 2))
        have hF := hS; replace hS := hS
        refine Rg.take (i := 1) true rfl hE rfl (by kernel_rfl) (runs_plain rfl) (Gives.nilOk hE rfl) rfl hT ?_; clear hE a; intro a hE
        replace hS := hF; clear hF hT
        refine Rg.takeP (i := 2) hE rfl (by kernel_rfl) (runs_plain rfl) (Gives.fld hE rfl fl93_5) rfl (tw_sel (fun _ => hS) (fun _ => (hS.dropAt 2))) ?_; clear hE a; intro a hE
        have hT := tw_sel (A := fun w => St w s119 _) (B := fun w => St w s119 _) (w := _) (x := true) (y := true) (fun _ => hS) (fun _ => (hS.dropAt 2))
        have hF := hS; replace hS := hS
        refine Rg.take (i := 3) true rfl hE rfl (by kernel_rfl) (runs_plain rfl) (Gives.loadB hE 0 rfl rfl rfl ty25) rfl hT ?_; clear hE a; intro a hE
        replace hS := hF; clear hF hT
        refine Rg.takeP (i := 4) hE rfl (by kernel_rfl) (runs_plain rfl) (Gives.p hE rfl) rfl (tw_sel (fun _ => hS) (fun _ => (hS.dropAt 2))) ?_; clear hE a; intro a hE
        refine Rg.takeP (i := 5) hE rfl (by kernel_rfl) (runs_plain rfl) (Gives.p hE rfl) rfl (tw_sel (fun _ => hS) (fun _ => (hS.dropAt 2))) ?_; clear hE a; intro a hE
        refine Rg.takeP (i := 7) hE rfl (by kernel_rfl) (runs_plain rfl) (Gives.p hE rfl) rfl (tw_sel (fun _ => hS) (fun _ => (hS.dropAt 2))) ?_; clear hE a; intro a hE
        obtain ⟨q233, hq234, hq115⟩ := bindS hq115
        obtain ⟨x242, hx243, hq115⟩ := bindS hq115
        obtain ⟨_, hx249, hq115⟩ := bindS hq115
        obtain ⟨x256, hx257, hq115⟩ := bindS hq115
        suffices key : ∀ s253 cs258 (a : Act) (w : World), s119.Le s253 → Sl 1 (RI .i64) s253 a146 c147 x136 → Sl 6 RFleetTask s253 a_y0_0 c_y0_0 y0.tasks → Sl 2 RFleetSet s253 a_y0_2 c_y0_2 y0.sets → Sl 1 (RL 1 (RI .i64)) s253 a129 c130 q128 → (q128 = [] → a129 = none) → Ev 1 (RI .i64) s253 cs_v0 y0.order → Ev 1 (RL 1 (RI .i64)) s253 cs258 x256 → (x256).length = y0.turns.length → Rep a 137 [(0, .pointer (some ⟨pb0, 0, none⟩)), (1, .int .i64 x1), (2, .int .i64 x2), (8, .int .i64 x84), (9, .int .i64 q121), (10, .slice a146 x136.length c147)] → St w s253 (pt pb0 (.cells #[.slice a_y0_0 y0.tasks.length c_y0_0, .int .i64 y0.turn, .slice a_y0_2 y0.sets.length c_y0_2, .int .i64 y0.shop.Place, .int .i64 y0.shop.Long, .int .i64 y0.shop.Limit, .slice a_v0 y0.order.length c_v0, .slice a_v1 y0.turns.length c_v1, .slice a129 q128.length c130, .int .i64 q133] 93 (0, 0)) :: vecC 3 1 a_v0 c_v0 y0.order.length cs_v0 :: vecC 44 1 a_v1 c_v1 y0.turns.length cs258 :: R) → K232.nor a w by
         refine Rg.many 6 [8] (by kernel_rfl) ⟨?_, ?_, trivial⟩
         ·refine Br.mk (i := 6) true true rfl (by kernel_rfl) (by kernel_rfl) ?_
          have hc_ := SlicesCloneLint_ok hS h148 hq234
          refine WL.fnq hE (hc_) (runs_plain rfl) bd41 rfl rfl rfl ?_
          clear hE hS hc_; rintro e w ⟨a235, c236, n237, cs238, rfl, h239, rfl, hS⟩; refine ⟨_, rfl, ?_⟩; clear a; intro a hE
          refine WL.nil ?_
          refine ⟨⟨fun _ => (hS.tail), fun _ => ((hS.tail).dropAt 2)⟩, ?_⟩
          refine Rg.one (i := 8) true true rfl (by kernel_rfl) (by kernel_rfl) (by kernel_rfl) ?_
          refine WL.lit hE hS (e := 3) (es := 1) (vs := [(0, .int .i64 x84)]) (cs := [.int .i64 x84]) (runs_plain rfl) rfl (by kernel_rfl) rfl ?_; clear hE hS a w; intro b241 a w hE hS
          refine WL.nil ?_
          refine ⟨⟨fun _ => ((hS.tail).tail), fun _ => (((hS.tail).tail).dropAt 2)⟩, ?_⟩
          refine Rg.one (i := 9) true true rfl (by kernel_rfl) (by kernel_rfl) (by kernel_rfl) ?_
          refine WL.appD hE hS 0 (m := 1) (runs_plain rfl) rfl rfl rfl ap44 rfl h239 rfl (xs := [x84]) (Ev.cons (c1 := [.int .i64 x84]) rfl rfl (Ev.nil)) rfl rfl hx243 rfl ?_; clear hE hS a w; intro a244 c245 cs246 a w h247 hE hS
          refine WL.nil ?_
          refine ⟨⟨fun _ => (hS.tail), fun _ => ((hS.tail).dropAt 2)⟩, ?_⟩
          obtain ⟨h250, h251⟩ := ix_some hx249
          refine Rg.takeP (i := 10) hE rfl (by kernel_rfl) (runs_plain rfl) (Gives.idx hE ((q121).toNat) rfl rfl sl25 h250 (by have := hn127; omega) (hS.vecAok 3 rfl (by have := hn127; omega : (q121).toNat < y0.turns.length))) rfl (tw_sel (fun _ => (hS.tail)) (fun _ => ((hS.tail).dropAt 2))) ?_; clear hE a; intro a hE
          refine Rg.one (i := 11) false true rfl (by kernel_rfl) (by kernel_rfl) (by kernel_rfl) ?_
          have hF := hS.fixD RI.mono 0 rfl h247 (rfl); clear hS; obtain ⟨s253, hle254, hS, h255⟩ := hF
          replace h148 := Sl.mono RI.mono hle254 h148
          replace h_y0_0 := Sl.mono RFleetTask.mono hle254 h_y0_0
          replace h_y0_2 := Sl.mono RFleetSet.mono hle254 h_y0_2
          replace h131 := Sl.mono (RL.mono RI.mono) hle254 h131
          replace h_v0 := Ev.mono RI.mono hle254 h_v0
          replace h125 := Ev.mono (RL.mono RI.mono) hle254 h125
          refine WL.setD hE hS 2 rfl (runs_plain rfl) rfl rfl (vs := [.slice a244 x242.length c245]) rfl ty44 rfl rfl rfl h125 hn127 (sx_some hx257).1 hx257 ⟨_, _, rfl, h255⟩ rfl ?_; clear hE hS a w; intro cs258 a w h259 hn260 hE hS
          refine WL.nil ?_
          refine ⟨⟨fun h => absurd h (by decide), fun _ => (St.down hle254 (hS.dropAt 2))⟩, ?_⟩
          refine Rg.done (by kernel_rfl) ?_
          exact key _ _ _ _ hle254 h148 h_y0_0 h_y0_2 h131 hz132 h_v0 h259 hn260 (hE.pick _ ⟨rfl, rfl, rfl, rfl, rfl, rfl, trivial⟩) hS
         ·refine Br.mk (i := 8) true true rfl (by kernel_rfl) (by kernel_rfl) ?_
          refine WL.lit hE hS (e := 3) (es := 1) (vs := [(0, .int .i64 x84)]) (cs := [.int .i64 x84]) (runs_plain rfl) rfl (by kernel_rfl) rfl ?_; clear hE hS a w; intro b241 a w hE hS
          refine WL.nil ?_
          refine ⟨⟨fun _ => (hS.tail), fun _ => ((hS.tail).dropAt 2)⟩, ?_⟩
          refine Rg.one (i := 6) true true rfl (by kernel_rfl) (by kernel_rfl) (by kernel_rfl) ?_
          have hc_ := SlicesCloneLint_ok hS h148 hq234
          refine WL.fnq hE (hc_) (runs_plain rfl) bd41 rfl rfl rfl ?_
          clear hE hS hc_; rintro e w ⟨a235, c236, n237, cs238, rfl, h239, rfl, hS⟩; refine ⟨_, rfl, ?_⟩; clear a; intro a hE
          refine WL.nil ?_
          refine ⟨⟨fun _ => ((hS.tail).tail), fun _ => (((hS.tail).tail).dropAt 2)⟩, ?_⟩
          refine Rg.one (i := 9) true true rfl (by kernel_rfl) (by kernel_rfl) (by kernel_rfl) ?_
          replace hS := hS.front 1 rfl
          refine WL.appD hE hS 0 (m := 1) (runs_plain rfl) rfl rfl rfl ap44 rfl h239 rfl (xs := [x84]) (Ev.cons (c1 := [.int .i64 x84]) rfl rfl (Ev.nil)) rfl rfl hx243 rfl ?_; clear hE hS a w; intro a244 c245 cs246 a w h247 hE hS
          refine WL.nil ?_
          refine ⟨⟨fun _ => (hS.tail), fun _ => ((hS.tail).dropAt 2)⟩, ?_⟩
          obtain ⟨h250, h251⟩ := ix_some hx249
          refine Rg.takeP (i := 10) hE rfl (by kernel_rfl) (runs_plain rfl) (Gives.idx hE ((q121).toNat) rfl rfl sl25 h250 (by have := hn127; omega) (hS.vecAok 3 rfl (by have := hn127; omega : (q121).toNat < y0.turns.length))) rfl (tw_sel (fun _ => (hS.tail)) (fun _ => ((hS.tail).dropAt 2))) ?_; clear hE a; intro a hE
          refine Rg.one (i := 11) false true rfl (by kernel_rfl) (by kernel_rfl) (by kernel_rfl) ?_
          have hF := hS.fixD RI.mono 0 rfl h247 (rfl); clear hS; obtain ⟨s253, hle254, hS, h255⟩ := hF
          replace h148 := Sl.mono RI.mono hle254 h148
          replace h_y0_0 := Sl.mono RFleetTask.mono hle254 h_y0_0
          replace h_y0_2 := Sl.mono RFleetSet.mono hle254 h_y0_2
          replace h131 := Sl.mono (RL.mono RI.mono) hle254 h131
          replace h_v0 := Ev.mono RI.mono hle254 h_v0
          replace h125 := Ev.mono (RL.mono RI.mono) hle254 h125
          refine WL.setD hE hS 2 rfl (runs_plain rfl) rfl rfl (vs := [.slice a244 x242.length c245]) rfl ty44 rfl rfl rfl h125 hn127 (sx_some hx257).1 hx257 ⟨_, _, rfl, h255⟩ rfl ?_; clear hE hS a w; intro cs258 a w h259 hn260 hE hS
          refine WL.nil ?_
          refine ⟨⟨fun h => absurd h (by decide), fun _ => (St.down hle254 (hS.dropAt 2))⟩, ?_⟩
          refine Rg.done (by kernel_rfl) ?_
          exact key _ _ _ _ hle254 h148 h_y0_0 h_y0_2 h131 hz132 h_v0 h259 hn260 (hE.pick _ ⟨rfl, rfl, rfl, rfl, rfl, rfl, trivial⟩) hS
        clear hE hS a w; intro s253 cs258 a w hle261 h148 h_y0_0 h_y0_2 h131 hz132 h_v0 h259 hn260 hE hS
        subst hK232
        refine W.seq (W.region ?_)
        refine WL.vS hS hE (runs_plain rfl) (Gives.p hE rfl) rfl ?_; clear hE a; intro a hE
        refine WL.vS hS hE (runs_plain rfl) (Gives.p hE rfl) rfl ?_; clear hE a; intro a hE
        refine WL.vS hS hE (runs_plain rfl) (Gives.p hE rfl) rfl ?_; clear hE a; intro a hE
        refine WL.vS hS hE (runs_plain rfl) (Gives.p hE rfl) rfl ?_; clear hE a; intro a hE
        refine WL.vS hS hE (runs_plain rfl) (Gives.p hE rfl) rfl ?_; clear hE a; intro a hE
        refine WL.vS hS hE (runs_plain rfl) (Gives.p hE rfl) rfl ?_; clear hE a; intro a hE
        obtain ⟨q262, hq263, hq115⟩ := bindS hq115
        have hc_ := ih_FleetGivergive_v1 (y0 := (FleetGiver.mk y0.tasks y0.turn y0.sets y0.shop y0.order x256 q128 q133)) hS h_y0_0 h_y0_2 h_v0 (rfl) h259 hn260 h131 hz132 hq263
        refine WL.fnq hE (hc_) (runs_plain rfl) bd63 rfl rfl rfl ?_
        clear hE hS hc_; rintro e w ⟨cs264, a267, c268, s271, rfl, hle272, h265, hn266, h269, hz270, hS⟩; refine ⟨_, rfl, ?_⟩; clear a; intro a hE
        replace h148 := Sl.mono RI.mono hle272 h148
        replace h_y0_0 := Sl.mono RFleetTask.mono hle272 h_y0_0
        replace h_y0_2 := Sl.mono RFleetSet.mono hle272 h_y0_2
        replace h131 := Sl.mono (RL.mono RI.mono) hle272 h131
        replace h_v0 := Ev.mono RI.mono hle272 h_v0
        replace h259 := Ev.mono (RL.mono RI.mono) hle272 h259
        refine WL.nil ?_
        refine W.region ?_
        refine WL.vS hS hE (runs_plain rfl) (Gives.p hE rfl) rfl ?_; clear hE a; intro a hE
        refine WL.vS hS hE (runs_plain rfl) (Gives.nilOk hE rfl) rfl ?_; clear hE a; intro a hE
        refine WL.vS hS hE (runs_plain rfl) (Gives.fld hE rfl fl93_5) rfl ?_; clear hE a; intro a hE
        refine WL.vS hS hE (runs_plain rfl) (Gives.loadB hE 0 rfl rfl rfl ty25) rfl ?_; clear hE a; intro a hE
        refine WL.vS hS hE (runs_plain rfl) (Gives.p hE rfl) rfl ?_; clear hE a; intro a hE
        refine WL.vS hS hE (runs_plain rfl) (Gives.p hE rfl) rfl ?_; clear hE a; intro a hE
        obtain ⟨_, hx274, hq115⟩ := bindS hq115
        obtain ⟨h275, h276⟩ := ix_some hx274
        refine WL.vS hS hE (runs_plain rfl) (Gives.idx hE ((q121).toNat) rfl rfl sl25 h275 (by have := hn266; omega) (hS.vecAok 2 rfl (by have := hn266; omega : (q121).toNat < y0.turns.length))) rfl ?_; clear hE a; intro a hE
        obtain ⟨x278, hx279, hq115⟩ := bindS hq115
        refine WL.setD hE hS 2 rfl (runs_plain rfl) rfl rfl (vs := [.slice a146 x136.length c147]) rfl ty44 rfl rfl rfl h265 hn266 (sx_some hx279).1 hx279 ⟨_, _, rfl, h148⟩ rfl ?_; clear hE hS a w; intro cs280 a w h281 hn282 hE hS
        refine WL.nil ?_
        refine W.region ?_
        refine WL.vS hS hE (runs_plain rfl) (Gives.p hE rfl) rfl ?_; clear hE a; intro a hE
        refine WL.vS hS hE (runs_plain rfl) (Gives.p hE rfl) rfl ?_; clear hE a; intro a hE
        refine WL.vS hS hE (runs_plain rfl) (Gives.p hE rfl) rfl ?_; clear hE a; intro a hE
        refine WL.nil ?_
        subst hK134
        exact ⟨n117, Nat.lt_succ_self _, n117, (w64 (q121 + 1)), x278, q262.2.1, q262.2.2, cs280, a267, c268, s271, rfl, (Sg.Le.trans (Sg.Le.trans hle120 hle261) hle272), hq115, h281, hn282, h269, hz270, hE.pick _ ⟨rfl, rfl, rfl, rfl, rfl, trivial⟩, hS⟩
     ·replace hq115 := iteF hc135 hq115
      subst hK134
      refine W.exit rfl ?_
      exact ⟨q121, q122, q128, q133, cs126, a129, c130, s119, hle120, Option.some.inj hq115, h125, hn127, h131, hz132, hE.pick _ trivial, hS⟩
    ·clear hE hS a w; rintro a w ⟨q121, q122, q128, q133, cs126, a129, c130, s119, hle120, rfl, h125, hn127, h131, hz132, hE, hS⟩
     dsimp only at hr
     replace h_y0_0 := Sl.mono RFleetTask.mono hle120 h_y0_0
     replace h_y0_2 := Sl.mono RFleetSet.mono hle120 h_y0_2
     replace h_y0_8 := Sl.mono (RL.mono RI.mono) hle120 h_y0_8
     replace h_v0 := Ev.mono RI.mono hle120 h_v0
     replace h_v1 := Ev.mono (RL.mono RI.mono) hle120 h_v1
     refine finG (fn := Try.f63) (rs := []) (vs := []) hE rfl trivial ?_
     obtain rfl := Option.some.inj hr
     exact ⟨cs126, a129, c130, s119, rfl, hle120, h125, hn127, h131, hz132, hS⟩
set_option maxHeartbeats 8000000 in
theorem FleetAssign_ok {fu : Nat}  {w : World} {s : Sg} {R : List HP} {x0 : List FleetTask} {a0 : Option Addr} {c0 : Nat} {x1 : Int} {x2 : List FleetSet} {a2 : Option Addr} {c2 : Nat} {x3 : FleetShop} (hS : St w s (R)) (h0 : Sl 6 RFleetTask s a0 c0 x0) (h2 : Sl 2 RFleetSet s a2 c2 x2) {r : (List (List Int)) × (List (List Int)) × Int} (hr : FleetAssign fu x0 x1 x2 x3 = some r) :
  Calls Try.prog 18 [.slice a0 x0.length c0, .int .i64 x1, .slice a2 x2.length c2, .agg (FleetShop.cells x3).toArray].toArray w (fun e w => ∃ (a0 : Option Addr) (c0 : Nat) (a1 : Option Addr) (c1 n1 : Nat) (cs1 : List Value) (t : Sg), e = .returned (.tuple #[.slice a0 r.1.length c0, .slice a1 n1 c1, .int .i64 r.2.2]) ∧ s.Le t ∧ Sl 1 (RL 1 (RI .i64)) t a0 c0 r.1 ∧ Ev 1 (RL 1 (RI .i64)) t cs1 r.2.1 ∧ r.2.1.length = n1 ∧ St w t (vecC 44 1 a1 c1 n1 cs1 :: R)) := by
 refine enter Try.func18 rfl rfl rfl fun a hE => ?_
 rw [FleetAssign] at hr
 refine W.seq (W.region ?_)
 refine WL.box hE hS (runs_plain rfl) rfl rfl rfl ?_; clear hE hS a w; intro b51 a w hE hS
 refine WL.vS hS hE (runs_plain rfl) (Gives.p hE rfl) rfl ?_; clear hE a; intro a hE
 refine WL.vS hS hE (runs_plain rfl) (Gives.p hE rfl) rfl ?_; clear hE a; intro a hE
 refine WL.vS hS hE (runs_plain rfl) (Gives.p hE rfl) rfl ?_; clear hE a; intro a hE
 refine WL.nil ?_
 refine W.seq ?_
 refine W.seq (W.region ?_)
 refine WL.vS hS hE (runs_plain rfl) (Gives.p hE rfl) rfl ?_; clear hE a; intro a hE
 refine WL.vS hS hE (runs_plain rfl) (Gives.p hE rfl) rfl ?_; clear hE a; intro a hE
 refine WL.fnq hE (FleetcheckTurn_ok hS h0 rfl (r := FleetcheckTurn x0 x1)) (runs_plain rfl) bd61 rfl rfl rfl ?_
 clear hE hS; rintro e w ⟨rfl, hS⟩; refine ⟨_, rfl, ?_⟩; clear a; intro a hE
 refine WL.vS hS hE (runs_plain rfl) (Gives.p hE rfl) rfl ?_; clear hE a; intro a hE
 refine WL.nil ?_
 refine W.seq (W.region ?_)
 refine WL.vS hS hE (runs_plain rfl) (Gives.p hE rfl) rfl ?_; clear hE a; intro a hE
 refine WL.vS hS hE (runs_plain rfl) (Gives.p hE rfl) rfl ?_; clear hE a; intro a hE
 refine WL.nil ?_
 refine W.cond hE rfl (fun hc52 => ?_) (fun hc52 => ?_)
 ·replace hr := iteT hc52 hr
  refine W.seq (W.region ?_)
  refine WL.vS hS hE (runs_plain rfl) (Gives.p hE rfl) rfl ?_; clear hE a; intro a hE
  refine WL.vS hS hE (runs_plain rfl) (Gives.p hE rfl) rfl ?_; clear hE a; intro a hE
  refine WL.vS hS hE (runs_plain rfl) (Gives.p hE rfl) rfl ?_; clear hE a; intro a hE
  refine WL.vS hS hE (runs_plain rfl) (Gives.p hE rfl) rfl ?_; clear hE a; intro a hE
  refine WL.nil ?_
  refine W.ret ?_
  replace hS := hS.vecNil 44 1
  refine finG (fn := Try.f18) (rs := [.tmp 8, .tmp 9, .tmp 10]) (vs := [_, _, _]) hE rfl ⟨rfl, rfl, rfl, trivial⟩ ?_
  obtain rfl := Option.some.inj hr
  replace hS := hS.dropAt 1
  exact ⟨none, 0, none, 0, 0, [], s, rfl, (Sg.Le.refl _), Sl.nil, (Ev.nil), (rfl), hS⟩
 ·replace hr := iteF hc52 hr
  refine W.skip ?_
  refine W.seq ?_
  refine W.seq (W.region ?_)
  refine WL.vS hS hE (runs_plain rfl) (Gives.p hE rfl) rfl ?_; clear hE a; intro a hE
  refine WL.vS hS hE (runs_plain rfl) (Gives.loadBA hE 0 rfl rfl ty35) rfl ?_; clear hE a; intro a hE
  refine WL.fnq hE (FleetcheckSets_ok hS h2 rfl (r := FleetcheckSets x2 x3 6)) (runs_plain rfl) bd55 rfl rfl rfl ?_
  clear hE hS; rintro e w ⟨rfl, hS⟩; refine ⟨_, rfl, ?_⟩; clear a; intro a hE
  refine WL.vS hS hE (runs_plain rfl) (Gives.p hE rfl) rfl ?_; clear hE a; intro a hE
  refine WL.nil ?_
  refine W.seq (W.region ?_)
  refine WL.vS hS hE (runs_plain rfl) (Gives.p hE rfl) rfl ?_; clear hE a; intro a hE
  refine WL.vS hS hE (runs_plain rfl) (Gives.p hE rfl) rfl ?_; clear hE a; intro a hE
  refine WL.nil ?_
  refine W.cond hE rfl (fun hc54 => ?_) (fun hc54 => ?_)
  ·replace hr := iteT hc54 hr
   refine W.seq (W.region ?_)
   refine WL.vS hS hE (runs_plain rfl) (Gives.p hE rfl) rfl ?_; clear hE a; intro a hE
   refine WL.vS hS hE (runs_plain rfl) (Gives.p hE rfl) rfl ?_; clear hE a; intro a hE
   refine WL.vS hS hE (runs_plain rfl) (Gives.p hE rfl) rfl ?_; clear hE a; intro a hE
   refine WL.vS hS hE (runs_plain rfl) (Gives.p hE rfl) rfl ?_; clear hE a; intro a hE
   refine WL.nil ?_
   refine W.ret ?_
   replace hS := hS.vecNil 44 1
   refine finG (fn := Try.f18) (rs := [.tmp 8, .tmp 9, .tmp 10]) (vs := [_, _, _]) hE rfl ⟨rfl, rfl, rfl, trivial⟩ ?_
   obtain rfl := Option.some.inj hr
   replace hS := hS.dropAt 1
   exact ⟨none, 0, none, 0, 0, [], s, rfl, (Sg.Le.refl _), Sl.nil, (Ev.nil), (rfl), hS⟩
  ·replace hr := iteF hc54 hr
   refine W.skip ?_
   refine W.seq (W.region ?_)
   refine WL.vS hS hE (runs_plain rfl) (Gives.p hE rfl) rfl ?_; clear hE a; intro a hE
   refine WL.nil ?_
   refine W.seq ?_
   refine W.seq (W.region ?_)
   refine WL.vS hS hE (runs_plain rfl) (Gives.p hE rfl) rfl ?_; clear hE a; intro a hE
   refine WL.vS hS hE (runs_plain rfl) (Gives.len hE rfl sl32) rfl ?_; clear hE a; intro a hE
   refine WL.vS hS hE (runs_plain rfl) (Gives.p hE rfl) rfl ?_; clear hE a; intro a hE
   refine WL.nil ?_
   obtain ⟨q57, hq56, hr⟩ := bndS hr
   refine W.cut (fun a w => ∃ (q67 : Int), q67 = q57 ∧ Rep a 106 [(0, .slice a0 x0.length c0), (1, .int .i64 x1), (2, .slice a2 x2.length c2), (7, .pointer (some ⟨b51, 0, none⟩)), (13, .int .i64 q67)] ∧ St w s (pt b51 (.cells (FleetShop.cells x3).toArray 35 (0, 0)) :: R)) ?_ ?_
   ·refine W.block ?_
    refine W.loop (fun m a w => ∃ (rest60 : List FleetTask) (k58 : Nat), ∃ (q67 : Int), rest60.length = m ∧ x0.drop k58 = rest60 ∧ FleetAssign.loop1 rest60 q67 = q57 ∧ Rep a 106 [(0, .slice a0 x0.length c0), (1, .int .i64 x1), (2, .slice a2 x2.length c2), (7, .pointer (some ⟨b51, 0, none⟩)), (13, .int .i64 q67), (34, .slice a0 x0.length c0), (35, .int .i64 ((x0).length : Int)), (36, .int .i64 ((k58 : Nat) : Int))] ∧ St w s (pt b51 (.cells (FleetShop.cells x3).toArray 35 (0, 0)) :: R)) (m := x0.length) ⟨x0, 0, 0, rfl, rfl, hq56, hE.pick _ ⟨rfl, rfl, rfl, rfl, rfl, rfl, rfl, rfl, trivial⟩, hS⟩ ?_
    clear hE hS a w hq56; rintro m64 a w ⟨rest60, k58, q67, rfl, hd61, hq56, hE, hS⟩
    refine W.gen fun K68 hK68 => ?_
    rcases rest60 with _ | ⟨x59, rest60⟩
    ·have hlt62 := drop_nil hd61
     refine W.seq (W.region ?_)
     refine WL.vS hS hE (runs_plain rfl) (Gives.p hE rfl) rfl ?_; clear hE a; intro a hE
     refine WL.nil ?_
     refine W.seq ?_
     refine W.condF hE rfl (decide_eq_false (by omega)) ?_
     subst hK68
     refine W.exit rfl ?_
     exact ⟨q67, hq56, hE.pick _ ⟨rfl, rfl, rfl, rfl, rfl, trivial⟩, hS⟩
    ·obtain ⟨hlt62, hx63, hd61⟩ := drop_cons hd61
     rw [FleetAssign.loop1] at hq56
     refine W.seq (W.region ?_)
     refine WL.vS hS hE (runs_plain rfl) (Gives.p hE rfl) rfl ?_; clear hE a; intro a hE
     refine WL.nil ?_
     refine W.seq ?_
     refine W.condT hE rfl (decide_eq_true (by omega)) ?_
     refine W.skip ?_
     refine W.seq ?_
     refine W.block ?_
     refine W.seq (W.region ?_)
     obtain ⟨cs69, hl70, hR71, hat72⟩ := h0.at hx63
     subst hR71
     refine WL.vS hS hE (runs_plain rfl) (Gives.idx hE k58 rfl rfl sl32 rfl hlt62 (h0.aok hlt62)) rfl ?_; clear hE a; intro a hE
     refine WL.vS hS hE (runs_plain rfl) (Gives.loadA hE rfl (fun w h => hat72 w _ h) ty78) rfl ?_; clear hE a; intro a hE
     refine WL.alloc hE hS (runs_plain rfl) zr78 rfl ?_; clear hE hS a w; intro b73 a w hE hS
     refine WL.storeI hE hS 0 rfl (FleetTask.cells x59) (runs_plain rfl) rfl rfl rfl ty78 rfl rfl rfl rfl ?_; clear hE hS a w; intro a w hE hS
     refine WL.nil ?_
     refine W.region ?_
     refine WL.vS hS hE (runs_plain rfl) (Gives.p hE rfl) rfl ?_; clear hE a; intro a hE
     refine WL.vS hS hE (runs_plain rfl) (Gives.fld hE rfl fl78_5) rfl ?_; clear hE a; intro a hE
     refine WL.vS hS hE (runs_plain rfl) (Gives.loadB hE 0 rfl rfl rfl ty3) rfl ?_; clear hE a; intro a hE
     refine WL.vS hS hE (runs_plain rfl) (Gives.p hE rfl) rfl ?_; clear hE a; intro a hE
     refine WL.vS hS hE (runs_plain rfl) (Gives.p hE rfl) rfl ?_; clear hE a; intro a hE
     refine WL.nil ?_
     refine W.region ?_
     refine WL.vS hS hE (runs_plain rfl) (Gives.inc hE rfl (by have := h0.small; omega)) rfl ?_; clear hE a; intro a hE
     refine WL.vS hS hE (runs_plain rfl) (Gives.p hE rfl) rfl ?_; clear hE a; intro a hE
     refine WL.nil ?_
     replace hS := hS.tail
     subst hK68
     exact ⟨rest60.length, Nat.lt_succ_self _, rest60, k58 + 1, (w64 (q67 + x59.Units)), rfl, hd61, hq56, hE.pick _ ⟨rfl, rfl, rfl, rfl, rfl, rfl, rfl, rfl, trivial⟩, hS⟩
   ·clear hE hS a w; rintro a w ⟨q67, rfl, hE, hS⟩
    refine W.seq ?_
    refine W.seq (W.region ?_)
    refine WL.vS hS hE (runs_plain rfl) (Gives.p hE rfl) rfl ?_; clear hE a; intro a hE
    refine WL.vS hS hE (runs_plain rfl) (Gives.p hE rfl) rfl ?_; clear hE a; intro a hE
    refine WL.nil ?_
    refine W.cond hE rfl (fun hc74 => ?_) (fun hc74 => ?_)
    ·replace hr := iteT hc74 hr
     refine W.seq (W.region ?_)
     refine WL.vS hS hE (runs_plain rfl) (Gives.p hE rfl) rfl ?_; clear hE a; intro a hE
     refine WL.vS hS hE (runs_plain rfl) (Gives.p hE rfl) rfl ?_; clear hE a; intro a hE
     refine WL.vS hS hE (runs_plain rfl) (Gives.p hE rfl) rfl ?_; clear hE a; intro a hE
     refine WL.nil ?_
     refine W.ret ?_
     replace hS := hS.vecNil 44 1
     refine finG (fn := Try.f18) (rs := [.tmp 8, .tmp 9, .tmp 10]) (vs := [_, _, _]) hE rfl ⟨rfl, rfl, rfl, trivial⟩ ?_
     obtain rfl := Option.some.inj hr
     replace hS := hS.dropAt 1
     exact ⟨none, 0, none, 0, 0, [], s, rfl, (Sg.Le.refl _), Sl.nil, (Ev.nil), (rfl), hS⟩
    ·replace hr := iteF hc74 hr
     refine W.skip ?_
     refine W.seq ?_
     refine W.gen fun K76 hK76 => ?_
     refine W.regionE (sel (fun w => St w s (pt b51 (.cells (FleetShop.cells x3).toArray 35 (0, 0)) :: R)) (fun w => St w s (pt b51 (.cells (FleetShop.cells x3).toArray 35 (0, 0)) :: R))) (fun b i => cond b ([0, 1, 2, 3, 4, 5, 6, 7, 8, 9, 10, 11].contains i) ([0, 1, 2, 3, 4, 5, 6, 7, 8, 9, 10, 11].contains i)) mixed ?_
     replace hS := hS.drew
     refine Rg.takeP (i := 0) hE rfl (by kernel_rfl) (runs_plain rfl) (Gives.p hE rfl) rfl (tw_sel (fun _ => hS) (fun _ => hS)) ?_; clear hE a; intro a hE
     refine Rg.takeP (i := 1) hE rfl (by kernel_rfl) (runs_plain rfl) (Gives.p hE rfl) rfl (tw_sel (fun _ => hS) (fun _ => hS)) ?_; clear hE a; intro a hE
     refine Rg.takeP (i := 2) hE rfl (by kernel_rfl) (runs_plain rfl) (Gives.p hE rfl) rfl (tw_sel (fun _ => hS) (fun _ => hS)) ?_; clear hE a; intro a hE
     have hT := tw_sel (A := fun w => St w s _) (B := fun w => St w s _) (w := _) (x := true) (y := true) (fun _ => hS) (fun _ => hS)
     have hF := hS; replace hS := hS
     refine Rg.take (i := 3) true rfl hE rfl (by kernel_rfl) (runs_plain rfl) (Gives.loadBA hE 0 rfl rfl ty35) rfl hT ?_; clear hE a; intro a hE
     replace hS := hF; clear hF hT
     refine Rg.takeP (i := 4) hE rfl (by kernel_rfl) (runs_plain rfl) (Gives.p hE rfl) rfl (tw_sel (fun _ => hS) (fun _ => hS)) ?_; clear hE a; intro a hE
     refine Rg.takeP (i := 6) hE rfl (by kernel_rfl) (runs_plain rfl) (Gives.p hE rfl) rfl (tw_sel (fun _ => hS) (fun _ => hS)) ?_; clear hE a; intro a hE
     refine Rg.takeP (i := 7) hE rfl (by kernel_rfl) (runs_plain rfl) (Gives.len hE rfl sl33) rfl (tw_sel (fun _ => hS) (fun _ => hS)) ?_; clear hE a; intro a hE
     obtain ⟨q77, hq78, hr⟩ := bindS hr
     obtain ⟨x85, hx86, hr⟩ := bindS hr
     suffices key : ∀ cs88 cs82 b91 a79 c80 b87 (a : Act) (w : World), Sl 6 RFleetTask s a0 c0 x0 → Sl 2 RFleetSet s a2 c2 x2 → Ev 1 (RL 1 (RI .i64)) s cs88 x85 → Ev 1 (RI .i64) s cs82 q77 → Rep a 106 [(0, .slice a0 x0.length c0), (2, .slice a2 x2.length c2), (7, .pointer (some ⟨b51, 0, none⟩)), (16, .pointer (some ⟨b91, 0, none⟩))] → St w s (pt b91 (.cells #[.slice a0 x0.length c0, .int .i64 x1, .slice a2 x2.length c2, .int .i64 x3.Place, .int .i64 x3.Long, .int .i64 x3.Limit, .slice a79 q77.length c80, .slice (some ⟨b87, 0, none⟩) x85.length x85.length, .slice none 0 0, .int .i64 0] 93 (0, 0)) :: vecC 44 1 (some ⟨b87, 0, none⟩) x85.length x85.length cs88 :: vecC 3 1 a79 c80 q77.length cs82 :: pt b51 (.cells (FleetShop.cells x3).toArray 35 (0, 0)) :: R) → K76.nor a w by
      refine Rg.many 5 [8] (by kernel_rfl) ⟨?_, ?_, trivial⟩
      ·refine Br.mk (i := 5) true true rfl (by kernel_rfl) (by kernel_rfl) ?_
       have hc_ := Fleetorder_ok hS h0 hq78
       refine WL.fnq hE (hc_) (runs_plain rfl) bd62 rfl rfl rfl ?_
       clear hE hS hc_; rintro e w ⟨a79, c80, n81, cs82, rfl, h83, rfl, hS⟩; refine ⟨_, rfl, ?_⟩; clear a; intro a hE
       refine WL.nil ?_
       refine ⟨⟨fun _ => (hS.tail), fun _ => (hS.tail)⟩, ?_⟩
       refine Rg.one (i := 8) true true rfl (by kernel_rfl) (by kernel_rfl) (by kernel_rfl) ?_
       refine WL.mkD (Rr := RL 1 (RI .i64)) hE hS (runs_plain rfl) rfl rfl ap25 zr44 ⟨_, _, rfl, Sl.nil⟩ hx86 rfl ?_; clear hE hS a w; intro b87 cs88 a w h89 hE hS
       refine WL.nil ?_
       refine ⟨⟨fun _ => ((hS.tail).tail), fun _ => ((hS.tail).tail)⟩, ?_⟩
       refine Rg.takeP (i := 9) hE rfl (by kernel_rfl) (runs_plain rfl) (Gives.build hE (vs := [(0, .slice a0 x0.length c0), (1, .int .i64 x1), (2, .slice a2 x2.length c2), (3, .agg (FleetShop.cells x3).toArray), (4, .slice a79 q77.length c80), (5, .slice (some ⟨b87, 0, none⟩) x85.length x85.length)]) [.slice a0 x0.length c0, .int .i64 x1, .slice a2 x2.length c2, .int .i64 x3.Place, .int .i64 x3.Long, .int .i64 x3.Limit, .slice a79 q77.length c80, .slice (some ⟨b87, 0, none⟩) x85.length x85.length, .slice none 0 0, .int .i64 0] rfl (by kernel_rfl)) rfl (tw_sel (fun _ => ((hS.tail).tail)) (fun _ => ((hS.tail).tail))) ?_; clear hE a; intro a hE
       refine Rg.one (i := 10) true true rfl (by kernel_rfl) (by kernel_rfl) (by kernel_rfl) ?_
       refine WL.box hE hS (runs_plain rfl) rfl rfl rfl ?_; clear hE hS a w; intro b91 a w hE hS
       refine WL.nil ?_
       refine ⟨⟨fun _ => (((hS.tail).tail).tail), fun _ => (((hS.tail).tail).tail)⟩, ?_⟩
       refine Rg.takeP (i := 11) hE rfl (by kernel_rfl) (runs_plain rfl) (Gives.p hE rfl) rfl (tw_sel (fun _ => (((hS.tail).tail).tail)) (fun _ => (((hS.tail).tail).tail))) ?_; clear hE a; intro a hE
       refine Rg.done (by kernel_rfl) ?_
       exact key _ _ _ _ _ _ _ _ h0 h2 h89 h83 (hE.pick _ ⟨rfl, rfl, rfl, rfl, trivial⟩) hS
      ·refine Br.mk (i := 8) true true rfl (by kernel_rfl) (by kernel_rfl) ?_
       refine WL.mkD (Rr := RL 1 (RI .i64)) hE hS (runs_plain rfl) rfl rfl ap25 zr44 ⟨_, _, rfl, Sl.nil⟩ hx86 rfl ?_; clear hE hS a w; intro b87 cs88 a w h89 hE hS
       refine WL.nil ?_
       refine ⟨⟨fun _ => (hS.tail), fun _ => (hS.tail)⟩, ?_⟩
       refine Rg.one (i := 5) true true rfl (by kernel_rfl) (by kernel_rfl) (by kernel_rfl) ?_
       have hc_ := Fleetorder_ok hS h0 hq78
       refine WL.fnq hE (hc_) (runs_plain rfl) bd62 rfl rfl rfl ?_
       clear hE hS hc_; rintro e w ⟨a79, c80, n81, cs82, rfl, h83, rfl, hS⟩; refine ⟨_, rfl, ?_⟩; clear a; intro a hE
       refine WL.nil ?_
       refine ⟨⟨fun _ => ((hS.tail).tail), fun _ => ((hS.tail).tail)⟩, ?_⟩
       refine Rg.takeP (i := 9) hE rfl (by kernel_rfl) (runs_plain rfl) (Gives.build hE (vs := [(0, .slice a0 x0.length c0), (1, .int .i64 x1), (2, .slice a2 x2.length c2), (3, .agg (FleetShop.cells x3).toArray), (4, .slice a79 q77.length c80), (5, .slice (some ⟨b87, 0, none⟩) x85.length x85.length)]) [.slice a0 x0.length c0, .int .i64 x1, .slice a2 x2.length c2, .int .i64 x3.Place, .int .i64 x3.Long, .int .i64 x3.Limit, .slice a79 q77.length c80, .slice (some ⟨b87, 0, none⟩) x85.length x85.length, .slice none 0 0, .int .i64 0] rfl (by kernel_rfl)) rfl (tw_sel (fun _ => ((hS.tail).tail)) (fun _ => ((hS.tail).tail))) ?_; clear hE a; intro a hE
       refine Rg.one (i := 10) true true rfl (by kernel_rfl) (by kernel_rfl) (by kernel_rfl) ?_
       refine WL.box hE hS (runs_plain rfl) rfl rfl rfl ?_; clear hE hS a w; intro b91 a w hE hS
       refine WL.nil ?_
       refine ⟨⟨fun _ => (((hS.tail).tail).tail), fun _ => (((hS.tail).tail).tail)⟩, ?_⟩
       refine Rg.takeP (i := 11) hE rfl (by kernel_rfl) (runs_plain rfl) (Gives.p hE rfl) rfl (tw_sel (fun _ => (((hS.tail).tail).tail)) (fun _ => (((hS.tail).tail).tail))) ?_; clear hE a; intro a hE
       refine Rg.done (by kernel_rfl) ?_
       replace hS := hS.front 3 rfl
       replace hS := hS.front 2 rfl
       replace hS := hS.front 3 rfl
       replace hS := hS.front 3 rfl
       exact key _ _ _ _ _ _ _ _ h0 h2 h89 h83 (hE.pick _ ⟨rfl, rfl, rfl, rfl, trivial⟩) hS
     clear hE hS a w; intro cs88 cs82 b91 a79 c80 b87 a w h0 h2 h89 h83 hE hS
     subst hK76
     refine W.seq (W.region ?_)
     refine WL.vS hS hE (runs_plain rfl) (Gives.p hE rfl) rfl ?_; clear hE a; intro a hE
     obtain ⟨q93, hq94, hr⟩ := bindS hr
     replace hS := hS.front 1 rfl
     replace hS := hS.front 2 rfl
     replace hS := hS.front 2 rfl
     have hc_ := FleetGivergive_v1_ok (y0 := (FleetGiver.mk x0 x1 x2 x3 q77 x85 [] 0)) hS h0 h2 h83 rfl h89 (rfl) Sl.nil (fun _ => rfl) hq94
     refine WL.fnq hE (hc_) (runs_plain rfl) bd63 rfl rfl rfl ?_
     clear hE hS hc_; rintro e w ⟨cs95, a98, c99, s102, rfl, hle103, h96, hn97, h100, hz101, hS⟩; refine ⟨_, rfl, ?_⟩; clear a; intro a hE
     replace h0 := Sl.mono RFleetTask.mono hle103 h0
     replace h2 := Sl.mono RFleetSet.mono hle103 h2
     replace h83 := Ev.mono RI.mono hle103 h83
     replace h89 := Ev.mono (RL.mono RI.mono) hle103 h89
     refine WL.nil ?_
     refine W.seq ?_
     refine W.seq ?_
     obtain ⟨q105, hq104, hr⟩ := bndS hr
     refine W.cut (fun a w => ∃ (q108 : Bool), q108 = q105 ∧ Rep a 106 [(0, .slice a0 x0.length c0), (2, .slice a2 x2.length c2), (7, .pointer (some ⟨b51, 0, none⟩)), (16, .pointer (some ⟨b91, 0, none⟩)), (74, .bool q108)] ∧ St w s102 (pt b91 (.cells #[.slice a0 x0.length c0, .int .i64 x1, .slice a2 x2.length c2, .int .i64 x3.Place, .int .i64 x3.Long, .int .i64 x3.Limit, .slice a79 q77.length c80, .slice (some ⟨b87, 0, none⟩) x85.length x85.length, .slice a98 q93.2.1.length c99, .int .i64 q93.2.2] 93 (0, 0)) :: vecC 3 1 a79 c80 q77.length cs82 :: vecC 44 1 (some ⟨b87, 0, none⟩) x85.length x85.length cs95 :: pt b51 (.cells (FleetShop.cells x3).toArray 35 (0, 0)) :: R)) ?_ ?_
     ·refine W.gen fun K109 hK109 => ?_
      refine W.region ?_
      refine WL.vS hS hE (runs_plain rfl) (Gives.p hE rfl) rfl ?_; clear hE a; intro a hE
      refine WL.vS hS hE (runs_plain rfl) (Gives.nilOk hE rfl) rfl ?_; clear hE a; intro a hE
      refine WL.vS hS hE (runs_plain rfl) (Gives.fld hE rfl fl93_6) rfl ?_; clear hE a; intro a hE
      refine WL.vS hS hE (runs_plain rfl) (Gives.loadB hE 0 rfl rfl rfl ty25) rfl ?_; clear hE a; intro a hE
      refine WL.vS hS hE (runs_plain rfl) (Gives.isNilZ hE (isNone_eq h100 hz101) rfl rfl isl25) rfl ?_; clear hE a; intro a hE
      refine WL.vS hS hE (runs_plain rfl) (Gives.p hE rfl) rfl ?_; clear hE a; intro a hE
      rcases Bool.eq_false_or_eq_true q93.2.1.isEmpty with hg110 | hg110
      ·replace hq104 := iteT hg110 hq104
       refine WL.vS hS hE (runs_if hE rfl rfl rfl hg110) (Gives.p hE rfl) rfl ?_; clear hE a; intro a hE
       refine WL.vS hS hE (runs_if hE rfl rfl rfl hg110) (Gives.len hE rfl sl32) rfl ?_; clear hE a; intro a hE
       refine WL.vS hS hE (runs_if hE rfl rfl rfl hg110) (Gives.p hE rfl) rfl ?_; clear hE a; intro a hE
       refine WL.vS hS hE (runs_if hE rfl rfl rfl hg110) (Gives.p hE rfl) rfl ?_; clear hE a; intro a hE
       rcases Bool.eq_false_or_eq_true (decide (((x0).length : Int) > 0)) with hg111 | hg111
       ·replace hq104 := iteT hg111 hq104
        refine WL.no hE (runs_not hE rfl rfl rfl (by rw [hg111]; decide)) rfl ?_; clear hE a; intro a hE
        refine WL.no hE (runs_not hE rfl rfl rfl (by rw [hg111]; decide)) rfl ?_; clear hE a; intro a hE
        refine WL.no hE (runs_not hE rfl rfl rfl (by rw [hg111]; decide)) rfl ?_; clear hE a; intro a hE
        refine WL.vS hS hE (runs_if hE rfl rfl rfl hg110) (Gives.pickT hE rfl hg111 rfl) rfl ?_; clear hE a; intro a hE
        refine WL.vS hS hE (runs_plain rfl) (Gives.pickT hE rfl hg110 rfl) rfl ?_; clear hE a; intro a hE
        refine WL.nil ?_
        subst hK109
        exact ⟨true, hq104, hE.pick _ ⟨rfl, rfl, rfl, rfl, rfl, trivial⟩, hS⟩
       ·replace hq104 := iteF hg111 hq104
        refine WL.vS hS hE (runs_if hE rfl rfl rfl hg111) (Gives.p hE rfl) rfl ?_; clear hE a; intro a hE
        refine WL.vS hS hE (runs_if hE rfl rfl rfl hg111) (Gives.len hE rfl sl33) rfl ?_; clear hE a; intro a hE
        refine WL.vS hS hE (runs_if hE rfl rfl rfl hg111) (Gives.p hE rfl) rfl ?_; clear hE a; intro a hE
        refine WL.vS hS hE (runs_if hE rfl rfl rfl hg110) (Gives.pickF hE rfl hg111 rfl) rfl ?_; clear hE a; intro a hE
        refine WL.vS hS hE (runs_plain rfl) (Gives.pickT hE rfl hg110 rfl) rfl ?_; clear hE a; intro a hE
        refine WL.nil ?_
        subst hK109
        exact ⟨decide (((x2).length : Int) > 0), hq104, hE.pick _ ⟨rfl, rfl, rfl, rfl, rfl, trivial⟩, hS⟩
      ·replace hq104 := iteF hg110 hq104
       refine WL.no hE (runs_not hE rfl rfl rfl (by rw [hg110]; decide)) rfl ?_; clear hE a; intro a hE
       refine WL.no hE (runs_not hE rfl rfl rfl (by rw [hg110]; decide)) rfl ?_; clear hE a; intro a hE
       refine WL.no hE (runs_not hE rfl rfl rfl (by rw [hg110]; decide)) rfl ?_; clear hE a; intro a hE
       refine WL.no hE (runs_not hE rfl rfl rfl (by rw [hg110]; decide)) rfl ?_; clear hE a; intro a hE
       refine WL.no hE (runs_undef hE rfl rfl rfl) rfl ?_; clear hE a; intro a hE
       refine WL.no hE (runs_undef hE rfl rfl rfl) rfl ?_; clear hE a; intro a hE
       refine WL.no hE (runs_undef hE rfl rfl rfl) rfl ?_; clear hE a; intro a hE
       refine WL.no hE (runs_not hE rfl rfl rfl (by rw [hg110]; decide)) rfl ?_; clear hE a; intro a hE
       refine WL.vS hS hE (runs_plain rfl) (Gives.pickF hE rfl hg110 rfl) rfl ?_; clear hE a; intro a hE
       refine WL.nil ?_
       subst hK109
       exact ⟨false, hq104, hE.pick _ ⟨rfl, rfl, rfl, rfl, rfl, trivial⟩, hS⟩
     ·clear hE hS a w; rintro a w ⟨q108, rfl, hE, hS⟩
      refine W.cond hE rfl (fun hc112 => ?_) (fun hc112 => ?_)
      ·replace hr := iteT hc112 hr
       refine W.seq (W.region ?_)
       refine WL.vS hS hE (runs_plain rfl) (Gives.p hE rfl) rfl ?_; clear hE a; intro a hE
       refine WL.vS hS hE (runs_plain rfl) (Gives.p hE rfl) rfl ?_; clear hE a; intro a hE
       refine WL.vS hS hE (runs_plain rfl) (Gives.p hE rfl) rfl ?_; clear hE a; intro a hE
       refine WL.nil ?_
       refine W.ret ?_
       replace hS := hS.vecNil 44 1
       refine finG (fn := Try.f18) (rs := [.tmp 8, .tmp 9, .tmp 10]) (vs := [_, _, _]) hE rfl ⟨rfl, rfl, rfl, trivial⟩ ?_
       obtain rfl := Option.some.inj hr
       replace hS := hS.dropAt 1
       replace hS := hS.dropAt 1
       replace hS := hS.dropAt 1
       replace hS := hS.dropAt 1
       exact ⟨none, 0, none, 0, 0, [], s102, rfl, hle103, Sl.nil, (Ev.nil), (rfl), hS⟩
      ·replace hr := iteF hc112 hr
       refine W.skip ?_
       refine W.seq (W.region ?_)
       replace hS := hS.vecNil 44 1
       refine WL.vS hS hE (runs_plain rfl) (Gives.p hE rfl) rfl ?_; clear hE a; intro a hE
       refine WL.nil ?_
       refine W.seq ?_
       refine W.seq (W.region ?_)
       refine WL.vS hS hE (runs_plain rfl) (Gives.p hE rfl) rfl ?_; clear hE a; intro a hE
       refine WL.vS hS hE (runs_plain rfl) (Gives.nilOk hE rfl) rfl ?_; clear hE a; intro a hE
       refine WL.vS hS hE (runs_plain rfl) (Gives.fld hE rfl fl93_6) rfl ?_; clear hE a; intro a hE
       refine WL.vS hS hE (runs_plain rfl) (Gives.loadB hE 1 rfl rfl rfl ty25) rfl ?_; clear hE a; intro a hE
       refine WL.vS hS hE (runs_plain rfl) (Gives.len hE rfl sl25) rfl ?_; clear hE a; intro a hE
       refine WL.vS hS hE (runs_plain rfl) (Gives.p hE rfl) rfl ?_; clear hE a; intro a hE
       refine WL.nil ?_
       obtain ⟨q116, hq115, hr⟩ := bindS hr
       refine W.cut (fun a w => ∃ (q126 : List (List Int)), ∃ (a127 : Option Addr), ∃ (c128 : Nat), ∃ (n130 : Nat), ∃ (cs131 : List Value), ∃ (s124 : Sg), s102.Le s124 ∧ q126 = q116 ∧ Ev 1 (RL 1 (RI .i64)) s124 cs131 q126 ∧ q126.length = n130 ∧ Rep a 106 [(16, .pointer (some ⟨b91, 0, none⟩)), (17, .slice a127 n130 c128)] ∧ St w s124 (vecC 44 1 a127 c128 n130 cs131 :: pt b91 (.cells #[.slice a0 x0.length c0, .int .i64 x1, .slice a2 x2.length c2, .int .i64 x3.Place, .int .i64 x3.Long, .int .i64 x3.Limit, .slice a79 q77.length c80, .slice (some ⟨b87, 0, none⟩) x85.length x85.length, .slice a98 q93.2.1.length c99, .int .i64 q93.2.2] 93 (0, 0)) :: vecC 3 1 a79 c80 q77.length cs82 :: vecC 44 1 (some ⟨b87, 0, none⟩) x85.length x85.length cs95 :: pt b51 (.cells (FleetShop.cells x3).toArray 35 (0, 0)) :: R)) ?_ ?_
       ·refine W.block ?_
        refine W.loop (fun m a w => ∃ (rest119 : List (List Int)) (k117 : Nat), ∃ (q126 : List (List Int)), ∃ (a127 : Option Addr), ∃ (c128 : Nat), ∃ (n130 : Nat), ∃ (cs131 : List Value), ∃ (s124 : Sg), rest119.length = m ∧ q93.2.1.drop k117 = rest119 ∧ s102.Le s124 ∧ FleetAssign.loop2 x0 x2 x3 fu rest119 k117 q126 = some q116 ∧ Ev 1 (RL 1 (RI .i64)) s124 cs131 q126 ∧ q126.length = n130 ∧ Rep a 106 [(0, .slice a0 x0.length c0), (2, .slice a2 x2.length c2), (7, .pointer (some ⟨b51, 0, none⟩)), (16, .pointer (some ⟨b91, 0, none⟩)), (17, .slice a127 n130 c128), (78, .slice a98 q93.2.1.length c99), (79, .int .i64 ((q93.2.1).length : Int)), (80, .int .i64 ((k117 : Nat) : Int))] ∧ St w s124 (vecC 44 1 a127 c128 n130 cs131 :: pt b91 (.cells #[.slice a0 x0.length c0, .int .i64 x1, .slice a2 x2.length c2, .int .i64 x3.Place, .int .i64 x3.Long, .int .i64 x3.Limit, .slice a79 q77.length c80, .slice (some ⟨b87, 0, none⟩) x85.length x85.length, .slice a98 q93.2.1.length c99, .int .i64 q93.2.2] 93 (0, 0)) :: vecC 3 1 a79 c80 q77.length cs82 :: vecC 44 1 (some ⟨b87, 0, none⟩) x85.length x85.length cs95 :: pt b51 (.cells (FleetShop.cells x3).toArray 35 (0, 0)) :: R)) (m := q93.2.1.length) ⟨q93.2.1, 0, [], none, 0, 0, [], s102, rfl, rfl, (Sg.Le.refl _), hq115, (Ev.nil), (rfl), hE.pick _ ⟨rfl, rfl, rfl, rfl, rfl, rfl, rfl, rfl, trivial⟩, hS⟩ ?_
        clear hE hS a w hq115; rintro m123 a w ⟨rest119, k117, q126, a127, c128, n130, cs131, s124, rfl, hd120, hle125, hq115, h129, rfl, hE, hS⟩
        refine W.gen fun K133 hK133 => ?_
        replace h0 := Sl.mono RFleetTask.mono hle125 h0
        replace h2 := Sl.mono RFleetSet.mono hle125 h2
        replace h100 := Sl.mono (RL.mono RI.mono) hle125 h100
        replace h83 := Ev.mono RI.mono hle125 h83
        replace h96 := Ev.mono (RL.mono RI.mono) hle125 h96
        rcases rest119 with _ | ⟨x118, rest119⟩
        ·have hlt121 := drop_nil hd120
         refine W.seq (W.region ?_)
         refine WL.vS hS hE (runs_plain rfl) (Gives.p hE rfl) rfl ?_; clear hE a; intro a hE
         refine WL.nil ?_
         refine W.seq ?_
         refine W.condF hE rfl (decide_eq_false (by omega)) ?_
         subst hK133
         refine W.exit rfl ?_
         exact ⟨q126, a127, c128, q126.length, cs131, s124, hle125, Option.some.inj hq115, h129, rfl, hE.pick _ ⟨rfl, rfl, trivial⟩, hS⟩
        ·obtain ⟨hlt121, hx122, hd120⟩ := drop_cons hd120
         rw [FleetAssign.loop2] at hq115
         refine W.seq (W.region ?_)
         refine WL.vS hS hE (runs_plain rfl) (Gives.p hE rfl) rfl ?_; clear hE a; intro a hE
         refine WL.nil ?_
         refine W.seq ?_
         refine W.condT hE rfl (decide_eq_true (by omega)) ?_
         refine W.skip ?_
         refine W.seq ?_
         refine W.block ?_
         refine W.seq (W.region ?_)
         refine WL.vS hS hE (runs_plain rfl) (Gives.p hE rfl) rfl ?_; clear hE a; intro a hE
         obtain ⟨cs134, hl135, hR136, hat137⟩ := h100.at hx122
         obtain ⟨a138, c139, rfl, h140⟩ := hR136
         refine WL.vS hS hE (runs_plain rfl) (Gives.idx hE k117 rfl rfl sl25 rfl hlt121 (h100.aok hlt121)) rfl ?_; clear hE a; intro a hE
         refine WL.vS hS hE (runs_plain rfl) (Gives.load1 hE rfl (fun w h => hat137 w _ h) ty44) rfl ?_; clear hE a; intro a hE
         refine WL.vS hS hE (runs_plain rfl) (Gives.p hE rfl) rfl ?_; clear hE a; intro a hE
         refine WL.vS hS hE (runs_plain rfl) (Gives.p hE rfl) rfl ?_; clear hE a; intro a hE
         refine WL.nil ?_
         refine W.seq ?_
         refine W.gen fun K141 hK141 => ?_
         refine W.regionE (sel (fun w => St w s124 (vecC 44 1 a127 c128 q126.length cs131 :: pt b91 (.cells #[.slice a0 x0.length c0, .int .i64 x1, .slice a2 x2.length c2, .int .i64 x3.Place, .int .i64 x3.Long, .int .i64 x3.Limit, .slice a79 q77.length c80, .slice (some ⟨b87, 0, none⟩) x85.length x85.length, .slice a98 q93.2.1.length c99, .int .i64 q93.2.2] 93 (0, 0)) :: vecC 3 1 a79 c80 q77.length cs82 :: vecC 44 1 (some ⟨b87, 0, none⟩) x85.length x85.length cs95 :: pt b51 (.cells (FleetShop.cells x3).toArray 35 (0, 0)) :: R)) (fun w => St w s124 (vecC 44 1 a127 c128 q126.length cs131 :: pt b91 (.cells #[.slice a0 x0.length c0, .int .i64 x1, .slice a2 x2.length c2, .int .i64 x3.Place, .int .i64 x3.Long, .int .i64 x3.Limit, .slice a79 q77.length c80, .slice (some ⟨b87, 0, none⟩) x85.length x85.length, .slice a98 q93.2.1.length c99, .int .i64 q93.2.2] 93 (0, 0)) :: vecC 3 1 a79 c80 q77.length cs82 :: vecC 44 1 (some ⟨b87, 0, none⟩) x85.length x85.length cs95 :: pt b51 (.cells (FleetShop.cells x3).toArray 35 (0, 0)) :: R))) (fun b i => cond b ([0, 1, 2, 3, 4, 5, 6, 7, 8, 9, 10, 11, 12].contains i) ([0, 1, 2, 3, 4, 5, 6, 7, 8, 9, 10, 11, 12].contains i)) mixed ?_
         replace hS := hS.drew
         refine Rg.takeP (i := 0) hE rfl (by kernel_rfl) (runs_plain rfl) (Gives.p hE rfl) rfl (tw_sel (fun _ => hS) (fun _ => hS)) ?_; clear hE a; intro a hE
         refine Rg.takeP (i := 1) hE rfl (by kernel_rfl) (runs_plain rfl) (Gives.p hE rfl) rfl (tw_sel (fun _ => hS) (fun _ => hS)) ?_; clear hE a; intro a hE
         refine Rg.takeP (i := 2) hE rfl (by kernel_rfl) (runs_plain rfl) (Gives.p hE rfl) rfl (tw_sel (fun _ => hS) (fun _ => hS)) ?_; clear hE a; intro a hE
         refine Rg.takeP (i := 3) hE rfl (by kernel_rfl) (runs_plain rfl) (Gives.p hE rfl) rfl (tw_sel (fun _ => hS) (fun _ => hS)) ?_; clear hE a; intro a hE
         obtain ⟨x142, hx143, hq115⟩ := bindS hq115
         obtain ⟨hi144, hlt145, hy146⟩ := gx_some hx143
         obtain ⟨cs147, hl148, hR149, hat150⟩ := h2.at hy146
         subst hR149
         refine Rg.takeP (i := 4) hE rfl (by kernel_rfl) (runs_plain rfl) (Gives.idx hE (((k117 : Nat) : Int)).toNat rfl rfl sl33 hi144 hlt145 (h2.aok hlt145)) rfl (tw_sel (fun _ => hS) (fun _ => hS)) ?_; clear hE a; intro a hE
         have hT := tw_sel (A := fun w => St w s124 _) (B := fun w => St w s124 _) (w := _) (x := true) (y := true) (fun _ => hS) (fun _ => hS)
         have hF := hS; replace hS := hS
         refine Rg.take (i := 5) true rfl hE rfl (by kernel_rfl) (runs_plain rfl) (Gives.loadA hE rfl (fun w h => hat150 w _ h) ty84) rfl hT ?_; clear hE a; intro a hE
         replace hS := hF; clear hF hT
         have hT := tw_sel (A := fun w => St w s124 _) (B := fun w => St w s124 _) (w := _) (x := true) (y := true) (fun _ => hS) (fun _ => hS)
         have hF := hS; replace hS := hS
         refine Rg.take (i := 6) true rfl hE rfl (by kernel_rfl) (runs_plain rfl) (Gives.loadBA hE 4 rfl rfl ty35) rfl hT ?_; clear hE a; intro a hE
         replace hS := hF; clear hF hT
         refine Rg.one (i := 7) true true rfl (by kernel_rfl) (by kernel_rfl) (by kernel_rfl) ?_
         obtain ⟨q151, hq152, hq115⟩ := bindS hq115
         have hc_ := Fleetpositions_ok hS h0 h140 hq152
         refine WL.fnq hE (hc_) (runs_plain rfl) bd57 rfl rfl rfl ?_
         clear hE hS hc_; rintro e w ⟨a153, c154, n155, cs156, rfl, h157, rfl, hS⟩; refine ⟨_, rfl, ?_⟩; clear a; intro a hE
         refine WL.nil ?_
         refine ⟨⟨fun _ => (hS.tail), fun _ => (hS.tail)⟩, ?_⟩
         refine Rg.takeP (i := 8) hE rfl (by kernel_rfl) (runs_plain rfl) (Gives.p hE rfl) rfl (tw_sel (fun _ => (hS.tail)) (fun _ => (hS.tail))) ?_; clear hE a; intro a hE
         refine Rg.takeP (i := 9) hE rfl (by kernel_rfl) (runs_plain rfl) (Gives.p hE rfl) rfl (tw_sel (fun _ => (hS.tail)) (fun _ => (hS.tail))) ?_; clear hE a; intro a hE
         refine Rg.takeP (i := 10) hE rfl (by kernel_rfl) (runs_plain rfl) (Gives.p hE rfl) rfl (tw_sel (fun _ => (hS.tail)) (fun _ => (hS.tail))) ?_; clear hE a; intro a hE
         refine Rg.takeP (i := 11) hE rfl (by kernel_rfl) (runs_plain rfl) (Gives.p hE rfl) rfl (tw_sel (fun _ => (hS.tail)) (fun _ => (hS.tail))) ?_; clear hE a; intro a hE
         refine Rg.takeP (i := 12) hE rfl (by kernel_rfl) (runs_plain rfl) (Gives.p hE rfl) rfl (tw_sel (fun _ => (hS.tail)) (fun _ => (hS.tail))) ?_; clear hE a; intro a hE
         refine Rg.done (by kernel_rfl) ?_
         subst hK141
         refine W.region ?_
         refine WL.vS hS hE (runs_plain rfl) (Gives.p hE rfl) rfl ?_; clear hE a; intro a hE
         refine WL.vS hS hE (runs_plain rfl) (Gives.p hE rfl) rfl ?_; clear hE a; intro a hE
         have hF := hS.fixD RI.mono 0 rfl h157 rfl; clear hS; obtain ⟨s159, hle160, hS, h161⟩ := hF
         replace h0 := Sl.mono RFleetTask.mono hle160 h0
         replace h2 := Sl.mono RFleetSet.mono hle160 h2
         replace h100 := Sl.mono (RL.mono RI.mono) hle160 h100
         replace h140 := Sl.mono RI.mono hle160 h140
         replace h129 := Ev.mono (RL.mono RI.mono) hle160 h129
         replace h83 := Ev.mono RI.mono hle160 h83
         replace h96 := Ev.mono (RL.mono RI.mono) hle160 h96
         refine WL.lit hE hS (e := 44) (es := 1) (vs := [(0, .slice a153 q151.1.length c154)]) (cs := [.slice a153 q151.1.length c154]) (runs_plain rfl) rfl (by kernel_rfl) rfl ?_; clear hE hS a w; intro b162 a w hE hS
         obtain ⟨x163, hx164, hq115⟩ := bindS hq115
         refine WL.appD hE hS 0 (m := 1) (runs_plain rfl) rfl rfl rfl ap25 rfl h129 rfl (xs := [q151.1]) (Ev.cons (c1 := [.slice a153 q151.1.length c154]) ⟨_, _, rfl, h161⟩ rfl (Ev.nil)) rfl rfl hx164 rfl ?_; clear hE hS a w; intro a165 c166 cs167 a w h168 hE hS
         refine WL.vS hS hE (runs_plain rfl) (Gives.p hE rfl) rfl ?_; clear hE a; intro a hE
         refine WL.nil ?_
         refine W.region ?_
         refine WL.vS hS hE (runs_plain rfl) (Gives.inc hE rfl (by have := h100.small; omega)) rfl ?_; clear hE a; intro a hE
         refine WL.vS hS hE (runs_plain rfl) (Gives.p hE rfl) rfl ?_; clear hE a; intro a hE
         refine WL.nil ?_
         subst hK133
         exact ⟨rest119.length, Nat.lt_succ_self _, rest119, k117 + 1, x163, a165, c166, x163.length, cs167, s159, rfl, hd120, (Sg.Le.trans hle125 hle160), hq115, h168, (rfl), hE.pick _ ⟨rfl, rfl, rfl, rfl, rfl, rfl, rfl, rfl, trivial⟩, hS⟩
       ·clear hE hS a w; rintro a w ⟨q126, a127, c128, n130, cs131, s124, hle125, rfl, h129, rfl, hE, hS⟩
        replace h0 := Sl.mono RFleetTask.mono hle125 h0
        replace h2 := Sl.mono RFleetSet.mono hle125 h2
        replace h100 := Sl.mono (RL.mono RI.mono) hle125 h100
        replace h83 := Ev.mono RI.mono hle125 h83
        replace h96 := Ev.mono (RL.mono RI.mono) hle125 h96
        refine W.seq (W.region ?_)
        refine WL.vS hS hE (runs_plain rfl) (Gives.p hE rfl) rfl ?_; clear hE a; intro a hE
        refine WL.vS hS hE (runs_plain rfl) (Gives.nilOk hE rfl) rfl ?_; clear hE a; intro a hE
        refine WL.vS hS hE (runs_plain rfl) (Gives.fld hE rfl fl93_6) rfl ?_; clear hE a; intro a hE
        refine WL.vS hS hE (runs_plain rfl) (Gives.loadB hE 1 rfl rfl rfl ty25) rfl ?_; clear hE a; intro a hE
        refine WL.vS hS hE (runs_plain rfl) (Gives.p hE rfl) rfl ?_; clear hE a; intro a hE
        refine WL.vS hS hE (runs_plain rfl) (Gives.p hE rfl) rfl ?_; clear hE a; intro a hE
        refine WL.vS hS hE (runs_plain rfl) (Gives.p hE rfl) rfl ?_; clear hE a; intro a hE
        refine WL.vS hS hE (runs_plain rfl) (Gives.p hE rfl) rfl ?_; clear hE a; intro a hE
        refine WL.nil ?_
        refine W.ret ?_
        refine finG (fn := Try.f18) (rs := [.tmp 8, .tmp 9, .tmp 10]) (vs := [_, _, _]) hE rfl ⟨rfl, rfl, rfl, trivial⟩ ?_
        obtain rfl := Option.some.inj hr
        replace hS := hS.dropAt 1
        replace hS := hS.dropAt 1
        replace hS := hS.dropAt 1
        replace hS := hS.dropAt 1
        exact ⟨a98, c99, a127, c128, q126.length, cs131, s124, rfl, (Sg.Le.trans hle103 hle125), h100, h129, rfl, hS⟩
set_option maxHeartbeats 8000000 in
theorem FleetGivernote_c_ok {fu : Nat}  {w : World} {s : Sg} {R : List HP} {pb0 : Nat} {y0 : FleetGiver} {a_y0_0 : Option Addr} {c_y0_0 : Nat} {a_y0_2 : Option Addr} {c_y0_2 : Nat} {a_v0 : Option Addr} {c_v0 n_v0 : Nat} {cs_v0 : List Value} {a_v1 : Option Addr} {c_v1 n_v1 : Nat} {cs_v1 : List Value} {a_y0_8 : Option Addr} {c_y0_8 : Nat} (hS : St w s (pt pb0 (.cells #[.slice a_y0_0 y0.tasks.length c_y0_0, .int .i64 y0.turn, .slice a_y0_2 y0.sets.length c_y0_2, .int .i64 y0.shop.Place, .int .i64 y0.shop.Long, .int .i64 y0.shop.Limit, .slice a_v0 n_v0 c_v0, .slice a_v1 n_v1 c_v1, .slice a_y0_8 y0.best.length c_y0_8, .int .i64 y0.least] 93 (0, 0)) :: vecC 3 1 a_v0 c_v0 n_v0 cs_v0 :: vecC 44 1 a_v1 c_v1 n_v1 cs_v1 :: R)) (h_y0_0 : Sl 6 RFleetTask s a_y0_0 c_y0_0 y0.tasks) (h_y0_2 : Sl 2 RFleetSet s a_y0_2 c_y0_2 y0.sets) (h_v0 : Ev 1 (RI .i64) s cs_v0 y0.order) (hn_v0 : y0.order.length = n_v0) (h_v1 : Ev 1 (RL 1 (RI .i64)) s cs_v1 y0.turns) (hn_v1 : y0.turns.length = n_v1) (h_y0_8 : Sl 1 (RL 1 (RI .i64)) s a_y0_8 c_y0_8 y0.best) (hz_y0_8 : y0.best = [] → a_y0_8 = none) {r : (List (List Int)) × Int} (hr : FleetGivernote_c fu y0 = some r) :
  Calls Try.prog 106 [.pointer (some ⟨pb0, 0, none⟩)].toArray w (fun e w => ∃ (a58 : Option Addr) (c59 : Nat) (t : Sg), e = .returned (.tuple #[]) ∧ s.Le t ∧ Sl 1 (RL 1 (RI .i64)) t a58 c59 r.1 ∧ St w t (pt pb0 (.cells #[.slice a_y0_0 y0.tasks.length c_y0_0, .int .i64 y0.turn, .slice a_y0_2 y0.sets.length c_y0_2, .int .i64 y0.shop.Place, .int .i64 y0.shop.Long, .int .i64 y0.shop.Limit, .slice a_v0 n_v0 c_v0, .slice a_v1 n_v1 c_v1, .slice a58 r.1.length c59, .int .i64 r.2] 93 (0, 0)) :: vecC 3 1 a_v0 c_v0 n_v0 cs_v0 :: vecC 44 1 a_v1 c_v1 n_v1 cs_v1 :: R)) := by
 refine enter Try.func106 rfl rfl rfl fun a hE => ?_
 rw [FleetGivernote_c] at hr
 subst hn_v0
 subst hn_v1
 refine W.seq (W.region ?_)
 refine WL.vS hS hE (runs_plain rfl) (Gives.p hE rfl) rfl ?_; clear hE a; intro a hE
 refine WL.nil ?_
 refine W.seq ?_
 refine W.seq (W.region ?_)
 refine WL.vS hS hE (runs_plain rfl) (Gives.p hE rfl) rfl ?_; clear hE a; intro a hE
 refine WL.vS hS hE (runs_plain rfl) (Gives.nilOk hE rfl) rfl ?_; clear hE a; intro a hE
 refine WL.vS hS hE (runs_plain rfl) (Gives.fld hE rfl fl93_5) rfl ?_; clear hE a; intro a hE
 refine WL.vS hS hE (runs_plain rfl) (Gives.loadB hE 0 rfl rfl rfl ty25) rfl ?_; clear hE a; intro a hE
 refine WL.vS hS hE (runs_plain rfl) (Gives.len hE rfl sl25) rfl ?_; clear hE a; intro a hE
 refine WL.vS hS hE (runs_plain rfl) (Gives.p hE rfl) rfl ?_; clear hE a; intro a hE
 refine WL.nil ?_
 have hb74 : y0.turns.length ≤ 9223372036854775807 := by have := hS.vecCap 2 rfl; unfold maxLen at this; omega
 obtain ⟨q64, hq63, hr⟩ := bindS hr
 refine W.cut (fun a w => ∃ (q75 : Int), (.next q75) = q64 ∧ Rep a 69 [(0, .pointer (some ⟨pb0, 0, none⟩)), (2, .int .i64 q75)] ∧ St w s (pt pb0 (.cells #[.slice a_y0_0 y0.tasks.length c_y0_0, .int .i64 y0.turn, .slice a_y0_2 y0.sets.length c_y0_2, .int .i64 y0.shop.Place, .int .i64 y0.shop.Long, .int .i64 y0.shop.Limit, .slice a_v0 y0.order.length c_v0, .slice a_v1 y0.turns.length c_v1, .slice a_y0_8 y0.best.length c_y0_8, .int .i64 y0.least] 93 (0, 0)) :: vecC 3 1 a_v0 c_v0 y0.order.length cs_v0 :: vecC 44 1 a_v1 c_v1 y0.turns.length cs_v1 :: R)) ?_ ?_
 ·refine W.block ?_
  refine W.loop (fun m a w => ∃ (rest67 : Nat) (k65 : Nat), ∃ (q75 : Int), rest67 = m ∧ k65 + rest67 = y0.turns.length ∧ FleetGivernote_v1.loop1 y0 fu rest67 k65 q75 = some q64 ∧ Rep a 69 [(0, .pointer (some ⟨pb0, 0, none⟩)), (2, .int .i64 q75), (10, .slice a_v1 y0.turns.length c_v1), (11, .int .i64 ((y0.turns.length : Nat) : Int)), (12, .int .i64 ((k65 : Nat) : Int))] ∧ St w s (pt pb0 (.cells #[.slice a_y0_0 y0.tasks.length c_y0_0, .int .i64 y0.turn, .slice a_y0_2 y0.sets.length c_y0_2, .int .i64 y0.shop.Place, .int .i64 y0.shop.Long, .int .i64 y0.shop.Limit, .slice a_v0 y0.order.length c_v0, .slice a_v1 y0.turns.length c_v1, .slice a_y0_8 y0.best.length c_y0_8, .int .i64 y0.least] 93 (0, 0)) :: vecC 3 1 a_v0 c_v0 y0.order.length cs_v0 :: vecC 44 1 a_v1 c_v1 y0.turns.length cs_v1 :: R)) (m := y0.turns.length) ⟨y0.turns.length, 0, 0, rfl, by omega, hq63, hE.pick _ ⟨rfl, rfl, rfl, rfl, rfl, trivial⟩, hS⟩ ?_
  clear hE hS a w hq63; rintro m71 a w ⟨rest67, k65, q75, rfl, hd68, hq63, hE, hS⟩
  refine W.gen fun K76 hK76 => ?_
  rcases rest67 with _ | rest67
  ·skip
   refine W.seq (W.region ?_)
   refine WL.vS hS hE (runs_plain rfl) (Gives.p hE rfl) rfl ?_; clear hE a; intro a hE
   refine WL.nil ?_
   refine W.seq ?_
   refine W.condF hE rfl (decide_eq_false (by omega)) ?_
   subst hK76
   refine W.exit rfl ?_
   exact ⟨q75, Option.some.inj hq63, hE.pick _ ⟨rfl, rfl, trivial⟩, hS⟩
  ·have hlt69 : k65 < y0.turns.length := by omega
   rw [FleetGivernote_v1.loop1] at hq63
   refine W.seq (W.region ?_)
   refine WL.vS hS hE (runs_plain rfl) (Gives.p hE rfl) rfl ?_; clear hE a; intro a hE
   refine WL.nil ?_
   refine W.seq ?_
   refine W.condT hE rfl (decide_eq_true (by omega)) ?_
   refine W.skip ?_
   refine W.seq ?_
   refine W.block ?_
   refine W.seq (W.region ?_)
   refine WL.vS hS hE (runs_plain rfl) (Gives.p hE rfl) rfl ?_; clear hE a; intro a hE
   obtain ⟨x77, hx78, hq63⟩ := bindS hq63
   obtain ⟨hi79, hlt80, hy81⟩ := gx_some hx78
   obtain ⟨vs82, hl83, hR84, hd85, hget86⟩ := h_v1.at hy81
   obtain ⟨a87, c88, rfl, h89⟩ := hR84
   refine WL.vS hS hE (runs_plain rfl) (Gives.idx hE ((((k65 : Nat) : Int)).toNat) rfl rfl sl25 hi79 (by omega) (hS.vecAok 2 rfl (by omega : (((k65 : Nat) : Int)).toNat < y0.turns.length))) rfl ?_; clear hE a; intro a hE
   refine WL.vS hS hE (runs_plain rfl) (Gives.load1 hE rfl (fun w h => St.vecSees h 2 rfl ((((k65 : Nat) : Int)).toNat * 1) _ hget86) ty44) rfl ?_; clear hE a; intro a hE
   refine WL.vS hS hE (runs_plain rfl) (Gives.p hE rfl) rfl ?_; clear hE a; intro a hE
   refine WL.vS hS hE (runs_plain rfl) (Gives.p hE rfl) rfl ?_; clear hE a; intro a hE
   refine WL.nil ?_
   refine W.seq ?_
   refine W.gen fun K90 hK90 => ?_
   refine W.regionE (sel (fun w => St w s (pt pb0 (.cells #[.slice a_y0_0 y0.tasks.length c_y0_0, .int .i64 y0.turn, .slice a_y0_2 y0.sets.length c_y0_2, .int .i64 y0.shop.Place, .int .i64 y0.shop.Long, .int .i64 y0.shop.Limit, .slice a_v0 y0.order.length c_v0, .slice a_v1 y0.turns.length c_v1, .slice a_y0_8 y0.best.length c_y0_8, .int .i64 y0.least] 93 (0, 0)) :: vecC 3 1 a_v0 c_v0 y0.order.length cs_v0 :: vecC 44 1 a_v1 c_v1 y0.turns.length cs_v1 :: R)) (fun w => St w s (pt pb0 (.cells #[.slice a_y0_0 y0.tasks.length c_y0_0, .int .i64 y0.turn, .slice a_y0_2 y0.sets.length c_y0_2, .int .i64 y0.shop.Place, .int .i64 y0.shop.Long, .int .i64 y0.shop.Limit, .slice a_v0 y0.order.length c_v0, .slice a_v1 y0.turns.length c_v1, .slice a_y0_8 y0.best.length c_y0_8, .int .i64 y0.least] 93 (0, 0)) :: vecC 3 1 a_v0 c_v0 y0.order.length cs_v0 :: vecC 44 1 a_v1 c_v1 y0.turns.length cs_v1 :: R))) (fun b i => cond b ([0, 1, 2, 3, 4, 5, 6, 7, 8, 9, 10, 11, 12, 13, 14, 15, 16, 17, 18, 19, 20, 21].contains i) ([0, 1, 2, 3, 4, 5, 6, 7, 8, 9, 10, 11, 12, 13, 14, 15, 16, 17, 18, 19, 20, 21].contains i)) mixed ?_
   replace hS := hS.drew
   refine Rg.takeP (i := 0) hE rfl (by kernel_rfl) (runs_plain rfl) (Gives.p hE rfl) rfl (tw_sel (fun _ => hS) (fun _ => hS)) ?_; clear hE a; intro a hE
   have hT := tw_sel (A := fun w => St w s _) (B := fun w => St w s _) (w := _) (x := true) (y := true) (fun _ => hS) (fun _ => hS)
   have hF := hS; replace hS := hS
   refine Rg.take (i := 1) true rfl hE rfl (by kernel_rfl) (runs_plain rfl) (Gives.nilOk hE rfl) rfl hT ?_; clear hE a; intro a hE
   replace hS := hF; clear hF hT
   refine Rg.takeP (i := 2) hE rfl (by kernel_rfl) (runs_plain rfl) (Gives.fld hE rfl fl93_0) rfl (tw_sel (fun _ => hS) (fun _ => hS)) ?_; clear hE a; intro a hE
   have hT := tw_sel (A := fun w => St w s _) (B := fun w => St w s _) (w := _) (x := true) (y := true) (fun _ => hS) (fun _ => hS)
   have hF := hS; replace hS := hS
   refine Rg.take (i := 3) true rfl hE rfl (by kernel_rfl) (runs_plain rfl) (Gives.loadB hE 0 rfl rfl rfl ty32) rfl hT ?_; clear hE a; intro a hE
   replace hS := hF; clear hF hT
   refine Rg.takeP (i := 4) hE rfl (by kernel_rfl) (runs_plain rfl) (Gives.p hE rfl) rfl (tw_sel (fun _ => hS) (fun _ => hS)) ?_; clear hE a; intro a hE
   refine Rg.takeP (i := 5) hE rfl (by kernel_rfl) (runs_plain rfl) (Gives.p hE rfl) rfl (tw_sel (fun _ => hS) (fun _ => hS)) ?_; clear hE a; intro a hE
   have hT := tw_sel (A := fun w => St w s _) (B := fun w => St w s _) (w := _) (x := true) (y := true) (fun _ => hS) (fun _ => hS)
   have hF := hS; replace hS := hS
   refine Rg.take (i := 6) true rfl hE rfl (by kernel_rfl) (runs_plain rfl) (Gives.nilOk hE rfl) rfl hT ?_; clear hE a; intro a hE
   replace hS := hF; clear hF hT
   refine Rg.takeP (i := 7) hE rfl (by kernel_rfl) (runs_plain rfl) (Gives.fld hE rfl fl93_2) rfl (tw_sel (fun _ => hS) (fun _ => hS)) ?_; clear hE a; intro a hE
   have hT := tw_sel (A := fun w => St w s _) (B := fun w => St w s _) (w := _) (x := true) (y := true) (fun _ => hS) (fun _ => hS)
   have hF := hS; replace hS := hS
   refine Rg.take (i := 8) true rfl hE rfl (by kernel_rfl) (runs_plain rfl) (Gives.loadB hE 0 rfl rfl rfl ty33) rfl hT ?_; clear hE a; intro a hE
   replace hS := hF; clear hF hT
   refine Rg.takeP (i := 9) hE rfl (by kernel_rfl) (runs_plain rfl) (Gives.p hE rfl) rfl (tw_sel (fun _ => hS) (fun _ => hS)) ?_; clear hE a; intro a hE
   obtain ⟨x91, hx92, hq63⟩ := bindS hq63
   obtain ⟨hi93, hlt94, hy95⟩ := gx_some hx92
   obtain ⟨cs96, hl97, hR98, hat99⟩ := h_y0_2.at hy95
   subst hR98
   refine Rg.takeP (i := 10) hE rfl (by kernel_rfl) (runs_plain rfl) (Gives.idx hE (((k65 : Nat) : Int)).toNat rfl rfl sl33 hi93 hlt94 (h_y0_2.aok hlt94)) rfl (tw_sel (fun _ => hS) (fun _ => hS)) ?_; clear hE a; intro a hE
   have hT := tw_sel (A := fun w => St w s _) (B := fun w => St w s _) (w := _) (x := true) (y := true) (fun _ => hS) (fun _ => hS)
   have hF := hS; replace hS := hS
   refine Rg.take (i := 11) true rfl hE rfl (by kernel_rfl) (runs_plain rfl) (Gives.loadA hE rfl (fun w h => hat99 w _ h) ty84) rfl hT ?_; clear hE a; intro a hE
   replace hS := hF; clear hF hT
   refine Rg.takeP (i := 12) hE rfl (by kernel_rfl) (runs_plain rfl) (Gives.p hE rfl) rfl (tw_sel (fun _ => hS) (fun _ => hS)) ?_; clear hE a; intro a hE
   have hT := tw_sel (A := fun w => St w s _) (B := fun w => St w s _) (w := _) (x := true) (y := true) (fun _ => hS) (fun _ => hS)
   have hF := hS; replace hS := hS
   refine Rg.take (i := 13) true rfl hE rfl (by kernel_rfl) (runs_plain rfl) (Gives.nilOk hE rfl) rfl hT ?_; clear hE a; intro a hE
   replace hS := hF; clear hF hT
   refine Rg.takeP (i := 14) hE rfl (by kernel_rfl) (runs_plain rfl) (Gives.fld hE rfl fl93_3) rfl (tw_sel (fun _ => hS) (fun _ => hS)) ?_; clear hE a; intro a hE
   have hT := tw_sel (A := fun w => St w s _) (B := fun w => St w s _) (w := _) (x := true) (y := true) (fun _ => hS) (fun _ => hS)
   have hF := hS; replace hS := hS
   refine Rg.take (i := 15) true rfl hE rfl (by kernel_rfl) (runs_plain rfl) (Gives.loadA (cs := [.int .i64 y0.shop.Place, .int .i64 y0.shop.Long, .int .i64 y0.shop.Limit]) hE rfl (fun w h => (St.seesAt h 0 rfl).part 3 3) ty35) rfl hT ?_; clear hE a; intro a hE
   replace hS := hF; clear hF hT
   refine Rg.one (i := 16) true true rfl (by kernel_rfl) (by kernel_rfl) (by kernel_rfl) ?_
   obtain ⟨q100, hq101, hq63⟩ := bindS hq63
   have hc_ := Fleetpositions_ok hS h_y0_0 h89 hq101
   refine WL.fnq hE (hc_) (runs_plain rfl) bd57 rfl rfl rfl ?_
   clear hE hS hc_; rintro e w ⟨a102, c103, n104, cs105, rfl, h106, rfl, hS⟩; refine ⟨_, rfl, ?_⟩; clear a; intro a hE
   refine WL.nil ?_
   refine ⟨⟨fun _ => (hS.tail), fun _ => (hS.tail)⟩, ?_⟩
   refine Rg.takeP (i := 17) hE rfl (by kernel_rfl) (runs_plain rfl) (Gives.p hE rfl) rfl (tw_sel (fun _ => (hS.tail)) (fun _ => (hS.tail))) ?_; clear hE a; intro a hE
   refine Rg.takeP (i := 18) hE rfl (by kernel_rfl) (runs_plain rfl) (Gives.p hE rfl) rfl (tw_sel (fun _ => (hS.tail)) (fun _ => (hS.tail))) ?_; clear hE a; intro a hE
   refine Rg.takeP (i := 19) hE rfl (by kernel_rfl) (runs_plain rfl) (Gives.p hE rfl) rfl (tw_sel (fun _ => (hS.tail)) (fun _ => (hS.tail))) ?_; clear hE a; intro a hE
   refine Rg.takeP (i := 20) hE rfl (by kernel_rfl) (runs_plain rfl) (Gives.p hE rfl) rfl (tw_sel (fun _ => (hS.tail)) (fun _ => (hS.tail))) ?_; clear hE a; intro a hE
   refine Rg.takeP (i := 21) hE rfl (by kernel_rfl) (runs_plain rfl) (Gives.p hE rfl) rfl (tw_sel (fun _ => (hS.tail)) (fun _ => (hS.tail))) ?_; clear hE a; intro a hE
   refine Rg.done (by kernel_rfl) ?_
   subst hK90
   refine W.seq ?_
   refine W.seq (W.region ?_)
   refine WL.vS hS hE (runs_plain rfl) (Gives.p hE rfl) rfl ?_; clear hE a; intro a hE
   refine WL.vS hS hE (runs_plain rfl) (Gives.p hE rfl) rfl ?_; clear hE a; intro a hE
   refine WL.nil ?_
   refine W.cond hE rfl (fun hc108 => ?_) (fun hc108 => ?_)
   ·replace hq63 := iteT hc108 hq63
    refine W.ret ?_
    subst hK76
    rw [← Option.some.inj hq63] at hr
    dsimp only at hr
    refine finG (fn := Try.f106) (rs := []) (vs := []) hE rfl trivial ?_
    obtain rfl := Option.some.inj hr
    replace hS := hS.tail
    exact ⟨a_y0_8, c_y0_8, s, rfl, (Sg.Le.refl _), h_y0_8, hS⟩
   ·replace hq63 := iteF hc108 hq63
    refine W.skip ?_
    refine W.region ?_
    refine WL.vS hS hE (runs_plain rfl) (Gives.p hE rfl) rfl ?_; clear hE a; intro a hE
    refine WL.vS hS hE (runs_plain rfl) (Gives.p hE rfl) rfl ?_; clear hE a; intro a hE
    refine WL.vS hS hE (runs_plain rfl) (Gives.len hE rfl sl44) rfl ?_; clear hE a; intro a hE
    refine WL.vS hS hE (runs_plain rfl) (Gives.p hE rfl) rfl ?_; clear hE a; intro a hE
    refine WL.vS hS hE (runs_plain rfl) (Gives.p hE rfl) rfl ?_; clear hE a; intro a hE
    refine WL.nil ?_
    refine W.region ?_
    refine WL.vS hS hE (runs_plain rfl) (Gives.inc hE rfl (by omega)) rfl ?_; clear hE a; intro a hE
    refine WL.vS hS hE (runs_plain rfl) (Gives.p hE rfl) rfl ?_; clear hE a; intro a hE
    refine WL.nil ?_
    replace hS := hS.tail
    subst hK76
    exact ⟨rest67, Nat.lt_succ_self _, rest67, k65 + 1, (w64 (q75 + ((q100.1.length : Nat) : Int))), rfl, (by omega), hq63, hE.pick _ ⟨rfl, rfl, rfl, rfl, rfl, trivial⟩, hS⟩
 ·clear hE hS a w; rintro a w ⟨q75, rfl, hE, hS⟩
  dsimp only at hr
  refine W.seq ?_
  obtain ⟨q110, hq109, hr⟩ := bndS hr
  refine W.cut (fun a w => ∃ (q113 : Bool), q113 = q110 ∧ Rep a 69 [(0, .pointer (some ⟨pb0, 0, none⟩)), (2, .int .i64 q75), (56, .bool q113)] ∧ St w s (pt pb0 (.cells #[.slice a_y0_0 y0.tasks.length c_y0_0, .int .i64 y0.turn, .slice a_y0_2 y0.sets.length c_y0_2, .int .i64 y0.shop.Place, .int .i64 y0.shop.Long, .int .i64 y0.shop.Limit, .slice a_v0 y0.order.length c_v0, .slice a_v1 y0.turns.length c_v1, .slice a_y0_8 y0.best.length c_y0_8, .int .i64 y0.least] 93 (0, 0)) :: vecC 3 1 a_v0 c_v0 y0.order.length cs_v0 :: vecC 44 1 a_v1 c_v1 y0.turns.length cs_v1 :: R)) ?_ ?_
  ·refine W.gen fun K114 hK114 => ?_
   refine W.region ?_
   refine WL.vS hS hE (runs_plain rfl) (Gives.p hE rfl) rfl ?_; clear hE a; intro a hE
   refine WL.vS hS hE (runs_plain rfl) (Gives.nilOk hE rfl) rfl ?_; clear hE a; intro a hE
   refine WL.vS hS hE (runs_plain rfl) (Gives.fld hE rfl fl93_6) rfl ?_; clear hE a; intro a hE
   refine WL.vS hS hE (runs_plain rfl) (Gives.loadB hE 0 rfl rfl rfl ty25) rfl ?_; clear hE a; intro a hE
   refine WL.vS hS hE (runs_plain rfl) (Gives.isNilZ hE (isNone_eq h_y0_8 hz_y0_8) rfl rfl isl25) rfl ?_; clear hE a; intro a hE
   refine WL.vS hS hE (runs_plain rfl) (Gives.p hE rfl) rfl ?_; clear hE a; intro a hE
   rcases Bool.eq_false_or_eq_true y0.best.isEmpty with hg115 | hg115
   ·replace hq109 := iteT hg115 hq109
    refine WL.no hE (runs_not hE rfl rfl rfl (by rw [hg115]; decide)) rfl ?_; clear hE a; intro a hE
    refine WL.no hE (runs_not hE rfl rfl rfl (by rw [hg115]; decide)) rfl ?_; clear hE a; intro a hE
    refine WL.no hE (runs_not hE rfl rfl rfl (by rw [hg115]; decide)) rfl ?_; clear hE a; intro a hE
    refine WL.no hE (runs_not hE rfl rfl rfl (by rw [hg115]; decide)) rfl ?_; clear hE a; intro a hE
    refine WL.no hE (runs_not hE rfl rfl rfl (by rw [hg115]; decide)) rfl ?_; clear hE a; intro a hE
    refine WL.no hE (runs_not hE rfl rfl rfl (by rw [hg115]; decide)) rfl ?_; clear hE a; intro a hE
    refine WL.vS hS hE (runs_plain rfl) (Gives.pickT hE rfl hg115 rfl) rfl ?_; clear hE a; intro a hE
    refine WL.nil ?_
    subst hK114
    exact ⟨true, hq109, hE.pick _ ⟨rfl, rfl, rfl, trivial⟩, hS⟩
   ·replace hq109 := iteF hg115 hq109
    refine WL.vS hS hE (runs_if hE rfl rfl rfl hg115) (Gives.p hE rfl) rfl ?_; clear hE a; intro a hE
    refine WL.vS hS hE (runs_if hE rfl rfl rfl hg115) (Gives.p hE rfl) rfl ?_; clear hE a; intro a hE
    refine WL.vS hS hE (runs_if hE rfl rfl rfl hg115) (Gives.nilOk hE rfl) rfl ?_; clear hE a; intro a hE
    refine WL.vS hS hE (runs_if hE rfl rfl rfl hg115) (Gives.fld hE rfl fl93_7) rfl ?_; clear hE a; intro a hE
    refine WL.vS hS hE (runs_if hE rfl rfl rfl hg115) (Gives.loadB hE 0 rfl rfl rfl ty3) rfl ?_; clear hE a; intro a hE
    refine WL.vS hS hE (runs_if hE rfl rfl rfl hg115) (Gives.p hE rfl) rfl ?_; clear hE a; intro a hE
    refine WL.vS hS hE (runs_plain rfl) (Gives.pickF hE rfl hg115 rfl) rfl ?_; clear hE a; intro a hE
    refine WL.nil ?_
    subst hK114
    exact ⟨decide (q75 < y0.least), hq109, hE.pick _ ⟨rfl, rfl, rfl, trivial⟩, hS⟩
  ·clear hE hS a w; rintro a w ⟨q113, rfl, hE, hS⟩
   obtain ⟨q117, hq116, hr⟩ := bindS hr
   refine W.cut (fun a w => ∃ (q120 : List (List Int)), ∃ (q125 : Int), ∃ (a121 : Option Addr), ∃ (c122 : Nat), ∃ (s118 : Sg), s.Le s118 ∧ (q120, q125) = q117 ∧ Sl 1 (RL 1 (RI .i64)) s118 a121 c122 q120 ∧ Rep a 69 [] ∧ St w s118 (pt pb0 (.cells #[.slice a_y0_0 y0.tasks.length c_y0_0, .int .i64 y0.turn, .slice a_y0_2 y0.sets.length c_y0_2, .int .i64 y0.shop.Place, .int .i64 y0.shop.Long, .int .i64 y0.shop.Limit, .slice a_v0 y0.order.length c_v0, .slice a_v1 y0.turns.length c_v1, .slice a121 q120.length c122, .int .i64 q125] 93 (0, 0)) :: vecC 3 1 a_v0 c_v0 y0.order.length cs_v0 :: vecC 44 1 a_v1 c_v1 y0.turns.length cs_v1 :: R)) ?_ ?_
   ·refine W.gen fun K126 hK126 => ?_
    refine W.cond hE rfl (fun hc127 => ?_) (fun hc127 => ?_)
    ·replace hq116 := iteT hc127 hq116
     refine W.region ?_
     refine WL.vS hS hE (runs_plain rfl) (Gives.p hE rfl) rfl ?_; clear hE a; intro a hE
     refine WL.vS hS hE (runs_plain rfl) (Gives.p hE rfl) rfl ?_; clear hE a; intro a hE
     refine WL.vS hS hE (runs_plain rfl) (Gives.p hE rfl) rfl ?_; clear hE a; intro a hE
     refine WL.vS hS hE (runs_plain rfl) (Gives.nilOk hE rfl) rfl ?_; clear hE a; intro a hE
     refine WL.vS hS hE (runs_plain rfl) (Gives.fld hE rfl fl93_5) rfl ?_; clear hE a; intro a hE
     refine WL.vS hS hE (runs_plain rfl) (Gives.loadB hE 0 rfl rfl rfl ty25) rfl ?_; clear hE a; intro a hE
     obtain ⟨q128, hq129, hq116⟩ := bindS hq116
     replace hS := hS.front 2 rfl
     have hc_ := SlicesCloneLLint_v1_ok hS h_v1 (rfl) hq129
     refine WL.fnq hE (hc_) (runs_plain rfl) bd40 rfl rfl rfl ?_
     clear hE hS hc_; rintro e w ⟨a130, c131, n132, cs133, rfl, h134, rfl, hS⟩; refine ⟨_, rfl, ?_⟩; clear a; intro a hE
     refine WL.vS hS hE (runs_plain rfl) (Gives.p hE rfl) rfl ?_; clear hE a; intro a hE
     refine WL.vS hS hE (runs_plain rfl) (Gives.nilOk hE rfl) rfl ?_; clear hE a; intro a hE
     refine WL.vS hS hE (runs_plain rfl) (Gives.fld hE rfl fl93_6) rfl ?_; clear hE a; intro a hE
     have hF := hS.fixD (RL.mono RI.mono) 0 rfl h134 rfl; clear hS; obtain ⟨s136, hle137, hS, h138⟩ := hF
     replace h_v1 := Ev.mono (RL.mono RI.mono) hle137 h_v1
     replace h_y0_0 := Sl.mono RFleetTask.mono hle137 h_y0_0
     replace h_y0_2 := Sl.mono RFleetSet.mono hle137 h_y0_2
     replace h_y0_8 := Sl.mono (RL.mono RI.mono) hle137 h_y0_8
     replace h_v0 := Ev.mono RI.mono hle137 h_v0
     refine WL.storeI hE hS 1 rfl [.slice a_y0_0 y0.tasks.length c_y0_0, .int .i64 y0.turn, .slice a_y0_2 y0.sets.length c_y0_2, .int .i64 y0.shop.Place, .int .i64 y0.shop.Long, .int .i64 y0.shop.Limit, .slice a_v0 y0.order.length c_v0, .slice a_v1 y0.turns.length c_v1, .slice a130 q128.length c131, .int .i64 y0.least] (runs_plain rfl) rfl rfl rfl ty25 rfl rfl rfl rfl ?_; clear hE hS a w; intro a w hE hS
     refine WL.vS hS hE (runs_plain rfl) (Gives.nilOk hE rfl) rfl ?_; clear hE a; intro a hE
     refine WL.vS hS hE (runs_plain rfl) (Gives.fld hE rfl fl93_7) rfl ?_; clear hE a; intro a hE
     refine WL.storeI hE hS 1 rfl [.slice a_y0_0 y0.tasks.length c_y0_0, .int .i64 y0.turn, .slice a_y0_2 y0.sets.length c_y0_2, .int .i64 y0.shop.Place, .int .i64 y0.shop.Long, .int .i64 y0.shop.Limit, .slice a_v0 y0.order.length c_v0, .slice a_v1 y0.turns.length c_v1, .slice a130 q128.length c131, .int .i64 q75] (runs_plain rfl) rfl rfl rfl ty3 rfl rfl rfl rfl ?_; clear hE hS a w; intro a w hE hS
     refine WL.nil ?_
     replace hS := hS.front 2 rfl
     replace hS := hS.front 2 rfl
     subst hK126
     exact ⟨q128, q75, a130, c131, s136, hle137, Option.some.inj hq116, h138, hE.pick _ trivial, hS⟩
    ·replace hq116 := iteF hc127 hq116
     refine W.skip ?_
     subst hK126
     exact ⟨y0.best, y0.least, a_y0_8, c_y0_8, s, (Sg.Le.refl _), Option.some.inj hq116, h_y0_8, hE.pick _ trivial, hS⟩
   ·clear hE hS a w; rintro a w ⟨q120, q125, a121, c122, s118, hle119, rfl, h123, hE, hS⟩
    dsimp only at hr
    replace h_y0_0 := Sl.mono RFleetTask.mono hle119 h_y0_0
    replace h_y0_2 := Sl.mono RFleetSet.mono hle119 h_y0_2
    replace h_y0_8 := Sl.mono (RL.mono RI.mono) hle119 h_y0_8
    replace h_v0 := Ev.mono RI.mono hle119 h_v0
    replace h_v1 := Ev.mono (RL.mono RI.mono) hle119 h_v1
    refine finG (fn := Try.f106) (rs := []) (vs := []) hE rfl trivial ?_
    obtain rfl := Option.some.inj hr
    exact ⟨a121, c122, s118, rfl, hle119, h123, hS⟩
set_option maxHeartbeats 8000000 in
theorem FleetGivergive_c_ok : ∀ {fu : Nat} {w : World} {s : Sg} {R : List HP} {pb0 : Nat} {x1 : Int} {x2 : Int} {x3 : Int} {y0 : FleetGiver} {a_y0_0 : Option Addr} {c_y0_0 : Nat} {a_y0_2 : Option Addr} {c_y0_2 : Nat} {a_v0 : Option Addr} {c_v0 n_v0 : Nat} {cs_v0 : List Value} {a_v1 : Option Addr} {c_v1 n_v1 : Nat} {cs_v1 : List Value} {a_y0_8 : Option Addr} {c_y0_8 : Nat} (_hS : St w s (pt pb0 (.cells #[.slice a_y0_0 y0.tasks.length c_y0_0, .int .i64 y0.turn, .slice a_y0_2 y0.sets.length c_y0_2, .int .i64 y0.shop.Place, .int .i64 y0.shop.Long, .int .i64 y0.shop.Limit, .slice a_v0 n_v0 c_v0, .slice a_v1 n_v1 c_v1, .slice a_y0_8 y0.best.length c_y0_8, .int .i64 y0.least] 93 (0, 0)) :: vecC 3 1 a_v0 c_v0 n_v0 cs_v0 :: vecC 44 1 a_v1 c_v1 n_v1 cs_v1 :: R)) (_h_y0_0 : Sl 6 RFleetTask s a_y0_0 c_y0_0 y0.tasks) (_h_y0_2 : Sl 2 RFleetSet s a_y0_2 c_y0_2 y0.sets) (_h_v0 : Ev 1 (RI .i64) s cs_v0 y0.order) (_hn_v0 : y0.order.length = n_v0) (_h_v1 : Ev 1 (RL 1 (RI .i64)) s cs_v1 y0.turns) (_hn_v1 : y0.turns.length = n_v1) (_h_y0_8 : Sl 1 (RL 1 (RI .i64)) s a_y0_8 c_y0_8 y0.best) (_hz_y0_8 : y0.best = [] → a_y0_8 = none) {r : (List (List Int)) × (List (List Int)) × Int} (_hr : FleetGivergive_c fu y0 = some r) (_hx : x1 = ((y0.order.length : Nat) : Int)),
  Calls Try.prog 63 [.pointer (some ⟨pb0, 0, none⟩), .int .i64 x1, .int .i64 x2, .int .i64 x3].toArray w (fun e w => ∃ (cs67 : List Value) (a70 : Option Addr) (c71 : Nat) (t : Sg), e = .returned (.tuple #[]) ∧ s.Le t ∧ Ev 1 (RL 1 (RI .i64)) t cs67 r.1 ∧ r.1.length = n_v1 ∧ Sl 1 (RL 1 (RI .i64)) t a70 c71 r.2.1 ∧ St w t (pt pb0 (.cells #[.slice a_y0_0 y0.tasks.length c_y0_0, .int .i64 y0.turn, .slice a_y0_2 y0.sets.length c_y0_2, .int .i64 y0.shop.Place, .int .i64 y0.shop.Long, .int .i64 y0.shop.Limit, .slice a_v0 n_v0 c_v0, .slice a_v1 n_v1 c_v1, .slice a70 r.2.1.length c71, .int .i64 r.2.2] 93 (0, 0)) :: vecC 3 1 a_v0 c_v0 n_v0 cs_v0 :: vecC 44 1 a_v1 c_v1 n_v1 cs67 :: R)) := by
  intro fu w s R pb0 x1 x2 x3 y0 a_y0_0 c_y0_0 a_y0_2 c_y0_2 a_v0 c_v0 n_v0 cs_v0 a_v1 c_v1 n_v1 cs_v1 a_y0_8 c_y0_8 hS h_y0_0 h_y0_2 h_v0 hn_v0 h_v1 hn_v1 h_y0_8 hz_y0_8 r hr hx
  rw [FleetGivergive_c] at hr
  refine enter Try.func63 rfl rfl rfl fun a hE => ?_
  subst hn_v0
  subst hn_v1
  refine W.seq ?_
  refine W.seq (W.region ?_)
  refine WL.vS hS hE (runs_plain rfl) (Gives.p hE rfl) rfl ?_; clear hE a; intro a hE
  refine WL.vS hS hE (runs_plain rfl) (Gives.p hE rfl) rfl ?_; clear hE a; intro a hE
  refine WL.vS hS hE (runs_plain rfl) (Gives.nilOk hE rfl) rfl ?_; clear hE a; intro a hE
  refine WL.vS hS hE (runs_plain rfl) (Gives.fld hE rfl fl93_4) rfl ?_; clear hE a; intro a hE
  refine WL.vS hS hE (runs_plain rfl) (Gives.loadB hE 0 rfl rfl rfl ty44) rfl ?_; clear hE a; intro a hE
  refine WL.vS hS hE (runs_plain rfl) (Gives.len hE rfl sl44) rfl ?_; clear hE a; intro a hE
  refine WL.vS hS hE (runs_plain rfl) (Gives.p hE rfl) rfl ?_; clear hE a; intro a hE
  refine WL.nil ?_
  refine W.cond hE rfl (fun hc75 => ?_) (fun hc75 => ?_)
  ·skip
   refine W.seq (W.region ?_)
   refine WL.vS hS hE (runs_plain rfl) (Gives.p hE rfl) rfl ?_; clear hE a; intro a hE
   obtain ⟨q76, hq77, hr⟩ := bindS hr
   have hc_ := FleetGivernote_c_ok (y0 := y0) hS h_y0_0 h_y0_2 h_v0 (rfl) h_v1 (rfl) h_y0_8 hz_y0_8 hq77
   refine WL.fnq hE (hc_) (runs_plain rfl) bd106 rfl rfl rfl ?_
   clear hE hS hc_; rintro e w ⟨a78, c79, s82, rfl, hle83, h80, hS⟩; refine ⟨_, rfl, ?_⟩; clear a; intro a hE
   replace h_y0_0 := Sl.mono RFleetTask.mono hle83 h_y0_0
   replace h_y0_2 := Sl.mono RFleetSet.mono hle83 h_y0_2
   replace h_y0_8 := Sl.mono (RL.mono RI.mono) hle83 h_y0_8
   replace h_v0 := Ev.mono RI.mono hle83 h_v0
   replace h_v1 := Ev.mono (RL.mono RI.mono) hle83 h_v1
   refine WL.nil ?_
   refine W.ret ?_
   refine finG (fn := Try.f63) (rs := []) (vs := []) hE rfl trivial ?_
   obtain rfl := Option.some.inj hr
   exact ⟨cs_v1, a78, c79, s82, rfl, hle83, h_v1, (rfl), h80, hS⟩
  ·exfalso
   rw [hx] at hc75
   simp at hc75

set_option maxHeartbeats 8000000 in
theorem FleetAssign_c_ok {fu : Nat}  {w : World} {s : Sg} {R : List HP} {x0 : List FleetTask} {a0 : Option Addr} {c0 : Nat} {x1 : Int} {x2 : List FleetSet} {a2 : Option Addr} {c2 : Nat} {x3 : FleetShop} (hS : St w s (R)) (h0 : Sl 6 RFleetTask s a0 c0 x0) (h2 : Sl 2 RFleetSet s a2 c2 x2) {r : (List (List Int)) × (List (List Int)) × Int} (hr : FleetAssignC fu x0 x1 x2 x3 = some r) (hx0 : x0 = []) (hx2 : x2 = []) :
  Calls Try.prog 18 [.slice a0 x0.length c0, .int .i64 x1, .slice a2 x2.length c2, .agg (FleetShop.cells x3).toArray].toArray w (fun e w => ∃ (a0 : Option Addr) (c0 : Nat) (a1 : Option Addr) (c1 n1 : Nat) (cs1 : List Value) (t : Sg), e = .returned (.tuple #[.slice a0 r.1.length c0, .slice a1 n1 c1, .int .i64 r.2.2]) ∧ s.Le t ∧ Sl 1 (RL 1 (RI .i64)) t a0 c0 r.1 ∧ Ev 1 (RL 1 (RI .i64)) t cs1 r.2.1 ∧ r.2.1.length = n1 ∧ St w t (vecC 44 1 a1 c1 n1 cs1 :: R)) := by
 refine enter Try.func18 rfl rfl rfl fun a hE => ?_
 rw [FleetAssignC] at hr
 refine W.seq (W.region ?_)
 refine WL.box hE hS (runs_plain rfl) rfl rfl rfl ?_; clear hE hS a w; intro b51 a w hE hS
 refine WL.vS hS hE (runs_plain rfl) (Gives.p hE rfl) rfl ?_; clear hE a; intro a hE
 refine WL.vS hS hE (runs_plain rfl) (Gives.p hE rfl) rfl ?_; clear hE a; intro a hE
 refine WL.vS hS hE (runs_plain rfl) (Gives.p hE rfl) rfl ?_; clear hE a; intro a hE
 refine WL.nil ?_
 refine W.seq ?_
 refine W.seq (W.region ?_)
 refine WL.vS hS hE (runs_plain rfl) (Gives.p hE rfl) rfl ?_; clear hE a; intro a hE
 refine WL.vS hS hE (runs_plain rfl) (Gives.p hE rfl) rfl ?_; clear hE a; intro a hE
 refine WL.fnq hE (FleetcheckTurn_ok hS h0 rfl (r := FleetcheckTurn x0 x1)) (runs_plain rfl) bd61 rfl rfl rfl ?_
 clear hE hS; rintro e w ⟨rfl, hS⟩; refine ⟨_, rfl, ?_⟩; clear a; intro a hE
 refine WL.vS hS hE (runs_plain rfl) (Gives.p hE rfl) rfl ?_; clear hE a; intro a hE
 refine WL.nil ?_
 refine W.seq (W.region ?_)
 refine WL.vS hS hE (runs_plain rfl) (Gives.p hE rfl) rfl ?_; clear hE a; intro a hE
 refine WL.vS hS hE (runs_plain rfl) (Gives.p hE rfl) rfl ?_; clear hE a; intro a hE
 refine WL.nil ?_
 refine W.cond hE rfl (fun hc52 => ?_) (fun hc52 => ?_)
 ·replace hr := iteT hc52 hr
  refine W.seq (W.region ?_)
  refine WL.vS hS hE (runs_plain rfl) (Gives.p hE rfl) rfl ?_; clear hE a; intro a hE
  refine WL.vS hS hE (runs_plain rfl) (Gives.p hE rfl) rfl ?_; clear hE a; intro a hE
  refine WL.vS hS hE (runs_plain rfl) (Gives.p hE rfl) rfl ?_; clear hE a; intro a hE
  refine WL.vS hS hE (runs_plain rfl) (Gives.p hE rfl) rfl ?_; clear hE a; intro a hE
  refine WL.nil ?_
  refine W.ret ?_
  replace hS := hS.vecNil 44 1
  refine finG (fn := Try.f18) (rs := [.tmp 8, .tmp 9, .tmp 10]) (vs := [_, _, _]) hE rfl ⟨rfl, rfl, rfl, trivial⟩ ?_
  obtain rfl := Option.some.inj hr
  replace hS := hS.dropAt 1
  exact ⟨none, 0, none, 0, 0, [], s, rfl, (Sg.Le.refl _), Sl.nil, (Ev.nil), (rfl), hS⟩
 ·replace hr := iteF hc52 hr
  refine W.skip ?_
  refine W.seq ?_
  refine W.seq (W.region ?_)
  refine WL.vS hS hE (runs_plain rfl) (Gives.p hE rfl) rfl ?_; clear hE a; intro a hE
  refine WL.vS hS hE (runs_plain rfl) (Gives.loadBA hE 0 rfl rfl ty35) rfl ?_; clear hE a; intro a hE
  refine WL.fnq hE (FleetcheckSets_ok hS h2 rfl (r := FleetcheckSets x2 x3 6)) (runs_plain rfl) bd55 rfl rfl rfl ?_
  clear hE hS; rintro e w ⟨rfl, hS⟩; refine ⟨_, rfl, ?_⟩; clear a; intro a hE
  refine WL.vS hS hE (runs_plain rfl) (Gives.p hE rfl) rfl ?_; clear hE a; intro a hE
  refine WL.nil ?_
  refine W.seq (W.region ?_)
  refine WL.vS hS hE (runs_plain rfl) (Gives.p hE rfl) rfl ?_; clear hE a; intro a hE
  refine WL.vS hS hE (runs_plain rfl) (Gives.p hE rfl) rfl ?_; clear hE a; intro a hE
  refine WL.nil ?_
  refine W.cond hE rfl (fun hc54 => ?_) (fun hc54 => ?_)
  ·replace hr := iteT hc54 hr
   refine W.seq (W.region ?_)
   refine WL.vS hS hE (runs_plain rfl) (Gives.p hE rfl) rfl ?_; clear hE a; intro a hE
   refine WL.vS hS hE (runs_plain rfl) (Gives.p hE rfl) rfl ?_; clear hE a; intro a hE
   refine WL.vS hS hE (runs_plain rfl) (Gives.p hE rfl) rfl ?_; clear hE a; intro a hE
   refine WL.vS hS hE (runs_plain rfl) (Gives.p hE rfl) rfl ?_; clear hE a; intro a hE
   refine WL.nil ?_
   refine W.ret ?_
   replace hS := hS.vecNil 44 1
   refine finG (fn := Try.f18) (rs := [.tmp 8, .tmp 9, .tmp 10]) (vs := [_, _, _]) hE rfl ⟨rfl, rfl, rfl, trivial⟩ ?_
   obtain rfl := Option.some.inj hr
   replace hS := hS.dropAt 1
   exact ⟨none, 0, none, 0, 0, [], s, rfl, (Sg.Le.refl _), Sl.nil, (Ev.nil), (rfl), hS⟩
  ·replace hr := iteF hc54 hr
   refine W.skip ?_
   refine W.seq (W.region ?_)
   refine WL.vS hS hE (runs_plain rfl) (Gives.p hE rfl) rfl ?_; clear hE a; intro a hE
   refine WL.nil ?_
   refine W.seq ?_
   refine W.seq (W.region ?_)
   refine WL.vS hS hE (runs_plain rfl) (Gives.p hE rfl) rfl ?_; clear hE a; intro a hE
   refine WL.vS hS hE (runs_plain rfl) (Gives.len hE rfl sl32) rfl ?_; clear hE a; intro a hE
   refine WL.vS hS hE (runs_plain rfl) (Gives.p hE rfl) rfl ?_; clear hE a; intro a hE
   refine WL.nil ?_
   obtain ⟨q57, hq56, hr⟩ := bndS hr
   refine W.cut (fun a w => ∃ (q67 : Int), q67 = q57 ∧ Rep a 106 [(0, .slice a0 x0.length c0), (1, .int .i64 x1), (2, .slice a2 x2.length c2), (7, .pointer (some ⟨b51, 0, none⟩)), (13, .int .i64 q67)] ∧ St w s (pt b51 (.cells (FleetShop.cells x3).toArray 35 (0, 0)) :: R)) ?_ ?_
   ·refine W.block ?_
    refine W.loop (fun m a w => ∃ (rest60 : List FleetTask) (k58 : Nat), ∃ (q67 : Int), rest60.length = m ∧ x0.drop k58 = rest60 ∧ FleetAssign.loop1 rest60 q67 = q57 ∧ Rep a 106 [(0, .slice a0 x0.length c0), (1, .int .i64 x1), (2, .slice a2 x2.length c2), (7, .pointer (some ⟨b51, 0, none⟩)), (13, .int .i64 q67), (34, .slice a0 x0.length c0), (35, .int .i64 ((x0).length : Int)), (36, .int .i64 ((k58 : Nat) : Int))] ∧ St w s (pt b51 (.cells (FleetShop.cells x3).toArray 35 (0, 0)) :: R)) (m := x0.length) ⟨x0, 0, 0, rfl, rfl, hq56, hE.pick _ ⟨rfl, rfl, rfl, rfl, rfl, rfl, rfl, rfl, trivial⟩, hS⟩ ?_
    clear hE hS a w hq56; rintro m64 a w ⟨rest60, k58, q67, rfl, hd61, hq56, hE, hS⟩
    refine W.gen fun K68 hK68 => ?_
    rcases rest60 with _ | ⟨x59, rest60⟩
    ·have hlt62 := drop_nil hd61
     refine W.seq (W.region ?_)
     refine WL.vS hS hE (runs_plain rfl) (Gives.p hE rfl) rfl ?_; clear hE a; intro a hE
     refine WL.nil ?_
     refine W.seq ?_
     refine W.condF hE rfl (decide_eq_false (by omega)) ?_
     subst hK68
     refine W.exit rfl ?_
     exact ⟨q67, hq56, hE.pick _ ⟨rfl, rfl, rfl, rfl, rfl, trivial⟩, hS⟩
    ·obtain ⟨hlt62, hx63, hd61⟩ := drop_cons hd61
     rw [FleetAssign.loop1] at hq56
     refine W.seq (W.region ?_)
     refine WL.vS hS hE (runs_plain rfl) (Gives.p hE rfl) rfl ?_; clear hE a; intro a hE
     refine WL.nil ?_
     refine W.seq ?_
     refine W.condT hE rfl (decide_eq_true (by omega)) ?_
     refine W.skip ?_
     refine W.seq ?_
     refine W.block ?_
     refine W.seq (W.region ?_)
     obtain ⟨cs69, hl70, hR71, hat72⟩ := h0.at hx63
     subst hR71
     refine WL.vS hS hE (runs_plain rfl) (Gives.idx hE k58 rfl rfl sl32 rfl hlt62 (h0.aok hlt62)) rfl ?_; clear hE a; intro a hE
     refine WL.vS hS hE (runs_plain rfl) (Gives.loadA hE rfl (fun w h => hat72 w _ h) ty78) rfl ?_; clear hE a; intro a hE
     refine WL.alloc hE hS (runs_plain rfl) zr78 rfl ?_; clear hE hS a w; intro b73 a w hE hS
     refine WL.storeI hE hS 0 rfl (FleetTask.cells x59) (runs_plain rfl) rfl rfl rfl ty78 rfl rfl rfl rfl ?_; clear hE hS a w; intro a w hE hS
     refine WL.nil ?_
     refine W.region ?_
     refine WL.vS hS hE (runs_plain rfl) (Gives.p hE rfl) rfl ?_; clear hE a; intro a hE
     refine WL.vS hS hE (runs_plain rfl) (Gives.fld hE rfl fl78_5) rfl ?_; clear hE a; intro a hE
     refine WL.vS hS hE (runs_plain rfl) (Gives.loadB hE 0 rfl rfl rfl ty3) rfl ?_; clear hE a; intro a hE
     refine WL.vS hS hE (runs_plain rfl) (Gives.p hE rfl) rfl ?_; clear hE a; intro a hE
     refine WL.vS hS hE (runs_plain rfl) (Gives.p hE rfl) rfl ?_; clear hE a; intro a hE
     refine WL.nil ?_
     refine W.region ?_
     refine WL.vS hS hE (runs_plain rfl) (Gives.inc hE rfl (by have := h0.small; omega)) rfl ?_; clear hE a; intro a hE
     refine WL.vS hS hE (runs_plain rfl) (Gives.p hE rfl) rfl ?_; clear hE a; intro a hE
     refine WL.nil ?_
     replace hS := hS.tail
     subst hK68
     exact ⟨rest60.length, Nat.lt_succ_self _, rest60, k58 + 1, (w64 (q67 + x59.Units)), rfl, hd61, hq56, hE.pick _ ⟨rfl, rfl, rfl, rfl, rfl, rfl, rfl, rfl, trivial⟩, hS⟩
   ·clear hE hS a w; rintro a w ⟨q67, rfl, hE, hS⟩
    refine W.seq ?_
    refine W.seq (W.region ?_)
    refine WL.vS hS hE (runs_plain rfl) (Gives.p hE rfl) rfl ?_; clear hE a; intro a hE
    refine WL.vS hS hE (runs_plain rfl) (Gives.p hE rfl) rfl ?_; clear hE a; intro a hE
    refine WL.nil ?_
    refine W.cond hE rfl (fun hc74 => ?_) (fun hc74 => ?_)
    ·replace hr := iteT hc74 hr
     refine W.seq (W.region ?_)
     refine WL.vS hS hE (runs_plain rfl) (Gives.p hE rfl) rfl ?_; clear hE a; intro a hE
     refine WL.vS hS hE (runs_plain rfl) (Gives.p hE rfl) rfl ?_; clear hE a; intro a hE
     refine WL.vS hS hE (runs_plain rfl) (Gives.p hE rfl) rfl ?_; clear hE a; intro a hE
     refine WL.nil ?_
     refine W.ret ?_
     replace hS := hS.vecNil 44 1
     refine finG (fn := Try.f18) (rs := [.tmp 8, .tmp 9, .tmp 10]) (vs := [_, _, _]) hE rfl ⟨rfl, rfl, rfl, trivial⟩ ?_
     obtain rfl := Option.some.inj hr
     replace hS := hS.dropAt 1
     exact ⟨none, 0, none, 0, 0, [], s, rfl, (Sg.Le.refl _), Sl.nil, (Ev.nil), (rfl), hS⟩
    ·replace hr := iteF hc74 hr
     refine W.skip ?_
     refine W.seq ?_
     refine W.gen fun K76 hK76 => ?_
     refine W.regionE (sel (fun w => St w s (pt b51 (.cells (FleetShop.cells x3).toArray 35 (0, 0)) :: R)) (fun w => St w s (pt b51 (.cells (FleetShop.cells x3).toArray 35 (0, 0)) :: R))) (fun b i => cond b ([0, 1, 2, 3, 4, 5, 6, 7, 8, 9, 10, 11].contains i) ([0, 1, 2, 3, 4, 5, 6, 7, 8, 9, 10, 11].contains i)) mixed ?_
     replace hS := hS.drew
     refine Rg.takeP (i := 0) hE rfl (by kernel_rfl) (runs_plain rfl) (Gives.p hE rfl) rfl (tw_sel (fun _ => hS) (fun _ => hS)) ?_; clear hE a; intro a hE
     refine Rg.takeP (i := 1) hE rfl (by kernel_rfl) (runs_plain rfl) (Gives.p hE rfl) rfl (tw_sel (fun _ => hS) (fun _ => hS)) ?_; clear hE a; intro a hE
     refine Rg.takeP (i := 2) hE rfl (by kernel_rfl) (runs_plain rfl) (Gives.p hE rfl) rfl (tw_sel (fun _ => hS) (fun _ => hS)) ?_; clear hE a; intro a hE
     have hT := tw_sel (A := fun w => St w s _) (B := fun w => St w s _) (w := _) (x := true) (y := true) (fun _ => hS) (fun _ => hS)
     have hF := hS; replace hS := hS
     refine Rg.take (i := 3) true rfl hE rfl (by kernel_rfl) (runs_plain rfl) (Gives.loadBA hE 0 rfl rfl ty35) rfl hT ?_; clear hE a; intro a hE
     replace hS := hF; clear hF hT
     refine Rg.takeP (i := 4) hE rfl (by kernel_rfl) (runs_plain rfl) (Gives.p hE rfl) rfl (tw_sel (fun _ => hS) (fun _ => hS)) ?_; clear hE a; intro a hE
     refine Rg.takeP (i := 6) hE rfl (by kernel_rfl) (runs_plain rfl) (Gives.p hE rfl) rfl (tw_sel (fun _ => hS) (fun _ => hS)) ?_; clear hE a; intro a hE
     refine Rg.takeP (i := 7) hE rfl (by kernel_rfl) (runs_plain rfl) (Gives.len hE rfl sl33) rfl (tw_sel (fun _ => hS) (fun _ => hS)) ?_; clear hE a; intro a hE
     obtain ⟨q77, hq78, hr⟩ := bindS hr
     obtain ⟨x85, hx86, hr⟩ := bindS hr
     suffices key : ∀ cs88 cs82 b91 a79 c80 b87 (a : Act) (w : World), Sl 6 RFleetTask s a0 c0 x0 → Sl 2 RFleetSet s a2 c2 x2 → Ev 1 (RL 1 (RI .i64)) s cs88 x85 → Ev 1 (RI .i64) s cs82 q77 → Rep a 106 [(0, .slice a0 x0.length c0), (2, .slice a2 x2.length c2), (7, .pointer (some ⟨b51, 0, none⟩)), (16, .pointer (some ⟨b91, 0, none⟩))] → St w s (pt b91 (.cells #[.slice a0 x0.length c0, .int .i64 x1, .slice a2 x2.length c2, .int .i64 x3.Place, .int .i64 x3.Long, .int .i64 x3.Limit, .slice a79 q77.length c80, .slice (some ⟨b87, 0, none⟩) x85.length x85.length, .slice none 0 0, .int .i64 0] 93 (0, 0)) :: vecC 44 1 (some ⟨b87, 0, none⟩) x85.length x85.length cs88 :: vecC 3 1 a79 c80 q77.length cs82 :: pt b51 (.cells (FleetShop.cells x3).toArray 35 (0, 0)) :: R) → K76.nor a w by
      refine Rg.many 5 [8] (by kernel_rfl) ⟨?_, ?_, trivial⟩
      ·refine Br.mk (i := 5) true true rfl (by kernel_rfl) (by kernel_rfl) ?_
       have hc_ := Fleetorder_ok hS h0 hq78
       refine WL.fnq hE (hc_) (runs_plain rfl) bd62 rfl rfl rfl ?_
       clear hE hS hc_; rintro e w ⟨a79, c80, n81, cs82, rfl, h83, rfl, hS⟩; refine ⟨_, rfl, ?_⟩; clear a; intro a hE
       refine WL.nil ?_
       refine ⟨⟨fun _ => (hS.tail), fun _ => (hS.tail)⟩, ?_⟩
       refine Rg.one (i := 8) true true rfl (by kernel_rfl) (by kernel_rfl) (by kernel_rfl) ?_
       refine WL.mkD (Rr := RL 1 (RI .i64)) hE hS (runs_plain rfl) rfl rfl ap25 zr44 ⟨_, _, rfl, Sl.nil⟩ hx86 rfl ?_; clear hE hS a w; intro b87 cs88 a w h89 hE hS
       refine WL.nil ?_
       refine ⟨⟨fun _ => ((hS.tail).tail), fun _ => ((hS.tail).tail)⟩, ?_⟩
       refine Rg.takeP (i := 9) hE rfl (by kernel_rfl) (runs_plain rfl) (Gives.build hE (vs := [(0, .slice a0 x0.length c0), (1, .int .i64 x1), (2, .slice a2 x2.length c2), (3, .agg (FleetShop.cells x3).toArray), (4, .slice a79 q77.length c80), (5, .slice (some ⟨b87, 0, none⟩) x85.length x85.length)]) [.slice a0 x0.length c0, .int .i64 x1, .slice a2 x2.length c2, .int .i64 x3.Place, .int .i64 x3.Long, .int .i64 x3.Limit, .slice a79 q77.length c80, .slice (some ⟨b87, 0, none⟩) x85.length x85.length, .slice none 0 0, .int .i64 0] rfl (by kernel_rfl)) rfl (tw_sel (fun _ => ((hS.tail).tail)) (fun _ => ((hS.tail).tail))) ?_; clear hE a; intro a hE
       refine Rg.one (i := 10) true true rfl (by kernel_rfl) (by kernel_rfl) (by kernel_rfl) ?_
       refine WL.box hE hS (runs_plain rfl) rfl rfl rfl ?_; clear hE hS a w; intro b91 a w hE hS
       refine WL.nil ?_
       refine ⟨⟨fun _ => (((hS.tail).tail).tail), fun _ => (((hS.tail).tail).tail)⟩, ?_⟩
       refine Rg.takeP (i := 11) hE rfl (by kernel_rfl) (runs_plain rfl) (Gives.p hE rfl) rfl (tw_sel (fun _ => (((hS.tail).tail).tail)) (fun _ => (((hS.tail).tail).tail))) ?_; clear hE a; intro a hE
       refine Rg.done (by kernel_rfl) ?_
       exact key _ _ _ _ _ _ _ _ h0 h2 h89 h83 (hE.pick _ ⟨rfl, rfl, rfl, rfl, trivial⟩) hS
      ·refine Br.mk (i := 8) true true rfl (by kernel_rfl) (by kernel_rfl) ?_
       refine WL.mkD (Rr := RL 1 (RI .i64)) hE hS (runs_plain rfl) rfl rfl ap25 zr44 ⟨_, _, rfl, Sl.nil⟩ hx86 rfl ?_; clear hE hS a w; intro b87 cs88 a w h89 hE hS
       refine WL.nil ?_
       refine ⟨⟨fun _ => (hS.tail), fun _ => (hS.tail)⟩, ?_⟩
       refine Rg.one (i := 5) true true rfl (by kernel_rfl) (by kernel_rfl) (by kernel_rfl) ?_
       have hc_ := Fleetorder_ok hS h0 hq78
       refine WL.fnq hE (hc_) (runs_plain rfl) bd62 rfl rfl rfl ?_
       clear hE hS hc_; rintro e w ⟨a79, c80, n81, cs82, rfl, h83, rfl, hS⟩; refine ⟨_, rfl, ?_⟩; clear a; intro a hE
       refine WL.nil ?_
       refine ⟨⟨fun _ => ((hS.tail).tail), fun _ => ((hS.tail).tail)⟩, ?_⟩
       refine Rg.takeP (i := 9) hE rfl (by kernel_rfl) (runs_plain rfl) (Gives.build hE (vs := [(0, .slice a0 x0.length c0), (1, .int .i64 x1), (2, .slice a2 x2.length c2), (3, .agg (FleetShop.cells x3).toArray), (4, .slice a79 q77.length c80), (5, .slice (some ⟨b87, 0, none⟩) x85.length x85.length)]) [.slice a0 x0.length c0, .int .i64 x1, .slice a2 x2.length c2, .int .i64 x3.Place, .int .i64 x3.Long, .int .i64 x3.Limit, .slice a79 q77.length c80, .slice (some ⟨b87, 0, none⟩) x85.length x85.length, .slice none 0 0, .int .i64 0] rfl (by kernel_rfl)) rfl (tw_sel (fun _ => ((hS.tail).tail)) (fun _ => ((hS.tail).tail))) ?_; clear hE a; intro a hE
       refine Rg.one (i := 10) true true rfl (by kernel_rfl) (by kernel_rfl) (by kernel_rfl) ?_
       refine WL.box hE hS (runs_plain rfl) rfl rfl rfl ?_; clear hE hS a w; intro b91 a w hE hS
       refine WL.nil ?_
       refine ⟨⟨fun _ => (((hS.tail).tail).tail), fun _ => (((hS.tail).tail).tail)⟩, ?_⟩
       refine Rg.takeP (i := 11) hE rfl (by kernel_rfl) (runs_plain rfl) (Gives.p hE rfl) rfl (tw_sel (fun _ => (((hS.tail).tail).tail)) (fun _ => (((hS.tail).tail).tail))) ?_; clear hE a; intro a hE
       refine Rg.done (by kernel_rfl) ?_
       replace hS := hS.front 3 rfl
       replace hS := hS.front 2 rfl
       replace hS := hS.front 3 rfl
       replace hS := hS.front 3 rfl
       exact key _ _ _ _ _ _ _ _ h0 h2 h89 h83 (hE.pick _ ⟨rfl, rfl, rfl, rfl, trivial⟩) hS
     clear hE hS a w; intro cs88 cs82 b91 a79 c80 b87 a w h0 h2 h89 h83 hE hS
     subst hK76
     refine W.seq (W.region ?_)
     refine WL.vS hS hE (runs_plain rfl) (Gives.p hE rfl) rfl ?_; clear hE a; intro a hE
     obtain ⟨q93, hq94, hr⟩ := bindS hr
     replace hS := hS.front 1 rfl
     replace hS := hS.front 2 rfl
     replace hS := hS.front 2 rfl
     have hl0 : q77.length = 0 := by
      by_cases h : q77.length = 0
      ·exact h
      ·rw [if_neg h] at hq94; exact absurd hq94 (by simp)
     rw [if_pos hl0] at hq94
     have hc_ := FleetGivergive_c_ok (x1 := 0) (x2 := 0) (x3 := 0) (y0 := (FleetGiver.mk x0 x1 x2 x3 q77 x85 [] 0)) hS h0 h2 h83 rfl h89 (rfl) Sl.nil (fun _ => rfl) hq94 (by show (0 : Int) = ((q77.length : Nat) : Int); omega)
     refine WL.fnq hE (hc_) (runs_plain rfl) bd63 rfl rfl rfl ?_
     clear hE hS hc_; rintro e w ⟨cs95, a98, c99, s102, rfl, hle103, h96, hn97, h100, hS⟩; refine ⟨_, rfl, ?_⟩; clear a; intro a hE
     replace h0 := Sl.mono RFleetTask.mono hle103 h0
     replace h2 := Sl.mono RFleetSet.mono hle103 h2
     replace h83 := Ev.mono RI.mono hle103 h83
     replace h89 := Ev.mono (RL.mono RI.mono) hle103 h89
     refine WL.nil ?_
     refine W.seq ?_
     refine W.seq ?_
     obtain ⟨q105, hq104, hr⟩ := bndS hr
     refine W.cut (fun a w => ∃ (q108 : Bool), q108 = q105 ∧ Rep a 106 [(0, .slice a0 x0.length c0), (2, .slice a2 x2.length c2), (7, .pointer (some ⟨b51, 0, none⟩)), (16, .pointer (some ⟨b91, 0, none⟩)), (74, .bool q108)] ∧ St w s102 (pt b91 (.cells #[.slice a0 x0.length c0, .int .i64 x1, .slice a2 x2.length c2, .int .i64 x3.Place, .int .i64 x3.Long, .int .i64 x3.Limit, .slice a79 q77.length c80, .slice (some ⟨b87, 0, none⟩) x85.length x85.length, .slice a98 q93.2.1.length c99, .int .i64 q93.2.2] 93 (0, 0)) :: vecC 3 1 a79 c80 q77.length cs82 :: vecC 44 1 (some ⟨b87, 0, none⟩) x85.length x85.length cs95 :: pt b51 (.cells (FleetShop.cells x3).toArray 35 (0, 0)) :: R)) ?_ ?_
     ·refine W.gen fun K109 hK109 => ?_
      refine W.region ?_
      refine WL.vS hS hE (runs_plain rfl) (Gives.p hE rfl) rfl ?_; clear hE a; intro a hE
      refine WL.vS hS hE (runs_plain rfl) (Gives.nilOk hE rfl) rfl ?_; clear hE a; intro a hE
      refine WL.vS hS hE (runs_plain rfl) (Gives.fld hE rfl fl93_6) rfl ?_; clear hE a; intro a hE
      refine WL.vS hS hE (runs_plain rfl) (Gives.loadB hE 0 rfl rfl rfl ty25) rfl ?_; clear hE a; intro a hE
      refine WL.vS hS hE (runs_plain rfl) (Gives.isNil hE rfl rfl isl25) rfl ?_; clear hE a; intro a hE
      refine WL.vS hS hE (runs_plain rfl) (Gives.p hE rfl) rfl ?_; clear hE a; intro a hE
      rcases Bool.eq_false_or_eq_true a98.isNone with hg110 | hg110
      ·skip
       refine WL.vS hS hE (runs_if hE rfl rfl rfl hg110) (Gives.p hE rfl) rfl ?_; clear hE a; intro a hE
       refine WL.vS hS hE (runs_if hE rfl rfl rfl hg110) (Gives.len hE rfl sl32) rfl ?_; clear hE a; intro a hE
       refine WL.vS hS hE (runs_if hE rfl rfl rfl hg110) (Gives.p hE rfl) rfl ?_; clear hE a; intro a hE
       refine WL.vS hS hE (runs_if hE rfl rfl rfl hg110) (Gives.p hE rfl) rfl ?_; clear hE a; intro a hE
       rcases Bool.eq_false_or_eq_true (decide (((x0).length : Int) > 0)) with hg111 | hg111
       ·exfalso; rw [hx0] at hg111; simp at hg111
       ·skip
        refine WL.vS hS hE (runs_if hE rfl rfl rfl hg111) (Gives.p hE rfl) rfl ?_; clear hE a; intro a hE
        refine WL.vS hS hE (runs_if hE rfl rfl rfl hg111) (Gives.len hE rfl sl33) rfl ?_; clear hE a; intro a hE
        refine WL.vS hS hE (runs_if hE rfl rfl rfl hg111) (Gives.p hE rfl) rfl ?_; clear hE a; intro a hE
        refine WL.vS hS hE (runs_if hE rfl rfl rfl hg110) (Gives.pickF hE rfl hg111 rfl) rfl ?_; clear hE a; intro a hE
        refine WL.vS hS hE (runs_plain rfl) (Gives.pickT hE rfl hg110 rfl) rfl ?_; clear hE a; intro a hE
        refine WL.nil ?_
        subst hK109
        exact ⟨decide (((x2).length : Int) > 0), (by rw [← hq104, hx2]; rfl), hE.pick _ ⟨rfl, rfl, rfl, rfl, rfl, trivial⟩, hS⟩
      ·skip
       refine WL.no hE (runs_not hE rfl rfl rfl (by rw [hg110]; decide)) rfl ?_; clear hE a; intro a hE
       refine WL.no hE (runs_not hE rfl rfl rfl (by rw [hg110]; decide)) rfl ?_; clear hE a; intro a hE
       refine WL.no hE (runs_not hE rfl rfl rfl (by rw [hg110]; decide)) rfl ?_; clear hE a; intro a hE
       refine WL.no hE (runs_not hE rfl rfl rfl (by rw [hg110]; decide)) rfl ?_; clear hE a; intro a hE
       refine WL.no hE (runs_undef hE rfl rfl rfl) rfl ?_; clear hE a; intro a hE
       refine WL.no hE (runs_undef hE rfl rfl rfl) rfl ?_; clear hE a; intro a hE
       refine WL.no hE (runs_undef hE rfl rfl rfl) rfl ?_; clear hE a; intro a hE
       refine WL.no hE (runs_not hE rfl rfl rfl (by rw [hg110]; decide)) rfl ?_; clear hE a; intro a hE
       refine WL.vS hS hE (runs_plain rfl) (Gives.pickF hE rfl hg110 rfl) rfl ?_; clear hE a; intro a hE
       refine WL.nil ?_
       subst hK109
       exact ⟨false, hq104, hE.pick _ ⟨rfl, rfl, rfl, rfl, rfl, trivial⟩, hS⟩
     ·clear hE hS a w; rintro a w ⟨q108, rfl, hE, hS⟩
      refine W.cond hE rfl (fun hc112 => ?_) (fun hc112 => ?_)
      ·replace hr := iteT hc112 hr
       refine W.seq (W.region ?_)
       refine WL.vS hS hE (runs_plain rfl) (Gives.p hE rfl) rfl ?_; clear hE a; intro a hE
       refine WL.vS hS hE (runs_plain rfl) (Gives.p hE rfl) rfl ?_; clear hE a; intro a hE
       refine WL.vS hS hE (runs_plain rfl) (Gives.p hE rfl) rfl ?_; clear hE a; intro a hE
       refine WL.nil ?_
       refine W.ret ?_
       replace hS := hS.vecNil 44 1
       refine finG (fn := Try.f18) (rs := [.tmp 8, .tmp 9, .tmp 10]) (vs := [_, _, _]) hE rfl ⟨rfl, rfl, rfl, trivial⟩ ?_
       obtain rfl := Option.some.inj hr
       replace hS := hS.dropAt 1
       replace hS := hS.dropAt 1
       replace hS := hS.dropAt 1
       replace hS := hS.dropAt 1
       exact ⟨none, 0, none, 0, 0, [], s102, rfl, hle103, Sl.nil, (Ev.nil), (rfl), hS⟩
      ·replace hr := iteF hc112 hr
       refine W.skip ?_
       refine W.seq (W.region ?_)
       replace hS := hS.vecNil 44 1
       refine WL.vS hS hE (runs_plain rfl) (Gives.p hE rfl) rfl ?_; clear hE a; intro a hE
       refine WL.nil ?_
       refine W.seq ?_
       refine W.seq (W.region ?_)
       refine WL.vS hS hE (runs_plain rfl) (Gives.p hE rfl) rfl ?_; clear hE a; intro a hE
       refine WL.vS hS hE (runs_plain rfl) (Gives.nilOk hE rfl) rfl ?_; clear hE a; intro a hE
       refine WL.vS hS hE (runs_plain rfl) (Gives.fld hE rfl fl93_6) rfl ?_; clear hE a; intro a hE
       refine WL.vS hS hE (runs_plain rfl) (Gives.loadB hE 1 rfl rfl rfl ty25) rfl ?_; clear hE a; intro a hE
       refine WL.vS hS hE (runs_plain rfl) (Gives.len hE rfl sl25) rfl ?_; clear hE a; intro a hE
       refine WL.vS hS hE (runs_plain rfl) (Gives.p hE rfl) rfl ?_; clear hE a; intro a hE
       refine WL.nil ?_
       obtain ⟨q116, hq115, hr⟩ := bindS hr
       refine W.cut (fun a w => ∃ (q126 : List (List Int)), ∃ (a127 : Option Addr), ∃ (c128 : Nat), ∃ (n130 : Nat), ∃ (cs131 : List Value), ∃ (s124 : Sg), s102.Le s124 ∧ q126 = q116 ∧ Ev 1 (RL 1 (RI .i64)) s124 cs131 q126 ∧ q126.length = n130 ∧ Rep a 106 [(16, .pointer (some ⟨b91, 0, none⟩)), (17, .slice a127 n130 c128)] ∧ St w s124 (vecC 44 1 a127 c128 n130 cs131 :: pt b91 (.cells #[.slice a0 x0.length c0, .int .i64 x1, .slice a2 x2.length c2, .int .i64 x3.Place, .int .i64 x3.Long, .int .i64 x3.Limit, .slice a79 q77.length c80, .slice (some ⟨b87, 0, none⟩) x85.length x85.length, .slice a98 q93.2.1.length c99, .int .i64 q93.2.2] 93 (0, 0)) :: vecC 3 1 a79 c80 q77.length cs82 :: vecC 44 1 (some ⟨b87, 0, none⟩) x85.length x85.length cs95 :: pt b51 (.cells (FleetShop.cells x3).toArray 35 (0, 0)) :: R)) ?_ ?_
       ·refine W.block ?_
        refine W.loop (fun m a w => ∃ (rest119 : List (List Int)) (k117 : Nat), ∃ (q126 : List (List Int)), ∃ (a127 : Option Addr), ∃ (c128 : Nat), ∃ (n130 : Nat), ∃ (cs131 : List Value), ∃ (s124 : Sg), rest119.length = m ∧ q93.2.1.drop k117 = rest119 ∧ s102.Le s124 ∧ FleetAssign.loop2 x0 x2 x3 fu rest119 k117 q126 = some q116 ∧ Ev 1 (RL 1 (RI .i64)) s124 cs131 q126 ∧ q126.length = n130 ∧ Rep a 106 [(0, .slice a0 x0.length c0), (2, .slice a2 x2.length c2), (7, .pointer (some ⟨b51, 0, none⟩)), (16, .pointer (some ⟨b91, 0, none⟩)), (17, .slice a127 n130 c128), (78, .slice a98 q93.2.1.length c99), (79, .int .i64 ((q93.2.1).length : Int)), (80, .int .i64 ((k117 : Nat) : Int))] ∧ St w s124 (vecC 44 1 a127 c128 n130 cs131 :: pt b91 (.cells #[.slice a0 x0.length c0, .int .i64 x1, .slice a2 x2.length c2, .int .i64 x3.Place, .int .i64 x3.Long, .int .i64 x3.Limit, .slice a79 q77.length c80, .slice (some ⟨b87, 0, none⟩) x85.length x85.length, .slice a98 q93.2.1.length c99, .int .i64 q93.2.2] 93 (0, 0)) :: vecC 3 1 a79 c80 q77.length cs82 :: vecC 44 1 (some ⟨b87, 0, none⟩) x85.length x85.length cs95 :: pt b51 (.cells (FleetShop.cells x3).toArray 35 (0, 0)) :: R)) (m := q93.2.1.length) ⟨q93.2.1, 0, [], none, 0, 0, [], s102, rfl, rfl, (Sg.Le.refl _), hq115, (Ev.nil), (rfl), hE.pick _ ⟨rfl, rfl, rfl, rfl, rfl, rfl, rfl, rfl, trivial⟩, hS⟩ ?_
        clear hE hS a w hq115; rintro m123 a w ⟨rest119, k117, q126, a127, c128, n130, cs131, s124, rfl, hd120, hle125, hq115, h129, rfl, hE, hS⟩
        refine W.gen fun K133 hK133 => ?_
        replace h0 := Sl.mono RFleetTask.mono hle125 h0
        replace h2 := Sl.mono RFleetSet.mono hle125 h2
        replace h100 := Sl.mono (RL.mono RI.mono) hle125 h100
        replace h83 := Ev.mono RI.mono hle125 h83
        replace h96 := Ev.mono (RL.mono RI.mono) hle125 h96
        rcases rest119 with _ | ⟨x118, rest119⟩
        ·have hlt121 := drop_nil hd120
         refine W.seq (W.region ?_)
         refine WL.vS hS hE (runs_plain rfl) (Gives.p hE rfl) rfl ?_; clear hE a; intro a hE
         refine WL.nil ?_
         refine W.seq ?_
         refine W.condF hE rfl (decide_eq_false (by omega)) ?_
         subst hK133
         refine W.exit rfl ?_
         exact ⟨q126, a127, c128, q126.length, cs131, s124, hle125, Option.some.inj hq115, h129, rfl, hE.pick _ ⟨rfl, rfl, trivial⟩, hS⟩
        ·obtain ⟨hlt121, hx122, hd120⟩ := drop_cons hd120
         rw [FleetAssign.loop2] at hq115
         refine W.seq (W.region ?_)
         refine WL.vS hS hE (runs_plain rfl) (Gives.p hE rfl) rfl ?_; clear hE a; intro a hE
         refine WL.nil ?_
         refine W.seq ?_
         refine W.condT hE rfl (decide_eq_true (by omega)) ?_
         refine W.skip ?_
         refine W.seq ?_
         refine W.block ?_
         refine W.seq (W.region ?_)
         refine WL.vS hS hE (runs_plain rfl) (Gives.p hE rfl) rfl ?_; clear hE a; intro a hE
         obtain ⟨cs134, hl135, hR136, hat137⟩ := h100.at hx122
         obtain ⟨a138, c139, rfl, h140⟩ := hR136
         refine WL.vS hS hE (runs_plain rfl) (Gives.idx hE k117 rfl rfl sl25 rfl hlt121 (h100.aok hlt121)) rfl ?_; clear hE a; intro a hE
         refine WL.vS hS hE (runs_plain rfl) (Gives.load1 hE rfl (fun w h => hat137 w _ h) ty44) rfl ?_; clear hE a; intro a hE
         refine WL.vS hS hE (runs_plain rfl) (Gives.p hE rfl) rfl ?_; clear hE a; intro a hE
         refine WL.vS hS hE (runs_plain rfl) (Gives.p hE rfl) rfl ?_; clear hE a; intro a hE
         refine WL.nil ?_
         refine W.seq ?_
         refine W.gen fun K141 hK141 => ?_
         refine W.regionE (sel (fun w => St w s124 (vecC 44 1 a127 c128 q126.length cs131 :: pt b91 (.cells #[.slice a0 x0.length c0, .int .i64 x1, .slice a2 x2.length c2, .int .i64 x3.Place, .int .i64 x3.Long, .int .i64 x3.Limit, .slice a79 q77.length c80, .slice (some ⟨b87, 0, none⟩) x85.length x85.length, .slice a98 q93.2.1.length c99, .int .i64 q93.2.2] 93 (0, 0)) :: vecC 3 1 a79 c80 q77.length cs82 :: vecC 44 1 (some ⟨b87, 0, none⟩) x85.length x85.length cs95 :: pt b51 (.cells (FleetShop.cells x3).toArray 35 (0, 0)) :: R)) (fun w => St w s124 (vecC 44 1 a127 c128 q126.length cs131 :: pt b91 (.cells #[.slice a0 x0.length c0, .int .i64 x1, .slice a2 x2.length c2, .int .i64 x3.Place, .int .i64 x3.Long, .int .i64 x3.Limit, .slice a79 q77.length c80, .slice (some ⟨b87, 0, none⟩) x85.length x85.length, .slice a98 q93.2.1.length c99, .int .i64 q93.2.2] 93 (0, 0)) :: vecC 3 1 a79 c80 q77.length cs82 :: vecC 44 1 (some ⟨b87, 0, none⟩) x85.length x85.length cs95 :: pt b51 (.cells (FleetShop.cells x3).toArray 35 (0, 0)) :: R))) (fun b i => cond b ([0, 1, 2, 3, 4, 5, 6, 7, 8, 9, 10, 11, 12].contains i) ([0, 1, 2, 3, 4, 5, 6, 7, 8, 9, 10, 11, 12].contains i)) mixed ?_
         replace hS := hS.drew
         refine Rg.takeP (i := 0) hE rfl (by kernel_rfl) (runs_plain rfl) (Gives.p hE rfl) rfl (tw_sel (fun _ => hS) (fun _ => hS)) ?_; clear hE a; intro a hE
         refine Rg.takeP (i := 1) hE rfl (by kernel_rfl) (runs_plain rfl) (Gives.p hE rfl) rfl (tw_sel (fun _ => hS) (fun _ => hS)) ?_; clear hE a; intro a hE
         refine Rg.takeP (i := 2) hE rfl (by kernel_rfl) (runs_plain rfl) (Gives.p hE rfl) rfl (tw_sel (fun _ => hS) (fun _ => hS)) ?_; clear hE a; intro a hE
         refine Rg.takeP (i := 3) hE rfl (by kernel_rfl) (runs_plain rfl) (Gives.p hE rfl) rfl (tw_sel (fun _ => hS) (fun _ => hS)) ?_; clear hE a; intro a hE
         obtain ⟨x142, hx143, hq115⟩ := bindS hq115
         obtain ⟨hi144, hlt145, hy146⟩ := gx_some hx143
         obtain ⟨cs147, hl148, hR149, hat150⟩ := h2.at hy146
         subst hR149
         refine Rg.takeP (i := 4) hE rfl (by kernel_rfl) (runs_plain rfl) (Gives.idx hE (((k117 : Nat) : Int)).toNat rfl rfl sl33 hi144 hlt145 (h2.aok hlt145)) rfl (tw_sel (fun _ => hS) (fun _ => hS)) ?_; clear hE a; intro a hE
         have hT := tw_sel (A := fun w => St w s124 _) (B := fun w => St w s124 _) (w := _) (x := true) (y := true) (fun _ => hS) (fun _ => hS)
         have hF := hS; replace hS := hS
         refine Rg.take (i := 5) true rfl hE rfl (by kernel_rfl) (runs_plain rfl) (Gives.loadA hE rfl (fun w h => hat150 w _ h) ty84) rfl hT ?_; clear hE a; intro a hE
         replace hS := hF; clear hF hT
         have hT := tw_sel (A := fun w => St w s124 _) (B := fun w => St w s124 _) (w := _) (x := true) (y := true) (fun _ => hS) (fun _ => hS)
         have hF := hS; replace hS := hS
         refine Rg.take (i := 6) true rfl hE rfl (by kernel_rfl) (runs_plain rfl) (Gives.loadBA hE 4 rfl rfl ty35) rfl hT ?_; clear hE a; intro a hE
         replace hS := hF; clear hF hT
         refine Rg.one (i := 7) true true rfl (by kernel_rfl) (by kernel_rfl) (by kernel_rfl) ?_
         obtain ⟨q151, hq152, hq115⟩ := bindS hq115
         have hc_ := Fleetpositions_ok hS h0 h140 hq152
         refine WL.fnq hE (hc_) (runs_plain rfl) bd57 rfl rfl rfl ?_
         clear hE hS hc_; rintro e w ⟨a153, c154, n155, cs156, rfl, h157, rfl, hS⟩; refine ⟨_, rfl, ?_⟩; clear a; intro a hE
         refine WL.nil ?_
         refine ⟨⟨fun _ => (hS.tail), fun _ => (hS.tail)⟩, ?_⟩
         refine Rg.takeP (i := 8) hE rfl (by kernel_rfl) (runs_plain rfl) (Gives.p hE rfl) rfl (tw_sel (fun _ => (hS.tail)) (fun _ => (hS.tail))) ?_; clear hE a; intro a hE
         refine Rg.takeP (i := 9) hE rfl (by kernel_rfl) (runs_plain rfl) (Gives.p hE rfl) rfl (tw_sel (fun _ => (hS.tail)) (fun _ => (hS.tail))) ?_; clear hE a; intro a hE
         refine Rg.takeP (i := 10) hE rfl (by kernel_rfl) (runs_plain rfl) (Gives.p hE rfl) rfl (tw_sel (fun _ => (hS.tail)) (fun _ => (hS.tail))) ?_; clear hE a; intro a hE
         refine Rg.takeP (i := 11) hE rfl (by kernel_rfl) (runs_plain rfl) (Gives.p hE rfl) rfl (tw_sel (fun _ => (hS.tail)) (fun _ => (hS.tail))) ?_; clear hE a; intro a hE
         refine Rg.takeP (i := 12) hE rfl (by kernel_rfl) (runs_plain rfl) (Gives.p hE rfl) rfl (tw_sel (fun _ => (hS.tail)) (fun _ => (hS.tail))) ?_; clear hE a; intro a hE
         refine Rg.done (by kernel_rfl) ?_
         subst hK141
         refine W.region ?_
         refine WL.vS hS hE (runs_plain rfl) (Gives.p hE rfl) rfl ?_; clear hE a; intro a hE
         refine WL.vS hS hE (runs_plain rfl) (Gives.p hE rfl) rfl ?_; clear hE a; intro a hE
         have hF := hS.fixD RI.mono 0 rfl h157 rfl; clear hS; obtain ⟨s159, hle160, hS, h161⟩ := hF
         replace h0 := Sl.mono RFleetTask.mono hle160 h0
         replace h2 := Sl.mono RFleetSet.mono hle160 h2
         replace h100 := Sl.mono (RL.mono RI.mono) hle160 h100
         replace h140 := Sl.mono RI.mono hle160 h140
         replace h129 := Ev.mono (RL.mono RI.mono) hle160 h129
         replace h83 := Ev.mono RI.mono hle160 h83
         replace h96 := Ev.mono (RL.mono RI.mono) hle160 h96
         refine WL.lit hE hS (e := 44) (es := 1) (vs := [(0, .slice a153 q151.1.length c154)]) (cs := [.slice a153 q151.1.length c154]) (runs_plain rfl) rfl (by kernel_rfl) rfl ?_; clear hE hS a w; intro b162 a w hE hS
         obtain ⟨x163, hx164, hq115⟩ := bindS hq115
         refine WL.appD hE hS 0 (m := 1) (runs_plain rfl) rfl rfl rfl ap25 rfl h129 rfl (xs := [q151.1]) (Ev.cons (c1 := [.slice a153 q151.1.length c154]) ⟨_, _, rfl, h161⟩ rfl (Ev.nil)) rfl rfl hx164 rfl ?_; clear hE hS a w; intro a165 c166 cs167 a w h168 hE hS
         refine WL.vS hS hE (runs_plain rfl) (Gives.p hE rfl) rfl ?_; clear hE a; intro a hE
         refine WL.nil ?_
         refine W.region ?_
         refine WL.vS hS hE (runs_plain rfl) (Gives.inc hE rfl (by have := h100.small; omega)) rfl ?_; clear hE a; intro a hE
         refine WL.vS hS hE (runs_plain rfl) (Gives.p hE rfl) rfl ?_; clear hE a; intro a hE
         refine WL.nil ?_
         subst hK133
         exact ⟨rest119.length, Nat.lt_succ_self _, rest119, k117 + 1, x163, a165, c166, x163.length, cs167, s159, rfl, hd120, (Sg.Le.trans hle125 hle160), hq115, h168, (rfl), hE.pick _ ⟨rfl, rfl, rfl, rfl, rfl, rfl, rfl, rfl, trivial⟩, hS⟩
       ·clear hE hS a w; rintro a w ⟨q126, a127, c128, n130, cs131, s124, hle125, rfl, h129, rfl, hE, hS⟩
        replace h0 := Sl.mono RFleetTask.mono hle125 h0
        replace h2 := Sl.mono RFleetSet.mono hle125 h2
        replace h100 := Sl.mono (RL.mono RI.mono) hle125 h100
        replace h83 := Ev.mono RI.mono hle125 h83
        replace h96 := Ev.mono (RL.mono RI.mono) hle125 h96
        refine W.seq (W.region ?_)
        refine WL.vS hS hE (runs_plain rfl) (Gives.p hE rfl) rfl ?_; clear hE a; intro a hE
        refine WL.vS hS hE (runs_plain rfl) (Gives.nilOk hE rfl) rfl ?_; clear hE a; intro a hE
        refine WL.vS hS hE (runs_plain rfl) (Gives.fld hE rfl fl93_6) rfl ?_; clear hE a; intro a hE
        refine WL.vS hS hE (runs_plain rfl) (Gives.loadB hE 1 rfl rfl rfl ty25) rfl ?_; clear hE a; intro a hE
        refine WL.vS hS hE (runs_plain rfl) (Gives.p hE rfl) rfl ?_; clear hE a; intro a hE
        refine WL.vS hS hE (runs_plain rfl) (Gives.p hE rfl) rfl ?_; clear hE a; intro a hE
        refine WL.vS hS hE (runs_plain rfl) (Gives.p hE rfl) rfl ?_; clear hE a; intro a hE
        refine WL.vS hS hE (runs_plain rfl) (Gives.p hE rfl) rfl ?_; clear hE a; intro a hE
        refine WL.nil ?_
        refine W.ret ?_
        refine finG (fn := Try.f18) (rs := [.tmp 8, .tmp 9, .tmp 10]) (vs := [_, _, _]) hE rfl ⟨rfl, rfl, rfl, trivial⟩ ?_
        obtain rfl := Option.some.inj hr
        replace hS := hS.dropAt 1
        replace hS := hS.dropAt 1
        replace hS := hS.dropAt 1
        replace hS := hS.dropAt 1
        exact ⟨a98, c99, a127, c128, q126.length, cs131, s124, rfl, (Sg.Le.trans hle103 hle125), h100, h129, rfl, hS⟩
set_option maxHeartbeats 8000000 in
theorem FleetAssignX_ok {fu : Nat}  {w : World} {s : Sg} {R : List HP} {x0 : List FleetTask} {a0 : Option Addr} {c0 : Nat} {x1 : Int} {x2 : List FleetSet} {a2 : Option Addr} {c2 : Nat} {x3 : FleetShop} (hS : St w s (R)) (h0 : Sl 6 RFleetTask s a0 c0 x0) (h2 : Sl 2 RFleetSet s a2 c2 x2) {r : (List (List Int)) × (List (List Int)) × Int} (hr : FleetAssignX fu x0 x1 x2 x3 = some r) :
  Calls Try.prog 18 [.slice a0 x0.length c0, .int .i64 x1, .slice a2 x2.length c2, .agg (FleetShop.cells x3).toArray].toArray w (fun e w => ∃ (a0 : Option Addr) (c0 : Nat) (a1 : Option Addr) (c1 n1 : Nat) (cs1 : List Value) (t : Sg), e = .returned (.tuple #[.slice a0 r.1.length c0, .slice a1 n1 c1, .int .i64 r.2.2]) ∧ s.Le t ∧ Sl 1 (RL 1 (RI .i64)) t a0 c0 r.1 ∧ Ev 1 (RL 1 (RI .i64)) t cs1 r.2.1 ∧ r.2.1.length = n1 ∧ St w t (vecC 44 1 a1 c1 n1 cs1 :: R)) := by
 unfold FleetAssignX at hr
 by_cases h : x0 = [] ∧ x2 = []
 ·rw [if_pos h] at hr
  exact FleetAssign_c_ok hS h0 h2 hr h.1 h.2
 ·rw [if_neg h] at hr
  exact FleetAssign_ok hS h0 h2 hr

set_option maxHeartbeats 8000000 in
theorem Fishref2within_ok  {w : World} {s : Sg} {R : List HP} {x0 : Int} {x1 : Int} {x2 : Int} (hS : St w s (R))  {r : Bool} (hr : Fishref2within x0 x1 x2 = r) :
  Calls Try.prog 45 [.int .i64 x0, .int .i64 x1, .int .i64 x2].toArray w (fun e w => e = .returned (.bool r) ∧ St w s (R)) := by
 refine enter Try.func45 rfl rfl rfl fun a hE => ?_
 rw [Fishref2within] at hr
 refine W.seq (W.region ?_)
 refine WL.vS hS hE (runs_plain rfl) (Gives.p hE rfl) rfl ?_; clear hE a; intro a hE
 refine WL.nil ?_
 refine W.seq ?_
 obtain ⟨q52, hq51, hr⟩ := bndS hr
 refine W.cut (fun a w => ∃ (q55 : Bool), q55 = q52 ∧ Rep a 15 [(6, .bool q55)] ∧ St w s (R)) ?_ ?_
 ·refine W.gen fun K56 hK56 => ?_
  refine W.region ?_
  refine WL.vS hS hE (runs_plain rfl) (Gives.p hE rfl) rfl ?_; clear hE a; intro a hE
  refine WL.vS hS hE (runs_plain rfl) (Gives.p hE rfl) rfl ?_; clear hE a; intro a hE
  refine WL.vS hS hE (runs_plain rfl) (Gives.p hE rfl) rfl ?_; clear hE a; intro a hE
  refine WL.vS hS hE (runs_plain rfl) (Gives.p hE rfl) rfl ?_; clear hE a; intro a hE
  rcases Bool.eq_false_or_eq_true (decide (x0 ≥ x1)) with hg57 | hg57
  ·replace hq51 := iteT hg57 hq51
   refine WL.vS hS hE (runs_if hE rfl rfl rfl hg57) (Gives.p hE rfl) rfl ?_; clear hE a; intro a hE
   refine WL.vS hS hE (runs_if hE rfl rfl rfl hg57) (Gives.p hE rfl) rfl ?_; clear hE a; intro a hE
   refine WL.vS hS hE (runs_if hE rfl rfl rfl hg57) (Gives.p hE rfl) rfl ?_; clear hE a; intro a hE
   refine WL.vS hS hE (runs_plain rfl) (Gives.pickT hE rfl hg57 rfl) rfl ?_; clear hE a; intro a hE
   refine WL.vS hS hE (runs_plain rfl) (Gives.p hE rfl) rfl ?_; clear hE a; intro a hE
   refine WL.nil ?_
   subst hK56
   exact ⟨decide (x0 ≤ x2), hq51, hE.pick _ ⟨rfl, trivial⟩, hS⟩
  ·replace hq51 := iteF hg57 hq51
   refine WL.no hE (runs_not hE rfl rfl rfl (by rw [hg57]; decide)) rfl ?_; clear hE a; intro a hE
   refine WL.no hE (runs_not hE rfl rfl rfl (by rw [hg57]; decide)) rfl ?_; clear hE a; intro a hE
   refine WL.no hE (runs_not hE rfl rfl rfl (by rw [hg57]; decide)) rfl ?_; clear hE a; intro a hE
   refine WL.vS hS hE (runs_plain rfl) (Gives.pickF hE rfl hg57 rfl) rfl ?_; clear hE a; intro a hE
   refine WL.vS hS hE (runs_plain rfl) (Gives.p hE rfl) rfl ?_; clear hE a; intro a hE
   refine WL.nil ?_
   subst hK56
   exact ⟨false, hq51, hE.pick _ ⟨rfl, trivial⟩, hS⟩
 ·clear hE hS a w; rintro a w ⟨q55, rfl, hE, hS⟩
  refine W.ret ?_
  refine finG (fn := Try.f45) (rs := [.tmp 6]) (vs := [_]) hE rfl ⟨rfl, trivial⟩ ?_
  subst hr
  exact ⟨rfl, hS⟩
set_option maxHeartbeats 8000000 in
theorem Fishref2TasksFault_ok  {w : World} {s : Sg} {R : List HP} {x0 : List FleetTask} {a0 : Option Addr} {c0 : Nat} (hS : St w s (R)) (h0 : Sl 6 RFleetTask s a0 c0 x0) {r : Int} (hr : Fishref2TasksFault x0 = r) :
  Calls Try.prog 15 [.slice a0 x0.length c0].toArray w (fun e w => e = .returned (.int .i64 r) ∧ St w s (R)) := by
 refine enter Try.func15 rfl rfl rfl fun a hE => ?_
 rw [Fishref2TasksFault] at hr
 refine W.seq (W.region ?_)
 refine WL.vS hS hE (runs_plain rfl) (Gives.p hE rfl) rfl ?_; clear hE a; intro a hE
 refine WL.nil ?_
 refine W.seq ?_
 refine W.seq (W.region ?_)
 refine WL.vS hS hE (runs_plain rfl) (Gives.p hE rfl) rfl ?_; clear hE a; intro a hE
 refine WL.vS hS hE (runs_plain rfl) (Gives.len hE rfl sl32) rfl ?_; clear hE a; intro a hE
 refine WL.vS hS hE (runs_plain rfl) (Gives.p hE rfl) rfl ?_; clear hE a; intro a hE
 refine WL.nil ?_
 refine W.cond hE rfl (fun hc51 => ?_) (fun hc51 => ?_)
 ·replace hr := iteT hc51 hr
  refine W.seq (W.region ?_)
  refine WL.vS hS hE (runs_plain rfl) (Gives.p hE rfl) rfl ?_; clear hE a; intro a hE
  refine WL.nil ?_
  refine W.ret ?_
  refine finG (fn := Try.f15) (rs := [.tmp 2]) (vs := [_]) hE rfl ⟨rfl, trivial⟩ ?_
  subst hr
  exact ⟨rfl, hS⟩
 ·replace hr := iteF hc51 hr
  refine W.skip ?_
  refine W.seq ?_
  refine W.seq (W.region ?_)
  refine WL.vS hS hE (runs_plain rfl) (Gives.p hE rfl) rfl ?_; clear hE a; intro a hE
  refine WL.vS hS hE (runs_plain rfl) (Gives.len hE rfl sl32) rfl ?_; clear hE a; intro a hE
  refine WL.vS hS hE (runs_plain rfl) (Gives.p hE rfl) rfl ?_; clear hE a; intro a hE
  refine WL.nil ?_
  obtain ⟨q53, hq52, hr⟩ := bndS hr
  refine W.cut (fun a w => (.next ()) = q53 ∧ Rep a 52 [] ∧ St w s (R)) ?_ ?_
  ·refine W.block ?_
   refine W.loop (fun m a w => ∃ (rest56 : List FleetTask) (k54 : Nat), rest56.length = m ∧ x0.drop k54 = rest56 ∧ Fishref2TasksFault.loop1 rest56 = q53 ∧ Rep a 52 [(8, .slice a0 x0.length c0), (9, .int .i64 ((x0).length : Int)), (10, .int .i64 ((k54 : Nat) : Int))] ∧ St w s (R)) (m := x0.length) ⟨x0, 0, rfl, rfl, hq52, hE.pick _ ⟨rfl, rfl, rfl, trivial⟩, hS⟩ ?_
   clear hE hS a w hq52; rintro m60 a w ⟨rest56, k54, rfl, hd57, hq52, hE, hS⟩
   refine W.gen fun K63 hK63 => ?_
   rcases rest56 with _ | ⟨x55, rest56⟩
   ·have hlt58 := drop_nil hd57
    refine W.seq (W.region ?_)
    refine WL.vS hS hE (runs_plain rfl) (Gives.p hE rfl) rfl ?_; clear hE a; intro a hE
    refine WL.nil ?_
    refine W.seq ?_
    refine W.condF hE rfl (decide_eq_false (by omega)) ?_
    subst hK63
    refine W.exit rfl ?_
    exact ⟨hq52, hE.pick _ trivial, hS⟩
   ·obtain ⟨hlt58, hx59, hd57⟩ := drop_cons hd57
    rw [Fishref2TasksFault.loop1] at hq52
    refine W.seq (W.region ?_)
    refine WL.vS hS hE (runs_plain rfl) (Gives.p hE rfl) rfl ?_; clear hE a; intro a hE
    refine WL.nil ?_
    refine W.seq ?_
    refine W.condT hE rfl (decide_eq_true (by omega)) ?_
    refine W.skip ?_
    refine W.seq ?_
    refine W.block ?_
    refine W.seq (W.region ?_)
    obtain ⟨cs64, hl65, hR66, hat67⟩ := h0.at hx59
    subst hR66
    refine WL.vS hS hE (runs_plain rfl) (Gives.idx hE k54 rfl rfl sl32 rfl hlt58 (h0.aok hlt58)) rfl ?_; clear hE a; intro a hE
    refine WL.vS hS hE (runs_plain rfl) (Gives.loadA hE rfl (fun w h => hat67 w _ h) ty78) rfl ?_; clear hE a; intro a hE
    refine WL.alloc hE hS (runs_plain rfl) zr78 rfl ?_; clear hE hS a w; intro b68 a w hE hS
    refine WL.storeI hE hS 0 rfl (FleetTask.cells x55) (runs_plain rfl) rfl rfl rfl ty78 rfl rfl rfl rfl ?_; clear hE hS a w; intro a w hE hS
    refine WL.nil ?_
    refine W.seq ?_
    refine W.seq ?_
    obtain ⟨q70, hq69, hq52⟩ := bndS hq52
    refine W.cut (fun a w => ∃ (q73 : Bool), q73 = q70 ∧ Rep a 52 [(4, .pointer (some ⟨b68, 0, none⟩)), (8, .slice a0 x0.length c0), (9, .int .i64 ((x0).length : Int)), (10, .int .i64 ((k54 : Nat) : Int)), (35, .bool q73)] ∧ St w s (pt b68 (.cells (FleetTask.cells x55).toArray 78 (0, 0)) :: R)) ?_ ?_
    ·refine W.gen fun K74 hK74 => ?_
     refine W.region ?_
     refine WL.vS hS hE (runs_plain rfl) (Gives.fld hE rfl fl78_0) rfl ?_; clear hE a; intro a hE
     refine WL.vS hS hE (runs_plain rfl) (Gives.loadB hE 0 rfl rfl rfl ty3) rfl ?_; clear hE a; intro a hE
     refine WL.fnq hE (Fishref2within_ok hS  rfl (r := Fishref2within x55.From 0 11)) (runs_plain rfl) bd45 rfl rfl rfl ?_
     clear hE hS; rintro e w ⟨rfl, hS⟩; refine ⟨_, rfl, ?_⟩; clear a; intro a hE
     refine WL.vS hS hE (runs_plain rfl) (Gives.p hE rfl) rfl ?_; clear hE a; intro a hE
     refine WL.vS hS hE (runs_plain rfl) (Gives.p hE rfl) rfl ?_; clear hE a; intro a hE
     rcases Bool.eq_false_or_eq_true (!(Fishref2within x55.From 0 11)) with hg75 | hg75
     ·replace hq69 := iteT hg75 hq69
      refine WL.no hE (runs_not hE rfl rfl rfl (by rw [hg75]; decide)) rfl ?_; clear hE a; intro a hE
      refine WL.no hE (runs_not hE rfl rfl rfl (by rw [hg75]; decide)) rfl ?_; clear hE a; intro a hE
      refine WL.no hE (runs_not hE rfl rfl rfl (by rw [hg75]; decide)) rfl ?_; clear hE a; intro a hE
      refine WL.no hE (runs_not hE rfl rfl rfl (by rw [hg75]; decide)) rfl ?_; clear hE a; intro a hE
      refine WL.vS hS hE (runs_plain rfl) (Gives.pickT hE rfl hg75 rfl) rfl ?_; clear hE a; intro a hE
      refine WL.vS hS hE (runs_plain rfl) (Gives.p hE rfl) rfl ?_; clear hE a; intro a hE
      refine WL.no hE (runs_not hE rfl rfl rfl (by decide)) rfl ?_; clear hE a; intro a hE
      refine WL.no hE (runs_not hE rfl rfl rfl (by decide)) rfl ?_; clear hE a; intro a hE
      refine WL.no hE (runs_not hE rfl rfl rfl (by decide)) rfl ?_; clear hE a; intro a hE
      refine WL.no hE (runs_not hE rfl rfl rfl (by decide)) rfl ?_; clear hE a; intro a hE
      refine WL.vS hS hE (runs_plain rfl) (Gives.pickT hE rfl rfl rfl) rfl ?_; clear hE a; intro a hE
      refine WL.vS hS hE (runs_plain rfl) (Gives.p hE rfl) rfl ?_; clear hE a; intro a hE
      refine WL.no hE (runs_not hE rfl rfl rfl (by decide)) rfl ?_; clear hE a; intro a hE
      refine WL.no hE (runs_not hE rfl rfl rfl (by decide)) rfl ?_; clear hE a; intro a hE
      refine WL.no hE (runs_not hE rfl rfl rfl (by decide)) rfl ?_; clear hE a; intro a hE
      refine WL.no hE (runs_not hE rfl rfl rfl (by decide)) rfl ?_; clear hE a; intro a hE
      refine WL.vS hS hE (runs_plain rfl) (Gives.pickT hE rfl rfl rfl) rfl ?_; clear hE a; intro a hE
      refine WL.nil ?_
      subst hK74
      exact ⟨true, hq69, hE.pick _ ⟨rfl, rfl, rfl, rfl, rfl, trivial⟩, hS⟩
     ·replace hq69 := iteF hg75 hq69
      refine WL.vS hS hE (runs_if hE rfl rfl rfl hg75) (Gives.fld hE rfl fl78_1) rfl ?_; clear hE a; intro a hE
      refine WL.vS hS hE (runs_if hE rfl rfl rfl hg75) (Gives.loadB hE 0 rfl rfl rfl ty3) rfl ?_; clear hE a; intro a hE
      refine WL.fnq hE (Fishref2within_ok hS  rfl (r := Fishref2within x55.To 0 11)) (runs_if hE rfl rfl rfl hg75) bd45 rfl rfl rfl ?_
      clear hE hS; rintro e w ⟨rfl, hS⟩; refine ⟨_, rfl, ?_⟩; clear a; intro a hE
      refine WL.vS hS hE (runs_if hE rfl rfl rfl hg75) (Gives.p hE rfl) rfl ?_; clear hE a; intro a hE
      refine WL.vS hS hE (runs_plain rfl) (Gives.pickF hE rfl hg75 rfl) rfl ?_; clear hE a; intro a hE
      refine WL.vS hS hE (runs_plain rfl) (Gives.p hE rfl) rfl ?_; clear hE a; intro a hE
      rcases Bool.eq_false_or_eq_true (!(Fishref2within x55.To 0 11)) with hg76 | hg76
      ·replace hq69 := iteT hg76 hq69
       refine WL.no hE (runs_not hE rfl rfl rfl (by rw [hg76]; decide)) rfl ?_; clear hE a; intro a hE
       refine WL.no hE (runs_not hE rfl rfl rfl (by rw [hg76]; decide)) rfl ?_; clear hE a; intro a hE
       refine WL.no hE (runs_not hE rfl rfl rfl (by rw [hg76]; decide)) rfl ?_; clear hE a; intro a hE
       refine WL.no hE (runs_not hE rfl rfl rfl (by rw [hg76]; decide)) rfl ?_; clear hE a; intro a hE
       refine WL.vS hS hE (runs_plain rfl) (Gives.pickT hE rfl hg76 rfl) rfl ?_; clear hE a; intro a hE
       refine WL.vS hS hE (runs_plain rfl) (Gives.p hE rfl) rfl ?_; clear hE a; intro a hE
       refine WL.no hE (runs_not hE rfl rfl rfl (by decide)) rfl ?_; clear hE a; intro a hE
       refine WL.no hE (runs_not hE rfl rfl rfl (by decide)) rfl ?_; clear hE a; intro a hE
       refine WL.no hE (runs_not hE rfl rfl rfl (by decide)) rfl ?_; clear hE a; intro a hE
       refine WL.no hE (runs_not hE rfl rfl rfl (by decide)) rfl ?_; clear hE a; intro a hE
       refine WL.vS hS hE (runs_plain rfl) (Gives.pickT hE rfl rfl rfl) rfl ?_; clear hE a; intro a hE
       refine WL.nil ?_
       subst hK74
       exact ⟨true, hq69, hE.pick _ ⟨rfl, rfl, rfl, rfl, rfl, trivial⟩, hS⟩
      ·replace hq69 := iteF hg76 hq69
       refine WL.vS hS hE (runs_if hE rfl rfl rfl hg76) (Gives.fld hE rfl fl78_2) rfl ?_; clear hE a; intro a hE
       refine WL.vS hS hE (runs_if hE rfl rfl rfl hg76) (Gives.loadB hE 0 rfl rfl rfl ty3) rfl ?_; clear hE a; intro a hE
       refine WL.fnq hE (Fishref2within_ok hS  rfl (r := Fishref2within x55.Dep 0 28800)) (runs_if hE rfl rfl rfl hg76) bd45 rfl rfl rfl ?_
       clear hE hS; rintro e w ⟨rfl, hS⟩; refine ⟨_, rfl, ?_⟩; clear a; intro a hE
       refine WL.vS hS hE (runs_if hE rfl rfl rfl hg76) (Gives.p hE rfl) rfl ?_; clear hE a; intro a hE
       refine WL.vS hS hE (runs_plain rfl) (Gives.pickF hE rfl hg76 rfl) rfl ?_; clear hE a; intro a hE
       refine WL.vS hS hE (runs_plain rfl) (Gives.p hE rfl) rfl ?_; clear hE a; intro a hE
       rcases Bool.eq_false_or_eq_true (!(Fishref2within x55.Dep 0 28800)) with hg77 | hg77
       ·replace hq69 := iteT hg77 hq69
        refine WL.no hE (runs_not hE rfl rfl rfl (by rw [hg77]; decide)) rfl ?_; clear hE a; intro a hE
        refine WL.no hE (runs_not hE rfl rfl rfl (by rw [hg77]; decide)) rfl ?_; clear hE a; intro a hE
        refine WL.no hE (runs_not hE rfl rfl rfl (by rw [hg77]; decide)) rfl ?_; clear hE a; intro a hE
        refine WL.no hE (runs_not hE rfl rfl rfl (by rw [hg77]; decide)) rfl ?_; clear hE a; intro a hE
        refine WL.vS hS hE (runs_plain rfl) (Gives.pickT hE rfl hg77 rfl) rfl ?_; clear hE a; intro a hE
        refine WL.nil ?_
        subst hK74
        exact ⟨true, hq69, hE.pick _ ⟨rfl, rfl, rfl, rfl, rfl, trivial⟩, hS⟩
       ·replace hq69 := iteF hg77 hq69
        refine WL.vS hS hE (runs_if hE rfl rfl rfl hg77) (Gives.fld hE rfl fl78_3) rfl ?_; clear hE a; intro a hE
        refine WL.vS hS hE (runs_if hE rfl rfl rfl hg77) (Gives.loadB hE 0 rfl rfl rfl ty3) rfl ?_; clear hE a; intro a hE
        refine WL.fnq hE (Fishref2within_ok hS  rfl (r := Fishref2within x55.Arr 0 28800)) (runs_if hE rfl rfl rfl hg77) bd45 rfl rfl rfl ?_
        clear hE hS; rintro e w ⟨rfl, hS⟩; refine ⟨_, rfl, ?_⟩; clear a; intro a hE
        refine WL.vS hS hE (runs_if hE rfl rfl rfl hg77) (Gives.p hE rfl) rfl ?_; clear hE a; intro a hE
        refine WL.vS hS hE (runs_plain rfl) (Gives.pickF hE rfl hg77 rfl) rfl ?_; clear hE a; intro a hE
        refine WL.nil ?_
        subst hK74
        exact ⟨!(Fishref2within x55.Arr 0 28800), hq69, hE.pick _ ⟨rfl, rfl, rfl, rfl, rfl, trivial⟩, hS⟩
    ·clear hE hS a w; rintro a w ⟨q73, rfl, hE, hS⟩
     refine W.cond hE rfl (fun hc78 => ?_) (fun hc78 => ?_)
     ·replace hq52 := iteT hc78 hq52
      refine W.seq (W.region ?_)
      refine WL.vS hS hE (runs_plain rfl) (Gives.p hE rfl) rfl ?_; clear hE a; intro a hE
      refine WL.nil ?_
      refine W.ret ?_
      subst hK63
      rw [← hq52] at hr
      dsimp only at hr
      refine finG (fn := Try.f15) (rs := [.tmp 2]) (vs := [_]) hE rfl ⟨rfl, trivial⟩ ?_
      subst hr
      replace hS := hS.tail
      exact ⟨rfl, hS⟩
     ·replace hq52 := iteF hc78 hq52
      refine W.skip ?_
      refine W.seq ?_
      refine W.seq (W.region ?_)
      refine WL.vS hS hE (runs_plain rfl) (Gives.fld hE rfl fl78_3) rfl ?_; clear hE a; intro a hE
      refine WL.vS hS hE (runs_plain rfl) (Gives.loadB hE 0 rfl rfl rfl ty3) rfl ?_; clear hE a; intro a hE
      refine WL.vS hS hE (runs_plain rfl) (Gives.fld hE rfl fl78_2) rfl ?_; clear hE a; intro a hE
      refine WL.vS hS hE (runs_plain rfl) (Gives.loadB hE 0 rfl rfl rfl ty3) rfl ?_; clear hE a; intro a hE
      refine WL.vS hS hE (runs_plain rfl) (Gives.p hE rfl) rfl ?_; clear hE a; intro a hE
      refine WL.nil ?_
      refine W.cond hE rfl (fun hc79 => ?_) (fun hc79 => ?_)
      ·replace hq52 := iteT hc79 hq52
       refine W.seq (W.region ?_)
       refine WL.vS hS hE (runs_plain rfl) (Gives.p hE rfl) rfl ?_; clear hE a; intro a hE
       refine WL.nil ?_
       refine W.ret ?_
       subst hK63
       rw [← hq52] at hr
       dsimp only at hr
       refine finG (fn := Try.f15) (rs := [.tmp 2]) (vs := [_]) hE rfl ⟨rfl, trivial⟩ ?_
       subst hr
       replace hS := hS.tail
       exact ⟨rfl, hS⟩
      ·replace hq52 := iteF hc79 hq52
       refine W.skip ?_
       refine W.seq ?_
       obtain ⟨q81, hq80, hq52⟩ := bndS hq52
       refine W.cut (fun a w => ∃ (q84 : Bool), q84 = q81 ∧ Rep a 52 [(8, .slice a0 x0.length c0), (9, .int .i64 ((x0).length : Int)), (10, .int .i64 ((k54 : Nat) : Int)), (50, .bool q84)] ∧ St w s (pt b68 (.cells (FleetTask.cells x55).toArray 78 (0, 0)) :: R)) ?_ ?_
       ·refine W.gen fun K85 hK85 => ?_
        refine W.region ?_
        refine WL.vS hS hE (runs_plain rfl) (Gives.fld hE rfl fl78_4) rfl ?_; clear hE a; intro a hE
        refine WL.vS hS hE (runs_plain rfl) (Gives.loadB hE 0 rfl rfl rfl ty3) rfl ?_; clear hE a; intro a hE
        refine WL.fnq hE (Fishref2within_ok hS  rfl (r := Fishref2within x55.Km 0 10000)) (runs_plain rfl) bd45 rfl rfl rfl ?_
        clear hE hS; rintro e w ⟨rfl, hS⟩; refine ⟨_, rfl, ?_⟩; clear a; intro a hE
        refine WL.vS hS hE (runs_plain rfl) (Gives.p hE rfl) rfl ?_; clear hE a; intro a hE
        refine WL.vS hS hE (runs_plain rfl) (Gives.p hE rfl) rfl ?_; clear hE a; intro a hE
        rcases Bool.eq_false_or_eq_true (!(Fishref2within x55.Km 0 10000)) with hg86 | hg86
        ·replace hq80 := iteT hg86 hq80
         refine WL.no hE (runs_not hE rfl rfl rfl (by rw [hg86]; decide)) rfl ?_; clear hE a; intro a hE
         refine WL.no hE (runs_not hE rfl rfl rfl (by rw [hg86]; decide)) rfl ?_; clear hE a; intro a hE
         refine WL.no hE (runs_not hE rfl rfl rfl (by rw [hg86]; decide)) rfl ?_; clear hE a; intro a hE
         refine WL.no hE (runs_not hE rfl rfl rfl (by rw [hg86]; decide)) rfl ?_; clear hE a; intro a hE
         refine WL.vS hS hE (runs_plain rfl) (Gives.pickT hE rfl hg86 rfl) rfl ?_; clear hE a; intro a hE
         refine WL.nil ?_
         subst hK85
         exact ⟨true, hq80, hE.pick _ ⟨rfl, rfl, rfl, rfl, trivial⟩, hS⟩
        ·replace hq80 := iteF hg86 hq80
         refine WL.vS hS hE (runs_if hE rfl rfl rfl hg86) (Gives.fld hE rfl fl78_5) rfl ?_; clear hE a; intro a hE
         refine WL.vS hS hE (runs_if hE rfl rfl rfl hg86) (Gives.loadB hE 0 rfl rfl rfl ty3) rfl ?_; clear hE a; intro a hE
         refine WL.fnq hE (Fishref2within_ok hS  rfl (r := Fishref2within x55.Units 1 4)) (runs_if hE rfl rfl rfl hg86) bd45 rfl rfl rfl ?_
         clear hE hS; rintro e w ⟨rfl, hS⟩; refine ⟨_, rfl, ?_⟩; clear a; intro a hE
         refine WL.vS hS hE (runs_if hE rfl rfl rfl hg86) (Gives.p hE rfl) rfl ?_; clear hE a; intro a hE
         refine WL.vS hS hE (runs_plain rfl) (Gives.pickF hE rfl hg86 rfl) rfl ?_; clear hE a; intro a hE
         refine WL.nil ?_
         subst hK85
         exact ⟨!(Fishref2within x55.Units 1 4), hq80, hE.pick _ ⟨rfl, rfl, rfl, rfl, trivial⟩, hS⟩
       ·clear hE hS a w; rintro a w ⟨q84, rfl, hE, hS⟩
        refine W.cond hE rfl (fun hc87 => ?_) (fun hc87 => ?_)
        ·replace hq52 := iteT hc87 hq52
         refine W.seq (W.region ?_)
         refine WL.vS hS hE (runs_plain rfl) (Gives.p hE rfl) rfl ?_; clear hE a; intro a hE
         refine WL.nil ?_
         refine W.ret ?_
         subst hK63
         rw [← hq52] at hr
         dsimp only at hr
         refine finG (fn := Try.f15) (rs := [.tmp 2]) (vs := [_]) hE rfl ⟨rfl, trivial⟩ ?_
         subst hr
         replace hS := hS.tail
         exact ⟨rfl, hS⟩
        ·replace hq52 := iteF hc87 hq52
         refine W.skip ?_
         refine W.region ?_
         refine WL.vS hS hE (runs_plain rfl) (Gives.inc hE rfl (by have := h0.small; omega)) rfl ?_; clear hE a; intro a hE
         refine WL.vS hS hE (runs_plain rfl) (Gives.p hE rfl) rfl ?_; clear hE a; intro a hE
         refine WL.nil ?_
         replace hS := hS.tail
         subst hK63
         exact ⟨rest56.length, Nat.lt_succ_self _, rest56, k54 + 1, rfl, hd57, hq52, hE.pick _ ⟨rfl, rfl, rfl, trivial⟩, hS⟩
  ·clear hE hS a w; rintro a w ⟨rfl, hE, hS⟩
   dsimp only at hr
   refine W.seq (W.region ?_)
   refine WL.vS hS hE (runs_plain rfl) (Gives.p hE rfl) rfl ?_; clear hE a; intro a hE
   refine WL.nil ?_
   refine W.ret ?_
   refine finG (fn := Try.f15) (rs := [.tmp 2]) (vs := [_]) hE rfl ⟨rfl, trivial⟩ ?_
   subst hr
   exact ⟨rfl, hS⟩
set_option maxHeartbeats 8000000 in
theorem Fishref2TurnFault_ok  {w : World} {s : Sg} {R : List HP} {x0 : List FleetTask} {a0 : Option Addr} {c0 : Nat} {x1 : Int} (hS : St w s (R)) (h0 : Sl 6 RFleetTask s a0 c0 x0) {r : Int} (hr : Fishref2TurnFault x0 x1 = r) :
  Calls Try.prog 64 [.slice a0 x0.length c0, .int .i64 x1].toArray w (fun e w => e = .returned (.int .i64 r) ∧ St w s (R)) := by
 refine enter Try.func64 rfl rfl rfl fun a hE => ?_
 rw [Fishref2TurnFault] at hr
 refine W.seq (W.region ?_)
 refine WL.vS hS hE (runs_plain rfl) (Gives.p hE rfl) rfl ?_; clear hE a; intro a hE
 refine WL.nil ?_
 refine W.seq ?_
 refine W.seq (W.region ?_)
 refine WL.vS hS hE (runs_plain rfl) (Gives.p hE rfl) rfl ?_; clear hE a; intro a hE
 refine WL.fnq hE (Fishref2TasksFault_ok hS h0 rfl (r := Fishref2TasksFault x0)) (runs_plain rfl) bd15 rfl rfl rfl ?_
 clear hE hS; rintro e w ⟨rfl, hS⟩; refine ⟨_, rfl, ?_⟩; clear a; intro a hE
 refine WL.vS hS hE (runs_plain rfl) (Gives.p hE rfl) rfl ?_; clear hE a; intro a hE
 refine WL.nil ?_
 refine W.seq (W.region ?_)
 refine WL.vS hS hE (runs_plain rfl) (Gives.p hE rfl) rfl ?_; clear hE a; intro a hE
 refine WL.vS hS hE (runs_plain rfl) (Gives.p hE rfl) rfl ?_; clear hE a; intro a hE
 refine WL.nil ?_
 refine W.cond hE rfl (fun hc51 => ?_) (fun hc51 => ?_)
 ·replace hr := iteT hc51 hr
  refine W.seq (W.region ?_)
  refine WL.vS hS hE (runs_plain rfl) (Gives.p hE rfl) rfl ?_; clear hE a; intro a hE
  refine WL.vS hS hE (runs_plain rfl) (Gives.p hE rfl) rfl ?_; clear hE a; intro a hE
  refine WL.nil ?_
  refine W.ret ?_
  refine finG (fn := Try.f64) (rs := [.tmp 4]) (vs := [_]) hE rfl ⟨rfl, trivial⟩ ?_
  subst hr
  exact ⟨rfl, hS⟩
 ·replace hr := iteF hc51 hr
  refine W.skip ?_
  refine W.seq ?_
  refine W.seq (W.region ?_)
  refine WL.vS hS hE (runs_plain rfl) (Gives.p hE rfl) rfl ?_; clear hE a; intro a hE
  refine WL.fnq hE (Fishref2within_ok hS  rfl (r := Fishref2within x1 0 28800)) (runs_plain rfl) bd45 rfl rfl rfl ?_
  clear hE hS; rintro e w ⟨rfl, hS⟩; refine ⟨_, rfl, ?_⟩; clear a; intro a hE
  refine WL.vS hS hE (runs_plain rfl) (Gives.p hE rfl) rfl ?_; clear hE a; intro a hE
  refine WL.nil ?_
  refine W.cond hE rfl (fun hc52 => ?_) (fun hc52 => ?_)
  ·replace hr := iteT hc52 hr
   refine W.seq (W.region ?_)
   refine WL.vS hS hE (runs_plain rfl) (Gives.p hE rfl) rfl ?_; clear hE a; intro a hE
   refine WL.nil ?_
   refine W.ret ?_
   refine finG (fn := Try.f64) (rs := [.tmp 4]) (vs := [_]) hE rfl ⟨rfl, trivial⟩ ?_
   subst hr
   exact ⟨rfl, hS⟩
  ·replace hr := iteF hc52 hr
   refine W.skip ?_
   refine W.seq (W.region ?_)
   refine WL.vS hS hE (runs_plain rfl) (Gives.p hE rfl) rfl ?_; clear hE a; intro a hE
   refine WL.nil ?_
   refine W.ret ?_
   refine finG (fn := Try.f64) (rs := [.tmp 4]) (vs := [_]) hE rfl ⟨rfl, trivial⟩ ?_
   subst hr
   exact ⟨rfl, hS⟩
set_option maxHeartbeats 8000000 in
theorem Fishref2SetsFault_ok  {w : World} {s : Sg} {R : List HP} {x0 : List FleetSet} {a0 : Option Addr} {c0 : Nat} {x1 : FleetShop} {x2 : Int} (hS : St w s (R)) (h0 : Sl 2 RFleetSet s a0 c0 x0) {r : Int} (hr : Fishref2SetsFault x0 x1 x2 = r) :
  Calls Try.prog 58 [.slice a0 x0.length c0, .agg (FleetShop.cells x1).toArray, .int .i64 x2].toArray w (fun e w => e = .returned (.int .i64 r) ∧ St w s (R)) := by
 refine enter Try.func58 rfl rfl rfl fun a hE => ?_
 rw [Fishref2SetsFault] at hr
 refine W.seq (W.region ?_)
 refine WL.box hE hS (runs_plain rfl) rfl rfl rfl ?_; clear hE hS a w; intro b51 a w hE hS
 refine WL.vS hS hE (runs_plain rfl) (Gives.p hE rfl) rfl ?_; clear hE a; intro a hE
 refine WL.nil ?_
 refine W.seq ?_
 refine W.seq (W.region ?_)
 refine WL.vS hS hE (runs_plain rfl) (Gives.p hE rfl) rfl ?_; clear hE a; intro a hE
 refine WL.vS hS hE (runs_plain rfl) (Gives.len hE rfl sl33) rfl ?_; clear hE a; intro a hE
 refine WL.vS hS hE (runs_plain rfl) (Gives.p hE rfl) rfl ?_; clear hE a; intro a hE
 refine WL.vS hS hE (runs_plain rfl) (Gives.p hE rfl) rfl ?_; clear hE a; intro a hE
 refine WL.nil ?_
 refine W.cond hE rfl (fun hc52 => ?_) (fun hc52 => ?_)
 ·replace hr := iteT hc52 hr
  refine W.seq (W.region ?_)
  refine WL.vS hS hE (runs_plain rfl) (Gives.p hE rfl) rfl ?_; clear hE a; intro a hE
  refine WL.nil ?_
  refine W.ret ?_
  refine finG (fn := Try.f58) (rs := [.tmp 6]) (vs := [_]) hE rfl ⟨rfl, trivial⟩ ?_
  subst hr
  replace hS := hS.tail
  exact ⟨rfl, hS⟩
 ·replace hr := iteF hc52 hr
  refine W.skip ?_
  refine W.seq ?_
  refine W.seq (W.region ?_)
  refine WL.vS hS hE (runs_plain rfl) (Gives.p hE rfl) rfl ?_; clear hE a; intro a hE
  refine WL.vS hS hE (runs_plain rfl) (Gives.len hE rfl sl33) rfl ?_; clear hE a; intro a hE
  refine WL.vS hS hE (runs_plain rfl) (Gives.p hE rfl) rfl ?_; clear hE a; intro a hE
  refine WL.nil ?_
  obtain ⟨q54, hq53, hr⟩ := bndS hr
  refine W.cut (fun a w => (.next ()) = q54 ∧ Rep a 48 [(4, .pointer (some ⟨b51, 0, none⟩))] ∧ St w s (pt b51 (.cells (FleetShop.cells x1).toArray 35 (0, 0)) :: R)) ?_ ?_
  ·refine W.block ?_
   refine W.loop (fun m a w => ∃ (rest57 : List FleetSet) (k55 : Nat), rest57.length = m ∧ x0.drop k55 = rest57 ∧ Fishref2SetsFault.loop1 x1 rest57 = q54 ∧ Rep a 48 [(4, .pointer (some ⟨b51, 0, none⟩)), (13, .slice a0 x0.length c0), (14, .int .i64 ((x0).length : Int)), (15, .int .i64 ((k55 : Nat) : Int))] ∧ St w s (pt b51 (.cells (FleetShop.cells x1).toArray 35 (0, 0)) :: R)) (m := x0.length) ⟨x0, 0, rfl, rfl, hq53, hE.pick _ ⟨rfl, rfl, rfl, rfl, trivial⟩, hS⟩ ?_
   clear hE hS a w hq53; rintro m61 a w ⟨rest57, k55, rfl, hd58, hq53, hE, hS⟩
   refine W.gen fun K64 hK64 => ?_
   rcases rest57 with _ | ⟨x56, rest57⟩
   ·have hlt59 := drop_nil hd58
    refine W.seq (W.region ?_)
    refine WL.vS hS hE (runs_plain rfl) (Gives.p hE rfl) rfl ?_; clear hE a; intro a hE
    refine WL.nil ?_
    refine W.seq ?_
    refine W.condF hE rfl (decide_eq_false (by omega)) ?_
    subst hK64
    refine W.exit rfl ?_
    exact ⟨hq53, hE.pick _ ⟨rfl, trivial⟩, hS⟩
   ·obtain ⟨hlt59, hx60, hd58⟩ := drop_cons hd58
    rw [Fishref2SetsFault.loop1] at hq53
    refine W.seq (W.region ?_)
    refine WL.vS hS hE (runs_plain rfl) (Gives.p hE rfl) rfl ?_; clear hE a; intro a hE
    refine WL.nil ?_
    refine W.seq ?_
    refine W.condT hE rfl (decide_eq_true (by omega)) ?_
    refine W.skip ?_
    refine W.seq ?_
    refine W.block ?_
    refine W.seq (W.region ?_)
    obtain ⟨cs65, hl66, hR67, hat68⟩ := h0.at hx60
    subst hR67
    refine WL.vS hS hE (runs_plain rfl) (Gives.idx hE k55 rfl rfl sl33 rfl hlt59 (h0.aok hlt59)) rfl ?_; clear hE a; intro a hE
    refine WL.vS hS hE (runs_plain rfl) (Gives.loadA hE rfl (fun w h => hat68 w _ h) ty84) rfl ?_; clear hE a; intro a hE
    refine WL.alloc hE hS (runs_plain rfl) zr84 rfl ?_; clear hE hS a w; intro b69 a w hE hS
    refine WL.storeI hE hS 0 rfl (FleetSet.cells x56) (runs_plain rfl) rfl rfl rfl ty84 rfl rfl rfl rfl ?_; clear hE hS a w; intro a w hE hS
    refine WL.nil ?_
    refine W.seq ?_
    obtain ⟨q71, hq70, hq53⟩ := bndS hq53
    refine W.cut (fun a w => ∃ (q74 : Bool), q74 = q71 ∧ Rep a 48 [(4, .pointer (some ⟨b51, 0, none⟩)), (13, .slice a0 x0.length c0), (14, .int .i64 ((x0).length : Int)), (15, .int .i64 ((k55 : Nat) : Int)), (30, .bool q74)] ∧ St w s (pt b69 (.cells (FleetSet.cells x56).toArray 84 (0, 0)) :: pt b51 (.cells (FleetShop.cells x1).toArray 35 (0, 0)) :: R)) ?_ ?_
    ·refine W.gen fun K75 hK75 => ?_
     refine W.region ?_
     refine WL.vS hS hE (runs_plain rfl) (Gives.fld hE rfl fl84_0) rfl ?_; clear hE a; intro a hE
     refine WL.vS hS hE (runs_plain rfl) (Gives.loadB hE 0 rfl rfl rfl ty3) rfl ?_; clear hE a; intro a hE
     refine WL.fnq hE (Fishref2within_ok hS  rfl (r := Fishref2within x56.Home 0 11)) (runs_plain rfl) bd45 rfl rfl rfl ?_
     clear hE hS; rintro e w ⟨rfl, hS⟩; refine ⟨_, rfl, ?_⟩; clear a; intro a hE
     refine WL.vS hS hE (runs_plain rfl) (Gives.p hE rfl) rfl ?_; clear hE a; intro a hE
     refine WL.vS hS hE (runs_plain rfl) (Gives.p hE rfl) rfl ?_; clear hE a; intro a hE
     rcases Bool.eq_false_or_eq_true (!(Fishref2within x56.Home 0 11)) with hg76 | hg76
     ·replace hq70 := iteT hg76 hq70
      refine WL.no hE (runs_not hE rfl rfl rfl (by rw [hg76]; decide)) rfl ?_; clear hE a; intro a hE
      refine WL.no hE (runs_not hE rfl rfl rfl (by rw [hg76]; decide)) rfl ?_; clear hE a; intro a hE
      refine WL.no hE (runs_not hE rfl rfl rfl (by rw [hg76]; decide)) rfl ?_; clear hE a; intro a hE
      refine WL.no hE (runs_not hE rfl rfl rfl (by rw [hg76]; decide)) rfl ?_; clear hE a; intro a hE
      refine WL.no hE (runs_not hE rfl rfl rfl (by rw [hg76]; decide)) rfl ?_; clear hE a; intro a hE
      refine WL.no hE (runs_not hE rfl rfl rfl (by rw [hg76]; decide)) rfl ?_; clear hE a; intro a hE
      refine WL.vS hS hE (runs_plain rfl) (Gives.pickT hE rfl hg76 rfl) rfl ?_; clear hE a; intro a hE
      refine WL.nil ?_
      subst hK75
      exact ⟨true, hq70, hE.pick _ ⟨rfl, rfl, rfl, rfl, rfl, trivial⟩, hS⟩
     ·replace hq70 := iteF hg76 hq70
      refine WL.vS hS hE (runs_if hE rfl rfl rfl hg76) (Gives.fld hE rfl fl84_1) rfl ?_; clear hE a; intro a hE
      refine WL.vS hS hE (runs_if hE rfl rfl rfl hg76) (Gives.loadB hE 0 rfl rfl rfl ty3) rfl ?_; clear hE a; intro a hE
      refine WL.vS hS hE (runs_if hE rfl rfl rfl hg76) (Gives.fld hE rfl fl35_2) rfl ?_; clear hE a; intro a hE
      refine WL.vS hS hE (runs_if hE rfl rfl rfl hg76) (Gives.loadB hE 1 rfl rfl rfl ty3) rfl ?_; clear hE a; intro a hE
      refine WL.fnq hE (Fishref2within_ok hS  rfl (r := Fishref2within x56.Km 0 x1.Limit)) (runs_if hE rfl rfl rfl hg76) bd45 rfl rfl rfl ?_
      clear hE hS; rintro e w ⟨rfl, hS⟩; refine ⟨_, rfl, ?_⟩; clear a; intro a hE
      refine WL.vS hS hE (runs_if hE rfl rfl rfl hg76) (Gives.p hE rfl) rfl ?_; clear hE a; intro a hE
      refine WL.vS hS hE (runs_plain rfl) (Gives.pickF hE rfl hg76 rfl) rfl ?_; clear hE a; intro a hE
      refine WL.nil ?_
      subst hK75
      exact ⟨!(Fishref2within x56.Km 0 x1.Limit), hq70, hE.pick _ ⟨rfl, rfl, rfl, rfl, rfl, trivial⟩, hS⟩
    ·clear hE hS a w; rintro a w ⟨q74, rfl, hE, hS⟩
     refine W.cond hE rfl (fun hc77 => ?_) (fun hc77 => ?_)
     ·replace hq53 := iteT hc77 hq53
      refine W.seq (W.region ?_)
      refine WL.vS hS hE (runs_plain rfl) (Gives.p hE rfl) rfl ?_; clear hE a; intro a hE
      refine WL.nil ?_
      refine W.ret ?_
      subst hK64
      rw [← hq53] at hr
      dsimp only at hr
      refine finG (fn := Try.f58) (rs := [.tmp 6]) (vs := [_]) hE rfl ⟨rfl, trivial⟩ ?_
      subst hr
      replace hS := hS.tail
      replace hS := hS.tail
      exact ⟨rfl, hS⟩
     ·replace hq53 := iteF hc77 hq53
      refine W.skip ?_
      refine W.region ?_
      refine WL.vS hS hE (runs_plain rfl) (Gives.inc hE rfl (by have := h0.small; omega)) rfl ?_; clear hE a; intro a hE
      refine WL.vS hS hE (runs_plain rfl) (Gives.p hE rfl) rfl ?_; clear hE a; intro a hE
      refine WL.nil ?_
      replace hS := hS.tail
      subst hK64
      exact ⟨rest57.length, Nat.lt_succ_self _, rest57, k55 + 1, rfl, hd58, hq53, hE.pick _ ⟨rfl, rfl, rfl, rfl, trivial⟩, hS⟩
  ·clear hE hS a w; rintro a w ⟨rfl, hE, hS⟩
   dsimp only at hr
   refine W.seq ?_
   refine W.seq ?_
   obtain ⟨q79, hq78, hr⟩ := bndS hr
   refine W.cut (fun a w => ∃ (q82 : Bool), q82 = q79 ∧ Rep a 48 [(47, .bool q82)] ∧ St w s (pt b51 (.cells (FleetShop.cells x1).toArray 35 (0, 0)) :: R)) ?_ ?_
   ·refine W.gen fun K83 hK83 => ?_
    refine W.region ?_
    refine WL.vS hS hE (runs_plain rfl) (Gives.fld hE rfl fl35_0) rfl ?_; clear hE a; intro a hE
    refine WL.vS hS hE (runs_plain rfl) (Gives.loadB hE 0 rfl rfl rfl ty3) rfl ?_; clear hE a; intro a hE
    refine WL.fnq hE (Fishref2within_ok hS  rfl (r := Fishref2within x1.Place 0 11)) (runs_plain rfl) bd45 rfl rfl rfl ?_
    clear hE hS; rintro e w ⟨rfl, hS⟩; refine ⟨_, rfl, ?_⟩; clear a; intro a hE
    refine WL.vS hS hE (runs_plain rfl) (Gives.p hE rfl) rfl ?_; clear hE a; intro a hE
    refine WL.vS hS hE (runs_plain rfl) (Gives.p hE rfl) rfl ?_; clear hE a; intro a hE
    rcases Bool.eq_false_or_eq_true (!(Fishref2within x1.Place 0 11)) with hg84 | hg84
    ·replace hq78 := iteT hg84 hq78
     refine WL.no hE (runs_not hE rfl rfl rfl (by rw [hg84]; decide)) rfl ?_; clear hE a; intro a hE
     refine WL.no hE (runs_not hE rfl rfl rfl (by rw [hg84]; decide)) rfl ?_; clear hE a; intro a hE
     refine WL.no hE (runs_not hE rfl rfl rfl (by rw [hg84]; decide)) rfl ?_; clear hE a; intro a hE
     refine WL.no hE (runs_not hE rfl rfl rfl (by rw [hg84]; decide)) rfl ?_; clear hE a; intro a hE
     refine WL.vS hS hE (runs_plain rfl) (Gives.pickT hE rfl hg84 rfl) rfl ?_; clear hE a; intro a hE
     refine WL.vS hS hE (runs_plain rfl) (Gives.p hE rfl) rfl ?_; clear hE a; intro a hE
     refine WL.no hE (runs_not hE rfl rfl rfl (by decide)) rfl ?_; clear hE a; intro a hE
     refine WL.no hE (runs_not hE rfl rfl rfl (by decide)) rfl ?_; clear hE a; intro a hE
     refine WL.no hE (runs_not hE rfl rfl rfl (by decide)) rfl ?_; clear hE a; intro a hE
     refine WL.no hE (runs_not hE rfl rfl rfl (by decide)) rfl ?_; clear hE a; intro a hE
     refine WL.vS hS hE (runs_plain rfl) (Gives.pickT hE rfl rfl rfl) rfl ?_; clear hE a; intro a hE
     refine WL.nil ?_
     subst hK83
     exact ⟨true, hq78, hE.pick _ ⟨rfl, trivial⟩, hS⟩
    ·replace hq78 := iteF hg84 hq78
     refine WL.vS hS hE (runs_if hE rfl rfl rfl hg84) (Gives.fld hE rfl fl35_1) rfl ?_; clear hE a; intro a hE
     refine WL.vS hS hE (runs_if hE rfl rfl rfl hg84) (Gives.loadB hE 0 rfl rfl rfl ty3) rfl ?_; clear hE a; intro a hE
     refine WL.fnq hE (Fishref2within_ok hS  rfl (r := Fishref2within x1.Long 0 28800)) (runs_if hE rfl rfl rfl hg84) bd45 rfl rfl rfl ?_
     clear hE hS; rintro e w ⟨rfl, hS⟩; refine ⟨_, rfl, ?_⟩; clear a; intro a hE
     refine WL.vS hS hE (runs_if hE rfl rfl rfl hg84) (Gives.p hE rfl) rfl ?_; clear hE a; intro a hE
     refine WL.vS hS hE (runs_plain rfl) (Gives.pickF hE rfl hg84 rfl) rfl ?_; clear hE a; intro a hE
     refine WL.vS hS hE (runs_plain rfl) (Gives.p hE rfl) rfl ?_; clear hE a; intro a hE
     rcases Bool.eq_false_or_eq_true (!(Fishref2within x1.Long 0 28800)) with hg85 | hg85
     ·replace hq78 := iteT hg85 hq78
      refine WL.no hE (runs_not hE rfl rfl rfl (by rw [hg85]; decide)) rfl ?_; clear hE a; intro a hE
      refine WL.no hE (runs_not hE rfl rfl rfl (by rw [hg85]; decide)) rfl ?_; clear hE a; intro a hE
      refine WL.no hE (runs_not hE rfl rfl rfl (by rw [hg85]; decide)) rfl ?_; clear hE a; intro a hE
      refine WL.no hE (runs_not hE rfl rfl rfl (by rw [hg85]; decide)) rfl ?_; clear hE a; intro a hE
      refine WL.vS hS hE (runs_plain rfl) (Gives.pickT hE rfl hg85 rfl) rfl ?_; clear hE a; intro a hE
      refine WL.nil ?_
      subst hK83
      exact ⟨true, hq78, hE.pick _ ⟨rfl, trivial⟩, hS⟩
     ·replace hq78 := iteF hg85 hq78
      refine WL.vS hS hE (runs_if hE rfl rfl rfl hg85) (Gives.fld hE rfl fl35_2) rfl ?_; clear hE a; intro a hE
      refine WL.vS hS hE (runs_if hE rfl rfl rfl hg85) (Gives.loadB hE 0 rfl rfl rfl ty3) rfl ?_; clear hE a; intro a hE
      refine WL.fnq hE (Fishref2within_ok hS  rfl (r := Fishref2within x1.Limit 0 10000)) (runs_if hE rfl rfl rfl hg85) bd45 rfl rfl rfl ?_
      clear hE hS; rintro e w ⟨rfl, hS⟩; refine ⟨_, rfl, ?_⟩; clear a; intro a hE
      refine WL.vS hS hE (runs_if hE rfl rfl rfl hg85) (Gives.p hE rfl) rfl ?_; clear hE a; intro a hE
      refine WL.vS hS hE (runs_plain rfl) (Gives.pickF hE rfl hg85 rfl) rfl ?_; clear hE a; intro a hE
      refine WL.nil ?_
      subst hK83
      exact ⟨!(Fishref2within x1.Limit 0 10000), hq78, hE.pick _ ⟨rfl, trivial⟩, hS⟩
   ·clear hE hS a w; rintro a w ⟨q82, rfl, hE, hS⟩
    refine W.cond hE rfl (fun hc86 => ?_) (fun hc86 => ?_)
    ·replace hr := iteT hc86 hr
     refine W.seq (W.region ?_)
     refine WL.vS hS hE (runs_plain rfl) (Gives.p hE rfl) rfl ?_; clear hE a; intro a hE
     refine WL.nil ?_
     refine W.ret ?_
     refine finG (fn := Try.f58) (rs := [.tmp 6]) (vs := [_]) hE rfl ⟨rfl, trivial⟩ ?_
     subst hr
     replace hS := hS.tail
     exact ⟨rfl, hS⟩
    ·replace hr := iteF hc86 hr
     refine W.skip ?_
     refine W.seq (W.region ?_)
     refine WL.vS hS hE (runs_plain rfl) (Gives.p hE rfl) rfl ?_; clear hE a; intro a hE
     refine WL.nil ?_
     refine W.ret ?_
     refine finG (fn := Try.f58) (rs := [.tmp 6]) (vs := [_]) hE rfl ⟨rfl, trivial⟩ ?_
     subst hr
     replace hS := hS.tail
     exact ⟨rfl, hS⟩
set_option maxHeartbeats 8000000 in
theorem Fishref2inOrder_ok {fu : Nat}  {w : World} {s : Sg} {R : List HP} {x0 : List FleetTask} {a0 : Option Addr} {c0 : Nat} (hS : St w s (R)) (h0 : Sl 6 RFleetTask s a0 c0 x0) {r : (List Int)} (hr : Fishref2inOrder fu x0 = some r) :
  Calls Try.prog 65 [.slice a0 x0.length c0].toArray w (fun e w => ∃ (a0 : Option Addr) (c0 n0 : Nat) (cs0 : List Value), e = .returned (.slice a0 n0 c0) ∧ Ev 1 (RI .i64) s cs0 r ∧ r.length = n0 ∧ St w s (vecC 3 1 a0 c0 n0 cs0 :: R)) := by
 refine enter Try.func65 rfl rfl rfl fun a hE => ?_
 rw [Fishref2inOrder] at hr
 refine W.seq (W.region ?_)
 refine WL.vS hS hE (runs_plain rfl) (Gives.p hE rfl) rfl ?_; clear hE a; intro a hE
 refine WL.nil ?_
 refine W.seq (W.region ?_)
 replace hS := hS.vecNil 3 1
 refine WL.vS hS hE (runs_plain rfl) (Gives.p hE rfl) rfl ?_; clear hE a; intro a hE
 refine WL.nil ?_
 refine W.seq ?_
 refine W.seq (W.region ?_)
 refine WL.vS hS hE (runs_plain rfl) (Gives.p hE rfl) rfl ?_; clear hE a; intro a hE
 refine WL.nil ?_
 obtain ⟨q53, hq52, hr⟩ := bindS hr
 refine W.cut (fun a w => ∃ (q58 : List Int), ∃ (q65 : Int), ∃ (a59 : Option Addr), ∃ (c60 : Nat), ∃ (n62 : Nat), ∃ (cs63 : List Value), (q58, q65) = q53 ∧ Ev 1 (RI .i64) s cs63 q58 ∧ q58.length = n62 ∧ Rep a 35 [(3, .slice a59 n62 c60)] ∧ St w s (vecC 3 1 a59 c60 n62 cs63 :: R)) ?_ ?_
 ·refine W.block ?_
  refine W.loop (fun m a w => ∃ (n54 : Nat), ∃ (q58 : List Int), ∃ (q65 : Int), ∃ (a59 : Option Addr), ∃ (c60 : Nat), ∃ (n62 : Nat), ∃ (cs63 : List Value), n54 = m ∧ Fishref2inOrder.loop1 x0 n54 q58 q65 = some q53 ∧ Ev 1 (RI .i64) s cs63 q58 ∧ q58.length = n62 ∧ Rep a 35 [(0, .slice a0 x0.length c0), (3, .slice a59 n62 c60), (4, .int .i64 q65)] ∧ St w s (vecC 3 1 a59 c60 n62 cs63 :: R)) (m := fu) ⟨fu, [], 0, none, 0, 0, [], rfl, hq52, (Ev.nil), (rfl), hE.pick _ ⟨rfl, rfl, rfl, trivial⟩, hS⟩ ?_
  clear hE hS a w hq52; rintro m55 a w ⟨n54, q58, q65, a59, c60, n62, cs63, rfl, hq52, h61, rfl, hE, hS⟩
  refine W.gen fun K66 hK66 => ?_
  rcases n54 with _ | n54
  ·rw [Fishref2inOrder.loop1] at hq52; exact absurd hq52 (by simp)
  rw [Fishref2inOrder.loop1] at hq52
  refine W.seq ?_
  refine W.seq ?_
  obtain ⟨q68, hq67, hq52⟩ := bndS hq52
  refine W.cut (fun a w => ∃ (q71 : Bool), q71 = q68 ∧ Rep a 35 [(0, .slice a0 x0.length c0), (3, .slice a59 q58.length c60), (4, .int .i64 q65), (15, .bool q71)] ∧ St w s (vecC 3 1 a59 c60 q58.length cs63 :: R)) ?_ ?_
  ·refine W.gen fun K72 hK72 => ?_
   refine W.region ?_
   refine WL.vS hS hE (runs_plain rfl) (Gives.p hE rfl) rfl ?_; clear hE a; intro a hE
   refine WL.vS hS hE (runs_plain rfl) (Gives.len hE rfl sl44) rfl ?_; clear hE a; intro a hE
   refine WL.vS hS hE (runs_plain rfl) (Gives.p hE rfl) rfl ?_; clear hE a; intro a hE
   refine WL.vS hS hE (runs_plain rfl) (Gives.len hE rfl sl32) rfl ?_; clear hE a; intro a hE
   refine WL.vS hS hE (runs_plain rfl) (Gives.p hE rfl) rfl ?_; clear hE a; intro a hE
   refine WL.vS hS hE (runs_plain rfl) (Gives.p hE rfl) rfl ?_; clear hE a; intro a hE
   rcases Bool.eq_false_or_eq_true (decide (((q58.length : Nat) : Int) < ((x0).length : Int))) with hg73 | hg73
   ·replace hq67 := iteT hg73 hq67
    refine WL.vS hS hE (runs_if hE rfl rfl rfl hg73) (Gives.p hE rfl) rfl ?_; clear hE a; intro a hE
    refine WL.vS hS hE (runs_if hE rfl rfl rfl hg73) (Gives.p hE rfl) rfl ?_; clear hE a; intro a hE
    refine WL.vS hS hE (runs_plain rfl) (Gives.pickT hE rfl hg73 rfl) rfl ?_; clear hE a; intro a hE
    refine WL.nil ?_
    subst hK72
    exact ⟨decide (q65 ≤ 28800), hq67, hE.pick _ ⟨rfl, rfl, rfl, rfl, trivial⟩, hS⟩
   ·replace hq67 := iteF hg73 hq67
    refine WL.no hE (runs_not hE rfl rfl rfl (by rw [hg73]; decide)) rfl ?_; clear hE a; intro a hE
    refine WL.no hE (runs_not hE rfl rfl rfl (by rw [hg73]; decide)) rfl ?_; clear hE a; intro a hE
    refine WL.vS hS hE (runs_plain rfl) (Gives.pickF hE rfl hg73 rfl) rfl ?_; clear hE a; intro a hE
    refine WL.nil ?_
    subst hK72
    exact ⟨false, hq67, hE.pick _ ⟨rfl, rfl, rfl, rfl, trivial⟩, hS⟩
  ·clear hE hS a w; rintro a w ⟨q71, rfl, hE, hS⟩
   refine W.cond hE rfl (fun hc74 => ?_) (fun hc74 => ?_)
   ·replace hq52 := iteT hc74 hq52
    refine W.skip ?_
    refine W.seq ?_
    refine W.block ?_
    refine W.seq (W.region ?_)
    refine WL.vS hS hE (runs_plain rfl) (Gives.p hE rfl) rfl ?_; clear hE a; intro a hE
    refine WL.vS hS hE (runs_plain rfl) (Gives.len hE rfl sl32) rfl ?_; clear hE a; intro a hE
    refine WL.vS hS hE (runs_plain rfl) (Gives.p hE rfl) rfl ?_; clear hE a; intro a hE
    refine WL.nil ?_
    obtain ⟨q76, hq75, hq52⟩ := bindS hq52
    refine W.cut (fun a w => ∃ (q86 : List Int), ∃ (a87 : Option Addr), ∃ (c88 : Nat), ∃ (n90 : Nat), ∃ (cs91 : List Value), q86 = q76 ∧ Ev 1 (RI .i64) s cs91 q86 ∧ q86.length = n90 ∧ Rep a 35 [(0, .slice a0 x0.length c0), (3, .slice a87 n90 c88), (4, .int .i64 q65)] ∧ St w s (vecC 3 1 a87 c88 n90 cs91 :: R)) ?_ ?_
    ·refine W.block ?_
     refine W.loop (fun m a w => ∃ (rest79 : List FleetTask) (k77 : Nat), ∃ (q86 : List Int), ∃ (a87 : Option Addr), ∃ (c88 : Nat), ∃ (n90 : Nat), ∃ (cs91 : List Value), rest79.length = m ∧ x0.drop k77 = rest79 ∧ Fishref2inOrder.loop2 q65 rest79 k77 q86 = some q76 ∧ Ev 1 (RI .i64) s cs91 q86 ∧ q86.length = n90 ∧ Rep a 35 [(0, .slice a0 x0.length c0), (3, .slice a87 n90 c88), (4, .int .i64 q65), (18, .slice a0 x0.length c0), (19, .int .i64 ((x0).length : Int)), (20, .int .i64 ((k77 : Nat) : Int))] ∧ St w s (vecC 3 1 a87 c88 n90 cs91 :: R)) (m := x0.length) ⟨x0, 0, q58, a59, c60, q58.length, cs63, rfl, rfl, hq75, h61, rfl, hE.pick _ ⟨rfl, rfl, rfl, rfl, rfl, rfl, trivial⟩, hS⟩ ?_
     clear hE hS a w hq75; rintro m83 a w ⟨rest79, k77, q86, a87, c88, n90, cs91, rfl, hd80, hq75, h89, rfl, hE, hS⟩
     refine W.gen fun K93 hK93 => ?_
     rcases rest79 with _ | ⟨x78, rest79⟩
     ·have hlt81 := drop_nil hd80
      refine W.seq (W.region ?_)
      refine WL.vS hS hE (runs_plain rfl) (Gives.p hE rfl) rfl ?_; clear hE a; intro a hE
      refine WL.nil ?_
      refine W.seq ?_
      refine W.condF hE rfl (decide_eq_false (by omega)) ?_
      subst hK93
      refine W.exit rfl ?_
      exact ⟨q86, a87, c88, q86.length, cs91, Option.some.inj hq75, h89, rfl, hE.pick _ ⟨rfl, rfl, rfl, trivial⟩, hS⟩
     ·obtain ⟨hlt81, hx82, hd80⟩ := drop_cons hd80
      rw [Fishref2inOrder.loop2] at hq75
      refine W.seq (W.region ?_)
      refine WL.vS hS hE (runs_plain rfl) (Gives.p hE rfl) rfl ?_; clear hE a; intro a hE
      refine WL.nil ?_
      refine W.seq ?_
      refine W.condT hE rfl (decide_eq_true (by omega)) ?_
      refine W.skip ?_
      refine W.seq ?_
      refine W.block ?_
      refine W.seq (W.region ?_)
      refine WL.vS hS hE (runs_plain rfl) (Gives.p hE rfl) rfl ?_; clear hE a; intro a hE
      obtain ⟨cs94, hl95, hR96, hat97⟩ := h0.at hx82
      subst hR96
      refine WL.vS hS hE (runs_plain rfl) (Gives.idx hE k77 rfl rfl sl32 rfl hlt81 (h0.aok hlt81)) rfl ?_; clear hE a; intro a hE
      refine WL.vS hS hE (runs_plain rfl) (Gives.loadA hE rfl (fun w h => hat97 w _ h) ty78) rfl ?_; clear hE a; intro a hE
      refine WL.alloc hE hS (runs_plain rfl) zr78 rfl ?_; clear hE hS a w; intro b98 a w hE hS
      refine WL.vS hS hE (runs_plain rfl) (Gives.p hE rfl) rfl ?_; clear hE a; intro a hE
      refine WL.storeI hE hS 0 rfl (FleetTask.cells x78) (runs_plain rfl) rfl rfl rfl ty78 rfl rfl rfl rfl ?_; clear hE hS a w; intro a w hE hS
      refine WL.nil ?_
      refine W.seq (W.region ?_)
      refine WL.vS hS hE (runs_plain rfl) (Gives.fld hE rfl fl78_2) rfl ?_; clear hE a; intro a hE
      refine WL.vS hS hE (runs_plain rfl) (Gives.loadB hE 0 rfl rfl rfl ty3) rfl ?_; clear hE a; intro a hE
      refine WL.vS hS hE (runs_plain rfl) (Gives.p hE rfl) rfl ?_; clear hE a; intro a hE
      refine WL.vS hS hE (runs_plain rfl) (Gives.p hE rfl) rfl ?_; clear hE a; intro a hE
      refine WL.nil ?_
      obtain ⟨q100, hq99, hq75⟩ := bindS hq75
      refine W.cut (fun a w => ∃ (q103 : List Int), ∃ (a104 : Option Addr), ∃ (c105 : Nat), ∃ (n107 : Nat), ∃ (cs108 : List Value), q103 = q100 ∧ Ev 1 (RI .i64) s cs108 q103 ∧ q103.length = n107 ∧ Rep a 35 [(0, .slice a0 x0.length c0), (3, .slice a104 n107 c105), (4, .int .i64 q65), (18, .slice a0 x0.length c0), (19, .int .i64 ((x0).length : Int)), (20, .int .i64 ((k77 : Nat) : Int))] ∧ St w s (pt b98 (.cells (FleetTask.cells x78).toArray 78 (0, 0)) :: vecC 3 1 a104 c105 n107 cs108 :: R)) ?_ ?_
      ·refine W.gen fun K110 hK110 => ?_
       refine W.cond hE rfl (fun hc111 => ?_) (fun hc111 => ?_)
       ·replace hq99 := iteT hc111 hq99
        refine W.region ?_
        refine WL.vS hS hE (runs_plain rfl) (Gives.p hE rfl) rfl ?_; clear hE a; intro a hE
        refine WL.vS hS hE (runs_plain rfl) (Gives.p hE rfl) rfl ?_; clear hE a; intro a hE
        refine WL.lit hE hS (e := 3) (es := 1) (vs := [(0, .int .i64 ((k77 : Nat) : Int))]) (cs := [.int .i64 ((k77 : Nat) : Int)]) (runs_plain rfl) rfl (by kernel_rfl) rfl ?_; clear hE hS a w; intro b112 a w hE hS
        obtain ⟨x113, hx114, hq99⟩ := bindS hq99
        refine WL.appD hE hS 1 (m := 1) (runs_plain rfl) rfl rfl rfl ap44 rfl h89 rfl (xs := [((k77 : Nat) : Int)]) (Ev.cons (c1 := [.int .i64 ((k77 : Nat) : Int)]) rfl rfl (Ev.nil)) rfl rfl hx114 rfl ?_; clear hE hS a w; intro a115 c116 cs117 a w h118 hE hS
        refine WL.vS hS hE (runs_plain rfl) (Gives.p hE rfl) rfl ?_; clear hE a; intro a hE
        refine WL.nil ?_
        subst hK110
        exact ⟨x113, a115, c116, x113.length, cs117, Option.some.inj hq99, h118, (rfl), hE.pick _ ⟨rfl, rfl, rfl, rfl, rfl, rfl, trivial⟩, hS⟩
       ·replace hq99 := iteF hc111 hq99
        refine W.skip ?_
        subst hK110
        exact ⟨q86, a87, c88, q86.length, cs91, Option.some.inj hq99, h89, rfl, hE.pick _ ⟨rfl, rfl, rfl, rfl, rfl, rfl, trivial⟩, hS⟩
      ·clear hE hS a w; rintro a w ⟨q103, a104, c105, n107, cs108, rfl, h106, rfl, hE, hS⟩
       refine W.region ?_
       refine WL.vS hS hE (runs_plain rfl) (Gives.inc hE rfl (by have := h0.small; omega)) rfl ?_; clear hE a; intro a hE
       refine WL.vS hS hE (runs_plain rfl) (Gives.p hE rfl) rfl ?_; clear hE a; intro a hE
       refine WL.nil ?_
       replace hS := hS.tail
       subst hK93
       exact ⟨rest79.length, Nat.lt_succ_self _, rest79, k77 + 1, q103, a104, c105, q103.length, cs108, rfl, hd80, hq75, h106, rfl, hE.pick _ ⟨rfl, rfl, rfl, rfl, rfl, rfl, trivial⟩, hS⟩
    ·clear hE hS a w; rintro a w ⟨q86, a87, c88, n90, cs91, rfl, h89, rfl, hE, hS⟩
     refine W.region ?_
     refine WL.vS hS hE (runs_plain rfl) (Gives.p hE rfl) rfl ?_; clear hE a; intro a hE
     refine WL.vS hS hE (runs_plain rfl) (Gives.p hE rfl) rfl ?_; clear hE a; intro a hE
     refine WL.vS hS hE (runs_plain rfl) (Gives.p hE rfl) rfl ?_; clear hE a; intro a hE
     refine WL.nil ?_
     subst hK66
     exact ⟨n54, Nat.lt_succ_self _, n54, q86, (w64 (q65 + 1)), a87, c88, q86.length, cs91, rfl, hq52, h89, rfl, hE.pick _ ⟨rfl, rfl, rfl, trivial⟩, hS⟩
   ·replace hq52 := iteF hc74 hq52
    subst hK66
    refine W.exit rfl ?_
    exact ⟨q58, q65, a59, c60, q58.length, cs63, Option.some.inj hq52, h61, rfl, hE.pick _ ⟨rfl, trivial⟩, hS⟩
 ·clear hE hS a w; rintro a w ⟨q58, q65, a59, c60, n62, cs63, rfl, h61, rfl, hE, hS⟩
  dsimp only at hr
  refine W.seq (W.region ?_)
  refine WL.vS hS hE (runs_plain rfl) (Gives.p hE rfl) rfl ?_; clear hE a; intro a hE
  refine WL.vS hS hE (runs_plain rfl) (Gives.p hE rfl) rfl ?_; clear hE a; intro a hE
  refine WL.nil ?_
  refine W.ret ?_
  refine finG (fn := Try.f65) (rs := [.tmp 2]) (vs := [_]) hE rfl ⟨rfl, trivial⟩ ?_
  obtain rfl := Option.some.inj hr
  exact ⟨a59, c60, q58.length, cs63, rfl, h61, rfl, hS⟩
end Go.Proofs.Ytfhkpdnohcidgaa
