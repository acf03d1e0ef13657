/- The walks of the functions that FarePacks reaches: each call comes to what its mirror says. The conditions are those of each contract. -/
import Derived.Test.YtdioaeeaifahnaaProg
import Derived.Test.YtdioaeeaifahnaaFarePacksM
import Derived.Test.YtdioaeeaifahnaaFpMore
import Derived.Test.YtdioaeeaifahnaaFarePacksW2
namespace Go.Proofs.Ytdioaeeaifahnaa
open Go Go.Fp
set_option maxHeartbeats 8000000 in
theorem FareTariffprice_ok {fu : Nat}  {w : World} {s : Sg} {R : List HP} {x0 : FareTariff} {a0_0 : Option Addr} {c0_0 : Nat} {a0_1 : Option Addr} {c0_1 : Nat} {x1 : FareTrip} {a1_0 : Option Addr} {c1_0 : Nat} (hS : St w s (R)) (h0_0 : Sl 2 RFareBand s a0_0 c0_0 x0.Bands) (h0_1 : Sl 7 RFareRule s a0_1 c0_1 x0.Rules) (h1_0 : Sl 1 (RI .i64) s a1_0 c1_0 x1.Zones) {r : Int × (List Int)} (hr : FareTariffprice fu x0 x1 = some r) :
    Calls Try.prog 49 [.agg [.bool x0.ByKm, .slice a0_0 x0.Bands.length c0_0, .int .i64 x0.Round, .slice a0_1 x0.Rules.length c0_1].toArray, .agg [.int .i64 x1.Day, .int .i64 x1.At, .int .i64 x1.Km, .int .i64 x1.Age, .bool x1.Card, .slice a1_0 x1.Zones.length c1_0].toArray].toArray w (fun e w => ∃ (a1 : Option Addr) (c1 n1 : Nat) (cs1 : List Value), e = .returned (.tuple #[.int .i64 r.1, .slice a1 n1 c1]) ∧ Ev 1 (RI .i64) s cs1 r.2 ∧ r.2.length = n1 ∧ St w s (vecC 3 1 a1 c1 n1 cs1 :: R)) := by
  refine enter Try.func49 rfl rfl rfl fun a hE => ?_
  rw [FareTariffprice] at hr
  refine W.seq ?_
  refine W.region ?_
  refine WL.box hE hS (runs_plain rfl) rfl rfl rfl ?_; clear hE hS a w; intro b51 a w hE hS
  refine WL.box hE hS (runs_plain rfl) rfl rfl rfl ?_; clear hE hS a w; intro b52 a w hE hS
  refine WL.vS hS hE (runs_plain rfl) (Gives.p hE rfl) rfl ?_; clear hE a; intro a hE
  refine WL.vS hS hE (runs_plain rfl) (Gives.p hE rfl) rfl ?_; clear hE a; intro a hE
  refine WL.nil ?_
  refine W.seq ?_
  refine W.region ?_
  refine WL.vS hS hE (runs_plain rfl) (Gives.fld hE rfl fl93_5) rfl ?_; clear hE a; intro a hE
  refine WL.vS hS hE (runs_plain rfl) (Gives.loadB hE 0 rfl rfl rfl ty41) rfl ?_; clear hE a; intro a hE
  refine WL.vS hS hE (runs_plain rfl) (Gives.len hE rfl sl41) rfl ?_; clear hE a; intro a hE
  refine WL.alloc hE hS (runs_plain rfl) zr3 rfl ?_; clear hE hS a w; intro b53 a w hE hS
  refine WL.storeI hE hS 0 rfl [.int .i64 ((x1.Zones).length : Int)] (runs_plain rfl) rfl rfl rfl ty3 rfl rfl rfl rfl ?_; clear hE hS a w; intro a w hE hS
  refine WL.nil ?_
  refine W.seq ?_
  refine W.seq ?_
  refine W.region ?_
  refine WL.vS hS hE (runs_plain rfl) (Gives.fld hE rfl fl25_0) rfl ?_; clear hE a; intro a hE
  refine WL.vS hS hE (runs_plain rfl) (Gives.loadB hE 2 rfl rfl rfl ty4) rfl ?_; clear hE a; intro a hE
  refine WL.nil ?_
  obtain ⟨q55, hq54, hr⟩ := bndS hr
  refine W.cut (fun a w => ∃ (q58 : Int), q58 = q55 ∧ Rep a 70 [(2, .pointer (some ⟨b51, 0, none⟩)), (3, .pointer (some ⟨b52, 0, none⟩)), (6, .pointer (some ⟨b53, 0, none⟩))] ∧ St w s (pt b53 (.cells #[.int .i64 q58] 3 (0, 0)) :: pt b52 (.cells #[.int .i64 x1.Day, .int .i64 x1.At, .int .i64 x1.Km, .int .i64 x1.Age, .bool x1.Card, .slice a1_0 x1.Zones.length c1_0] 93 (0, 0)) :: pt b51 (.cells #[.bool x0.ByKm, .slice a0_0 x0.Bands.length c0_0, .int .i64 x0.Round, .slice a0_1 x0.Rules.length c0_1] 25 (0, 0)) :: R)) ?_ ?_
  · refine W.gen fun K59 hK59 => ?_
    refine W.cond hE rfl (fun hc60 => ?_) (fun hc60 => ?_)
    · replace hq54 := iteT hc60 hq54
      refine W.region ?_
      refine WL.vS hS hE (runs_plain rfl) (Gives.fld hE rfl fl93_2) rfl ?_; clear hE a; intro a hE
      refine WL.vS hS hE (runs_plain rfl) (Gives.loadB hE 1 rfl rfl rfl ty3) rfl ?_; clear hE a; intro a hE
      refine WL.storeI hE hS 0 rfl [.int .i64 x1.Km] (runs_plain rfl) rfl rfl rfl ty3 rfl rfl rfl rfl ?_; clear hE hS a w; intro a w hE hS
      refine WL.nil ?_
      subst hK59
      exact ⟨x1.Km, hq54, hE.pick _ ⟨rfl, rfl, rfl, trivial⟩, hS⟩
    · replace hq54 := iteF hc60 hq54
      refine W.skip ?_
      subst hK59
      exact ⟨((x1.Zones).length : Int), hq54, hE.pick _ ⟨rfl, rfl, rfl, trivial⟩, hS⟩
  · clear hE hS a w; rintro a w ⟨q58, rfl, hE, hS⟩
    refine W.seq ?_
    refine W.region ?_
    refine WL.vS hS hE (runs_plain rfl) (Gives.fld hE rfl fl25_1) rfl ?_; clear hE a; intro a hE
    refine WL.vS hS hE (runs_plain rfl) (Gives.loadB hE 2 rfl rfl rfl ty22) rfl ?_; clear hE a; intro a hE
    refine WL.vS hS hE (runs_plain rfl) (Gives.mkfn hE (vs := [.pointer (some ⟨b53, 0, none⟩)]) rfl) rfl ?_; clear hE a; intro a hE
    refine WL.fnq hE (SlicesIndexFuncLfareBand_v1_ok hS h0_0 rfl) (runs_plain rfl) bd90 rfl rfl rfl ?_
    clear hE hS; rintro e w ⟨rfl, hS⟩; refine ⟨_, rfl, ?_⟩; clear a; intro a hE
    refine WL.vS hS hE (runs_plain rfl) (Gives.p hE rfl) rfl ?_; clear hE a; intro a hE
    refine WL.nil ?_
    refine W.seq ?_
    refine W.seq ?_
    refine W.region ?_
    refine WL.vS hS hE (runs_plain rfl) (Gives.p hE rfl) rfl ?_; clear hE a; intro a hE
    refine WL.vS hS hE (runs_plain rfl) (Gives.p hE rfl) rfl ?_; clear hE a; intro a hE
    refine WL.nil ?_
    obtain ⟨q62, hq61, hr⟩ := bndS hr
    refine W.cut (fun a w => ∃ (q65 : Int), q65 = q62 ∧ Rep a 70 [(2, .pointer (some ⟨b51, 0, none⟩)), (3, .pointer (some ⟨b52, 0, none⟩)), (7, .int .i64 q65)] ∧ St w s (pt b53 (.cells #[.int .i64 q58] 3 (0, 0)) :: pt b52 (.cells #[.int .i64 x1.Day, .int .i64 x1.At, .int .i64 x1.Km, .int .i64 x1.Age, .bool x1.Card, .slice a1_0 x1.Zones.length c1_0] 93 (0, 0)) :: pt b51 (.cells #[.bool x0.ByKm, .slice a0_0 x0.Bands.length c0_0, .int .i64 x0.Round, .slice a0_1 x0.Rules.length c0_1] 25 (0, 0)) :: R)) ?_ ?_
    · refine W.gen fun K66 hK66 => ?_
      refine W.cond hE rfl (fun hc67 => ?_) (fun hc67 => ?_)
      · replace hq61 := iteT hc67 hq61
        refine W.region ?_
        refine WL.vS hS hE (runs_plain rfl) (Gives.fld hE rfl fl25_1) rfl ?_; clear hE a; intro a hE
        refine WL.vS hS hE (runs_plain rfl) (Gives.loadB hE 2 rfl rfl rfl ty22) rfl ?_; clear hE a; intro a hE
        refine WL.vS hS hE (runs_plain rfl) (Gives.len hE rfl sl22) rfl ?_; clear hE a; intro a hE
        refine WL.vS hS hE (runs_plain rfl) (Gives.p hE rfl) rfl ?_; clear hE a; intro a hE
        refine WL.vS hS hE (runs_plain rfl) (Gives.p hE rfl) rfl ?_; clear hE a; intro a hE
        refine WL.nil ?_
        subst hK66
        exact ⟨w64 (((x0.Bands).length : Int) - 1), hq61, hE.pick _ ⟨rfl, rfl, rfl, trivial⟩, hS⟩
      · replace hq61 := iteF hc67 hq61
        refine W.skip ?_
        subst hK66
        exact ⟨(SlicesIndexFuncLfareBand_v1 x0.Bands q58), hq61, hE.pick _ ⟨rfl, rfl, rfl, trivial⟩, hS⟩
    · clear hE hS a w; rintro a w ⟨q65, rfl, hE, hS⟩
      refine W.seq ?_
      refine W.region ?_
      refine WL.vS hS hE (runs_plain rfl) (Gives.fld hE rfl fl25_1) rfl ?_; clear hE a; intro a hE
      refine WL.vS hS hE (runs_plain rfl) (Gives.loadB hE 2 rfl rfl rfl ty22) rfl ?_; clear hE a; intro a hE
      refine WL.vS hS hE (runs_plain rfl) (Gives.p hE rfl) rfl ?_; clear hE a; intro a hE
      obtain ⟨x68, hx69, hr⟩ := bindS hr
      obtain ⟨hi70, hlt71, hy72⟩ := gx_some hx69
      obtain ⟨cs73, hl74, hR75, hat76⟩ := h0_0.at hy72
      subst hR75
      refine WL.vS hS hE (runs_plain rfl) (Gives.idx hE (q65).toNat rfl rfl sl22 hi70 hlt71 (h0_0.aok hlt71)) rfl ?_; clear hE a; intro a hE
      refine WL.vS hS hE (runs_plain rfl) (Gives.fld hE rfl fl108_1) rfl ?_; clear hE a; intro a hE
      refine WL.vS hS hE (runs_plain rfl) (Gives.load1 hE rfl (fun w h => (hat76 w _ h).one rfl) ty3) rfl ?_; clear hE a; intro a hE
      refine WL.vS hS hE (runs_plain rfl) (Gives.p hE rfl) rfl ?_; clear hE a; intro a hE
      refine WL.nil ?_
      refine W.seq ?_
      refine W.region ?_
      replace hS := hS.vecNil 3 1
      refine WL.vS hS hE (runs_plain rfl) (Gives.p hE rfl) rfl ?_; clear hE a; intro a hE
      refine WL.nil ?_
      refine W.seq ?_
      refine W.seq ?_
      refine W.region ?_
      refine WL.vS hS hE (runs_plain rfl) (Gives.fld hE rfl fl25_3) rfl ?_; clear hE a; intro a hE
      refine WL.vS hS hE (runs_plain rfl) (Gives.loadB hE 3 rfl rfl rfl ty23) rfl ?_; clear hE a; intro a hE
      refine WL.vS hS hE (runs_plain rfl) (Gives.len hE rfl sl23) rfl ?_; clear hE a; intro a hE
      refine WL.vS hS hE (runs_plain rfl) (Gives.p hE rfl) rfl ?_; clear hE a; intro a hE
      refine WL.nil ?_
      obtain ⟨q79, hq78, hr⟩ := bindS hr
      refine W.cut (fun a w => ∃ (q89 : Int), ∃ (q90 : List Int), ∃ (a91 : Option Addr), ∃ (c92 : Nat), ∃ (n94 : Nat), ∃ (cs95 : List Value), (q89, q90) = q79 ∧ Ev 1 (RI .i64) s cs95 q90 ∧ q90.length = n94 ∧ Rep a 70 [(2, .pointer (some ⟨b51, 0, none⟩)), (8, .int .i64 q89), (9, .slice a91 n94 c92)] ∧ St w s (vecC 3 1 a91 c92 n94 cs95 :: pt b53 (.cells #[.int .i64 q58] 3 (0, 0)) :: pt b52 (.cells #[.int .i64 x1.Day, .int .i64 x1.At, .int .i64 x1.Km, .int .i64 x1.Age, .bool x1.Card, .slice a1_0 x1.Zones.length c1_0] 93 (0, 0)) :: pt b51 (.cells #[.bool x0.ByKm, .slice a0_0 x0.Bands.length c0_0, .int .i64 x0.Round, .slice a0_1 x0.Rules.length c0_1] 25 (0, 0)) :: R)) ?_ ?_
      · refine W.block ?_
        refine W.loop (fun m a w => ∃ (rest82 : List FareRule) (k80 : Nat), ∃ (q89 : Int), ∃ (q90 : List Int), ∃ (a91 : Option Addr), ∃ (c92 : Nat), ∃ (n94 : Nat), ∃ (cs95 : List Value), rest82.length = m ∧ x0.Rules.drop k80 = rest82 ∧ FareTariffprice.loop1 x1 fu rest82 k80 q89 q90 = some q79 ∧ Ev 1 (RI .i64) s cs95 q90 ∧ q90.length = n94 ∧ Rep a 70 [(2, .pointer (some ⟨b51, 0, none⟩)), (3, .pointer (some ⟨b52, 0, none⟩)), (8, .int .i64 q89), (9, .slice a91 n94 c92), (36, .slice a0_1 x0.Rules.length c0_1), (37, .int .i64 ((x0.Rules).length : Int)), (38, .int .i64 ((k80 : Nat) : Int))] ∧ St w s (vecC 3 1 a91 c92 n94 cs95 :: pt b53 (.cells #[.int .i64 q58] 3 (0, 0)) :: pt b52 (.cells #[.int .i64 x1.Day, .int .i64 x1.At, .int .i64 x1.Km, .int .i64 x1.Age, .bool x1.Card, .slice a1_0 x1.Zones.length c1_0] 93 (0, 0)) :: pt b51 (.cells #[.bool x0.ByKm, .slice a0_0 x0.Bands.length c0_0, .int .i64 x0.Round, .slice a0_1 x0.Rules.length c0_1] 25 (0, 0)) :: R)) (m := x0.Rules.length) ⟨x0.Rules, 0, x68.Price, [], none, 0, 0, [], rfl, rfl, hq78, (Ev.nil), (rfl), hE.pick _ ⟨rfl, rfl, rfl, rfl, rfl, rfl, rfl, trivial⟩, hS⟩ ?_
        clear hE hS a w hq78; rintro m86 a w ⟨rest82, k80, q89, q90, a91, c92, n94, cs95, rfl, hd83, hq78, h93, rfl, hE, hS⟩
        refine W.gen fun K97 hK97 => ?_
        rcases rest82 with _ | ⟨x81, rest82⟩
        · have hlt84 := drop_nil hd83
          refine W.seq ?_
          refine W.region ?_
          refine WL.vS hS hE (runs_plain rfl) (Gives.p hE rfl) rfl ?_; clear hE a; intro a hE
          refine WL.nil ?_
          refine W.seq ?_
          refine W.condF hE rfl (decide_eq_false (by omega)) ?_
          subst hK97
          refine W.exit rfl ?_
          exact ⟨q89, q90, a91, c92, q90.length, cs95, Option.some.inj hq78, h93, rfl, hE.pick _ ⟨rfl, rfl, rfl, trivial⟩, hS⟩
        · obtain ⟨hlt84, hx85, hd83⟩ := drop_cons hd83
          rw [FareTariffprice.loop1] at hq78
          refine W.seq ?_
          refine W.region ?_
          refine WL.vS hS hE (runs_plain rfl) (Gives.p hE rfl) rfl ?_; clear hE a; intro a hE
          refine WL.nil ?_
          refine W.seq ?_
          refine W.condT hE rfl (decide_eq_true (by omega)) ?_
          refine W.skip ?_
          refine W.seq ?_
          refine W.block ?_
          refine W.seq ?_
          refine W.region ?_
          refine WL.vS hS hE (runs_plain rfl) (Gives.p hE rfl) rfl ?_; clear hE a; intro a hE
          obtain ⟨cs98, hl99, hR100, hat101⟩ := h0_1.at hx85
          obtain ⟨a102, c103, rfl, h104⟩ := hR100
          refine WL.vS hS hE (runs_plain rfl) (Gives.idx hE k80 rfl rfl sl23 rfl hlt84 (h0_1.aok hlt84)) rfl ?_; clear hE a; intro a hE
          refine WL.vS hS hE (runs_plain rfl) (Gives.loadA hE rfl (fun w h => hat101 w _ h) ty113) rfl ?_; clear hE a; intro a hE
          refine WL.alloc hE hS (runs_plain rfl) zr113 rfl ?_; clear hE hS a w; intro b105 a w hE hS
          refine WL.vS hS hE (runs_plain rfl) (Gives.p hE rfl) rfl ?_; clear hE a; intro a hE
          refine WL.storeI hE hS 0 rfl [.int .i64 x81.If.Kind, .int .i64 x81.If.A, .int .i64 x81.If.B, .slice a102 x81.If.Kids.length c103, .int .i64 x81.Do, .int .i64 x81.N, .bool x81.Stop] (runs_plain rfl) rfl rfl rfl ty113 rfl rfl rfl rfl ?_; clear hE hS a w; intro a w hE hS
          refine WL.nil ?_
          refine W.seq ?_
          refine W.seq ?_
          refine W.region ?_
          refine WL.vS hS hE (runs_plain rfl) (Gives.fld hE rfl fl113_0) rfl ?_; clear hE a; intro a hE
          refine WL.vS hS hE (runs_plain rfl) (Gives.loadA (cs := [.int .i64 x81.If.Kind, .int .i64 x81.If.A, .int .i64 x81.If.B, .slice a102 x81.If.Kids.length c103]) hE rfl (fun w h => (St.seesAt h 0 rfl).part 0 4) ty111) rfl ?_; clear hE a; intro a hE
          refine WL.vS hS hE (runs_plain rfl) (Gives.loadBA hE 3 rfl rfl ty93) rfl ?_; clear hE a; intro a hE
          obtain ⟨q106, hq107, hq78⟩ := bindS hq78
          have hc_ := FareCondholds_ok hS h104 h1_0 hq107
          refine WL.fnq hE (hc_) (runs_plain rfl) bd92 rfl rfl rfl ?_
          clear hE hS hc_; rintro e w ⟨rfl, hS⟩; refine ⟨_, rfl, ?_⟩; clear a; intro a hE
          refine WL.vS hS hE (runs_plain rfl) (Gives.p hE rfl) rfl ?_; clear hE a; intro a hE
          refine WL.nil ?_
          refine W.cond hE rfl (fun hc108 => ?_) (fun hc108 => ?_)
          · replace hq78 := iteT hc108 hq78
            refine W.exit rfl ?_
            refine W.region ?_
            refine WL.vS hS hE (runs_plain rfl) (Gives.inc hE rfl (by have := h0_1.small; omega)) rfl ?_; clear hE a; intro a hE
            refine WL.vS hS hE (runs_plain rfl) (Gives.p hE rfl) rfl ?_; clear hE a; intro a hE
            refine WL.nil ?_
            replace hS := hS.tail
            subst hK97
            exact ⟨rest82.length, Nat.lt_succ_self _, rest82, k80 + 1, q89, q90, a91, c92, q90.length, cs95, rfl, hd83, hq78, h93, rfl, hE.pick _ ⟨rfl, rfl, rfl, rfl, rfl, rfl, rfl, trivial⟩, hS⟩
          · replace hq78 := iteF hc108 hq78
            refine W.skip ?_
            refine W.seq ?_
            refine W.region ?_
            refine WL.vS hS hE (runs_plain rfl) (Gives.p hE rfl) rfl ?_; clear hE a; intro a hE
            refine WL.vS hS hE (runs_plain rfl) (Gives.p hE rfl) rfl ?_; clear hE a; intro a hE
            refine WL.lit hE hS (e := 3) (es := 1) (vs := [(0, .int .i64 ((k80 : Nat) : Int))]) (cs := [.int .i64 ((k80 : Nat) : Int)]) (runs_plain rfl) rfl (by kernel_rfl) rfl ?_; clear hE hS a w; intro b109 a w hE hS
            obtain ⟨x110, hx111, hq78⟩ := bindS hq78
            refine WL.appD hE hS 1 (m := 1) (runs_plain rfl) rfl rfl rfl ap41 rfl h93 rfl (xs := [((k80 : Nat) : Int)]) (Ev.cons (c1 := [.int .i64 ((k80 : Nat) : Int)]) rfl rfl (Ev.nil)) rfl rfl hx111 rfl ?_; clear hE hS a w; intro a112 c113 cs114 a w h115 hE hS
            refine WL.vS hS hE (runs_plain rfl) (Gives.p hE rfl) rfl ?_; clear hE a; intro a hE
            refine WL.nil ?_
            refine W.seq ?_
            refine W.region ?_
            refine WL.vS hS hE (runs_plain rfl) (Gives.loadBA hE 0 rfl rfl ty113) rfl ?_; clear hE a; intro a hE
            refine WL.vS hS hE (runs_plain rfl) (Gives.p hE rfl) rfl ?_; clear hE a; intro a hE
            refine WL.fnq hE (FareRulechange_ok hS h104 rfl) (runs_plain rfl) bd93 rfl rfl rfl ?_
            clear hE hS; rintro e w ⟨rfl, hS⟩; refine ⟨_, rfl, ?_⟩; clear a; intro a hE
            refine WL.vS hS hE (runs_plain rfl) (Gives.p hE rfl) rfl ?_; clear hE a; intro a hE
            refine WL.nil ?_
            refine W.seq ?_
            refine W.region ?_
            refine WL.vS hS hE (runs_plain rfl) (Gives.fld hE rfl fl113_3) rfl ?_; clear hE a; intro a hE
            refine WL.vS hS hE (runs_plain rfl) (Gives.loadB hE 0 rfl rfl rfl ty4) rfl ?_; clear hE a; intro a hE
            refine WL.nil ?_
            refine W.cond hE rfl (fun hc116 => ?_) (fun hc116 => ?_)
            · replace hq78 := iteT hc116 hq78
              subst hK97
              refine W.exit rfl ?_
              replace hS := hS.tail
              exact ⟨(FareRulechange x81 q89), x110, a112, c113, x110.length, cs114, Option.some.inj hq78, h115, (rfl), hE.pick _ ⟨rfl, rfl, rfl, trivial⟩, hS⟩
            · replace hq78 := iteF hc116 hq78
              refine W.skip ?_
              refine W.region ?_
              refine WL.vS hS hE (runs_plain rfl) (Gives.inc hE rfl (by have := h0_1.small; omega)) rfl ?_; clear hE a; intro a hE
              refine WL.vS hS hE (runs_plain rfl) (Gives.p hE rfl) rfl ?_; clear hE a; intro a hE
              refine WL.nil ?_
              replace hS := hS.tail
              subst hK97
              exact ⟨rest82.length, Nat.lt_succ_self _, rest82, k80 + 1, (FareRulechange x81 q89), x110, a112, c113, x110.length, cs114, rfl, hd83, hq78, h115, (rfl), hE.pick _ ⟨rfl, rfl, rfl, rfl, rfl, rfl, rfl, trivial⟩, hS⟩
      · clear hE hS a w; rintro a w ⟨q89, q90, a91, c92, n94, cs95, rfl, h93, rfl, hE, hS⟩
        dsimp only at hr
        refine W.seq ?_
        refine W.regionQ (C := fun w => St w s (vecC 3 1 a91 c92 q90.length cs95 :: pt b53 (.cells #[.int .i64 q58] 3 (0, 0)) :: pt b52 (.cells #[.int .i64 x1.Day, .int .i64 x1.At, .int .i64 x1.Km, .int .i64 x1.Age, .bool x1.Card, .slice a1_0 x1.Zones.length c1_0] 93 (0, 0)) :: pt b51 (.cells #[.bool x0.ByKm, .slice a0_0 x0.Bands.length c0_0, .int .i64 x0.Round, .slice a0_1 x0.Rules.length c0_1] 25 (0, 0)) :: R)) mixed (by kernel_rfl) hS.drew ?_
        refine QL.v hE (runs_plain rfl) (Gives.p hE rfl) rfl ?_; clear hE a; intro a hE
        refine QL.v hE (runs_plain rfl) (Gives.fld hE rfl fl25_2) rfl ?_; clear hE a; intro a hE
        refine QL.v hE (runs_plain rfl) (Gives.loadB hE 3 rfl rfl rfl ty3) rfl ?_; clear hE a; intro a hE
        refine QL.v hE (runs_plain rfl) (Gives.p hE rfl) rfl ?_; clear hE a; intro a hE
        refine QL.v hE (runs_plain rfl) (Gives.p hE rfl) rfl ?_; clear hE a; intro a hE
        refine QL.v hE (runs_plain rfl) (Gives.fld hE rfl fl25_2) rfl ?_; clear hE a; intro a hE
        refine QL.v hE (runs_plain rfl) (Gives.loadB hE 3 rfl rfl rfl ty3) rfl ?_; clear hE a; intro a hE
        obtain ⟨x117, hx118, hr⟩ := bindS hr
        refine QL.v hE (runs_plain rfl) (Gives.dv hE rfl rfl hx118) rfl ?_; clear hE a; intro a hE
        refine QL.v hE (runs_plain rfl) (Gives.fld hE rfl fl25_2) rfl ?_; clear hE a; intro a hE
        refine QL.v hE (runs_plain rfl) (Gives.loadB hE 3 rfl rfl rfl ty3) rfl ?_; clear hE a; intro a hE
        refine QL.v hE (runs_plain rfl) (Gives.p hE rfl) rfl ?_; clear hE a; intro a hE
        refine QL.v hE (runs_plain rfl) (Gives.p hE rfl) rfl ?_; clear hE a; intro a hE
        refine QL.v hE (runs_plain rfl) (Gives.p hE rfl) rfl ?_; clear hE a; intro a hE
        refine QL.v hE (runs_plain rfl) (Gives.p hE rfl) rfl ?_; clear hE a; intro a hE
        refine QL.nil ?_; clear hS w; intro w hS
        refine W.ret ?_
        refine finG (fn := Try.f49) (rs := [.tmp 4, .tmp 5]) (vs := [_, _]) hE rfl ⟨rfl, rfl, trivial⟩ ?_
        obtain rfl := Option.some.inj hr
        replace hS := hS.dropAt 1
        replace hS := hS.dropAt 1
        replace hS := hS.dropAt 1
        exact ⟨a91, c92, q90.length, cs95, rfl, h93, rfl, hS⟩
set_option maxHeartbeats 8000000 in
theorem FarePrice_ok {fu : Nat}  {w : World} {s : Sg} {R : List HP} {x0 : FareTariff} {a0_0 : Option Addr} {c0_0 : Nat} {a0_1 : Option Addr} {c0_1 : Nat} {x1 : FareTrip} {a1_0 : Option Addr} {c1_0 : Nat} (hS : St w s (R)) (h0_0 : Sl 2 RFareBand s a0_0 c0_0 x0.Bands) (h0_1 : Sl 7 RFareRule s a0_1 c0_1 x0.Rules) (h1_0 : Sl 1 (RI .i64) s a1_0 c1_0 x1.Zones) {r : Int × (List Int) × Int} (hr : FarePrice fu x0 x1 = some r) :
    Calls Try.prog 62 [.agg [.bool x0.ByKm, .slice a0_0 x0.Bands.length c0_0, .int .i64 x0.Round, .slice a0_1 x0.Rules.length c0_1].toArray, .agg [.int .i64 x1.Day, .int .i64 x1.At, .int .i64 x1.Km, .int .i64 x1.Age, .bool x1.Card, .slice a1_0 x1.Zones.length c1_0].toArray].toArray w (fun e w => ∃ (a1 : Option Addr) (c1 n1 : Nat) (cs1 : List Value), e = .returned (.tuple #[.int .i64 r.1, .slice a1 n1 c1, .int .i64 r.2.2]) ∧ Ev 1 (RI .i64) s cs1 r.2.1 ∧ r.2.1.length = n1 ∧ St w s (vecC 3 1 a1 c1 n1 cs1 :: R)) := by
  refine enter Try.func62 rfl rfl rfl fun a hE => ?_
  rw [FarePrice] at hr
  refine W.seq ?_
  refine W.region ?_
  refine WL.box hE hS (runs_plain rfl) rfl rfl rfl ?_; clear hE hS a w; intro b51 a w hE hS
  refine WL.box hE hS (runs_plain rfl) rfl rfl rfl ?_; clear hE hS a w; intro b52 a w hE hS
  refine WL.vS hS hE (runs_plain rfl) (Gives.p hE rfl) rfl ?_; clear hE a; intro a hE
  refine WL.vS hS hE (runs_plain rfl) (Gives.p hE rfl) rfl ?_; clear hE a; intro a hE
  refine WL.vS hS hE (runs_plain rfl) (Gives.p hE rfl) rfl ?_; clear hE a; intro a hE
  refine WL.nil ?_
  refine W.seq ?_
  refine W.seq ?_
  refine W.region ?_
  refine WL.vS hS hE (runs_plain rfl) (Gives.loadBA hE 1 rfl rfl ty25) rfl ?_; clear hE a; intro a hE
  obtain ⟨q53, hq54, hr⟩ := bindS hr
  have hc_ := FareCheckTariff_ok hS h0_0 h0_1 hq54
  refine WL.fnq hE (hc_) (runs_plain rfl) bd47 rfl rfl rfl ?_
  clear hE hS hc_; rintro e w ⟨rfl, hS⟩; refine ⟨_, rfl, ?_⟩; clear a; intro a hE
  refine WL.vS hS hE (runs_plain rfl) (Gives.p hE rfl) rfl ?_; clear hE a; intro a hE
  refine WL.nil ?_
  refine W.seq ?_
  refine W.region ?_
  refine WL.vS hS hE (runs_plain rfl) (Gives.p hE rfl) rfl ?_; clear hE a; intro a hE
  refine WL.vS hS hE (runs_plain rfl) (Gives.p hE rfl) rfl ?_; clear hE a; intro a hE
  refine WL.nil ?_
  refine W.cond hE rfl (fun hc55 => ?_) (fun hc55 => ?_)
  · replace hr := iteT hc55 hr
    refine W.seq ?_
    refine W.region ?_
    refine WL.vS hS hE (runs_plain rfl) (Gives.p hE rfl) rfl ?_; clear hE a; intro a hE
    refine WL.vS hS hE (runs_plain rfl) (Gives.p hE rfl) rfl ?_; clear hE a; intro a hE
    refine WL.vS hS hE (runs_plain rfl) (Gives.p hE rfl) rfl ?_; clear hE a; intro a hE
    refine WL.vS hS hE (runs_plain rfl) (Gives.p hE rfl) rfl ?_; clear hE a; intro a hE
    refine WL.nil ?_
    refine W.ret ?_
    replace hS := hS.vecNil 3 1
    refine finG (fn := Try.f62) (rs := [.tmp 4, .tmp 5, .tmp 6]) (vs := [_, _, _]) hE rfl ⟨rfl, rfl, rfl, trivial⟩ ?_
    obtain rfl := Option.some.inj hr
    replace hS := hS.dropAt 1
    replace hS := hS.dropAt 1
    exact ⟨none, 0, 0, [], rfl, (Ev.nil), (rfl), hS⟩
  · replace hr := iteF hc55 hr
    refine W.skip ?_
    refine W.seq ?_
    refine W.seq ?_
    refine W.region ?_
    refine WL.vS hS hE (runs_plain rfl) (Gives.loadBA hE 0 rfl rfl ty93) rfl ?_; clear hE a; intro a hE
    obtain ⟨q57, hq58, hr⟩ := bindS hr
    have hc_ := FareCheckTrip_ok hS h1_0 hq58
    refine WL.fnq hE (hc_) (runs_plain rfl) bd48 rfl rfl rfl ?_
    clear hE hS hc_; rintro e w ⟨rfl, hS⟩; refine ⟨_, rfl, ?_⟩; clear a; intro a hE
    refine WL.vS hS hE (runs_plain rfl) (Gives.p hE rfl) rfl ?_; clear hE a; intro a hE
    refine WL.nil ?_
    refine W.seq ?_
    refine W.region ?_
    refine WL.vS hS hE (runs_plain rfl) (Gives.p hE rfl) rfl ?_; clear hE a; intro a hE
    refine WL.vS hS hE (runs_plain rfl) (Gives.p hE rfl) rfl ?_; clear hE a; intro a hE
    refine WL.nil ?_
    refine W.cond hE rfl (fun hc59 => ?_) (fun hc59 => ?_)
    · replace hr := iteT hc59 hr
      refine W.seq ?_
      refine W.region ?_
      refine WL.vS hS hE (runs_plain rfl) (Gives.p hE rfl) rfl ?_; clear hE a; intro a hE
      refine WL.vS hS hE (runs_plain rfl) (Gives.p hE rfl) rfl ?_; clear hE a; intro a hE
      refine WL.vS hS hE (runs_plain rfl) (Gives.p hE rfl) rfl ?_; clear hE a; intro a hE
      refine WL.vS hS hE (runs_plain rfl) (Gives.p hE rfl) rfl ?_; clear hE a; intro a hE
      refine WL.nil ?_
      refine W.ret ?_
      replace hS := hS.vecNil 3 1
      refine finG (fn := Try.f62) (rs := [.tmp 4, .tmp 5, .tmp 6]) (vs := [_, _, _]) hE rfl ⟨rfl, rfl, rfl, trivial⟩ ?_
      obtain rfl := Option.some.inj hr
      replace hS := hS.dropAt 1
      replace hS := hS.dropAt 1
      exact ⟨none, 0, 0, [], rfl, (Ev.nil), (rfl), hS⟩
    · replace hr := iteF hc59 hr
      refine W.skip ?_
      refine W.seq ?_
      refine W.region ?_
      refine WL.vS hS hE (runs_plain rfl) (Gives.loadBA hE 1 rfl rfl ty25) rfl ?_; clear hE a; intro a hE
      refine WL.vS hS hE (runs_plain rfl) (Gives.loadBA hE 0 rfl rfl ty93) rfl ?_; clear hE a; intro a hE
      obtain ⟨q61, hq62, hr⟩ := bindS hr
      have hc_ := FareTariffprice_ok hS h0_0 h0_1 h1_0 hq62
      refine WL.fnq hE (hc_) (runs_plain rfl) bd49 rfl rfl rfl ?_
      clear hE hS hc_; rintro e w ⟨a63, c64, n65, cs66, rfl, h67, rfl, hS⟩; refine ⟨_, rfl, ?_⟩; clear a; intro a hE
      refine WL.vS hS hE (runs_plain rfl) (Gives.p hE rfl) rfl ?_; clear hE a; intro a hE
      refine WL.vS hS hE (runs_plain rfl) (Gives.p hE rfl) rfl ?_; clear hE a; intro a hE
      refine WL.vS hS hE (runs_plain rfl) (Gives.p hE rfl) rfl ?_; clear hE a; intro a hE
      refine WL.vS hS hE (runs_plain rfl) (Gives.p hE rfl) rfl ?_; clear hE a; intro a hE
      refine WL.vS hS hE (runs_plain rfl) (Gives.p hE rfl) rfl ?_; clear hE a; intro a hE
      refine WL.nil ?_
      refine W.seq ?_
      refine W.region ?_
      refine WL.vS hS hE (runs_plain rfl) (Gives.p hE rfl) rfl ?_; clear hE a; intro a hE
      refine WL.vS hS hE (runs_plain rfl) (Gives.p hE rfl) rfl ?_; clear hE a; intro a hE
      refine WL.vS hS hE (runs_plain rfl) (Gives.p hE rfl) rfl ?_; clear hE a; intro a hE
      refine WL.vS hS hE (runs_plain rfl) (Gives.p hE rfl) rfl ?_; clear hE a; intro a hE
      refine WL.vS hS hE (runs_plain rfl) (Gives.p hE rfl) rfl ?_; clear hE a; intro a hE
      refine WL.nil ?_
      refine W.ret ?_
      refine finG (fn := Try.f62) (rs := [.tmp 4, .tmp 5, .tmp 6]) (vs := [_, _, _]) hE rfl ⟨rfl, rfl, rfl, trivial⟩ ?_
      obtain rfl := Option.some.inj hr
      replace hS := hS.dropAt 1
      replace hS := hS.dropAt 1
      exact ⟨a63, c64, q61.2.length, cs66, rfl, h67, rfl, hS⟩
set_option maxHeartbeats 8000000 in
theorem SlicesEqualLint_ok  {w : World} {s : Sg} {R : List HP} {x0 : List Int} {a0 : Option Addr} {c0 : Nat} {x1 : List Int} {a1 : Option Addr} {c1 : Nat} (hS : St w s (R)) (h0 : Sl 1 (RI .i64) s a0 c0 x0) (h1 : Sl 1 (RI .i64) s a1 c1 x1) {r : Bool} (hr : SlicesEqualLint x0 x1 = some r) :
    Calls Try.prog 21 [.slice a0 x0.length c0, .slice a1 x1.length c1].toArray w (fun e w => e = .returned (.bool r) ∧ St w s (R)) := by
  refine enter Try.func21 rfl rfl rfl fun a hE => ?_
  rw [SlicesEqualLint] at hr
  refine W.seq ?_
  refine W.region ?_
  refine WL.vS hS hE (runs_plain rfl) (Gives.p hE rfl) rfl ?_; clear hE a; intro a hE
  refine WL.nil ?_
  refine W.seq ?_
  refine W.seq ?_
  refine W.region ?_
  refine WL.vS hS hE (runs_plain rfl) (Gives.p hE rfl) rfl ?_; clear hE a; intro a hE
  refine WL.vS hS hE (runs_plain rfl) (Gives.len hE rfl sl41) rfl ?_; clear hE a; intro a hE
  refine WL.vS hS hE (runs_plain rfl) (Gives.p hE rfl) rfl ?_; clear hE a; intro a hE
  refine WL.vS hS hE (runs_plain rfl) (Gives.len hE rfl sl41) rfl ?_; clear hE a; intro a hE
  refine WL.vS hS hE (runs_plain rfl) (Gives.p hE rfl) rfl ?_; clear hE a; intro a hE
  refine WL.nil ?_
  refine W.cond hE rfl (fun hc51 => ?_) (fun hc51 => ?_)
  · replace hr := iteT hc51 hr
    refine W.seq ?_
    refine W.region ?_
    refine WL.vS hS hE (runs_plain rfl) (Gives.p hE rfl) rfl ?_; clear hE a; intro a hE
    refine WL.nil ?_
    refine W.ret ?_
    refine finG (fn := Try.f21) (rs := [.tmp 4]) (vs := [_]) hE rfl ⟨rfl, trivial⟩ ?_
    obtain rfl := Option.some.inj hr
    exact ⟨rfl, hS⟩
  · replace hr := iteF hc51 hr
    refine W.skip ?_
    refine W.seq ?_
    refine W.seq ?_
    refine W.region ?_
    refine WL.vS hS hE (runs_plain rfl) (Gives.p hE rfl) rfl ?_; clear hE a; intro a hE
    refine WL.vS hS hE (runs_plain rfl) (Gives.len hE rfl sl41) rfl ?_; clear hE a; intro a hE
    refine WL.vS hS hE (runs_plain rfl) (Gives.p hE rfl) rfl ?_; clear hE a; intro a hE
    refine WL.nil ?_
    obtain ⟨q53, hq52, hr⟩ := bindS hr
    refine W.cut (fun a w => (.next ()) = q53 ∧ Rep a 26 [] ∧ St w s (R)) ?_ ?_
    · refine W.block ?_
      refine W.loop (fun m a w => ∃ (rest56 : List Int) (k54 : Nat), rest56.length = m ∧ x0.drop k54 = rest56 ∧ SlicesEqualLint.loop1 x1 rest56 k54 = some q53 ∧ Rep a 26 [(0, .slice a0 x0.length c0), (1, .slice a1 x1.length c1), (12, .int .i64 ((x0).length : Int)), (13, .int .i64 ((k54 : Nat) : Int))] ∧ St w s (R)) (m := x0.length) ⟨x0, 0, rfl, rfl, hq52, hE.pick _ ⟨rfl, rfl, rfl, rfl, trivial⟩, hS⟩ ?_
      clear hE hS a w hq52; rintro m60 a w ⟨rest56, k54, rfl, hd57, hq52, hE, hS⟩
      refine W.gen fun K63 hK63 => ?_
      rcases rest56 with _ | ⟨x55, rest56⟩
      · have hlt58 := drop_nil hd57
        refine W.seq ?_
        refine W.region ?_
        refine WL.vS hS hE (runs_plain rfl) (Gives.p hE rfl) rfl ?_; clear hE a; intro a hE
        refine WL.nil ?_
        refine W.seq ?_
        refine W.condF hE rfl (decide_eq_false (by omega)) ?_
        subst hK63
        refine W.exit rfl ?_
        exact ⟨Option.some.inj hq52, hE.pick _ trivial, hS⟩
      · obtain ⟨hlt58, hx59, hd57⟩ := drop_cons hd57
        rw [SlicesEqualLint.loop1] at hq52
        refine W.seq ?_
        refine W.region ?_
        refine WL.vS hS hE (runs_plain rfl) (Gives.p hE rfl) rfl ?_; clear hE a; intro a hE
        refine WL.nil ?_
        refine W.seq ?_
        refine W.condT hE rfl (decide_eq_true (by omega)) ?_
        refine W.skip ?_
        refine W.seq ?_
        refine W.block ?_
        refine W.seq ?_
        refine W.region ?_
        refine WL.vS hS hE (runs_plain rfl) (Gives.p hE rfl) rfl ?_; clear hE a; intro a hE
        refine WL.vS hS hE (runs_plain rfl) (Gives.p hE rfl) rfl ?_; clear hE a; intro a hE
        refine WL.nil ?_
        refine W.seq ?_
        refine W.regionQ (C := fun w => St w s (R)) mixed (by kernel_rfl) hS.drew ?_
        refine QL.v hE (runs_plain rfl) (Gives.p hE rfl) rfl ?_; clear hE a; intro a hE
        refine QL.v hE (runs_plain rfl) (Gives.p hE rfl) rfl ?_; clear hE a; intro a hE
        obtain ⟨cs64, hl65, hR66, hat67⟩ := h0.at hx59
        subst hR66
        refine QL.v hE (runs_plain rfl) (Gives.idx hE k54 rfl rfl sl41 rfl hlt58 (h0.aok hlt58)) rfl ?_; clear hE a; intro a hE
        refine QL.v hE (runs_plain rfl) (Gives.load1 hE rfl (fun w h => hat67 w _ h) ty3) rfl ?_; clear hE a; intro a hE
        refine QL.v hE (runs_plain rfl) (Gives.p hE rfl) rfl ?_; clear hE a; intro a hE
        refine QL.v hE (runs_plain rfl) (Gives.p hE rfl) rfl ?_; clear hE a; intro a hE
        obtain ⟨x68, hx69, hq52⟩ := bindS hq52
        obtain ⟨hi70, hlt71, hy72⟩ := gx_some hx69
        obtain ⟨cs73, hl74, hR75, hat76⟩ := h1.at hy72
        subst hR75
        refine QL.v hE (runs_plain rfl) (Gives.idx hE (((k54 : Nat) : Int)).toNat rfl rfl sl41 hi70 hlt71 (h1.aok hlt71)) rfl ?_; clear hE a; intro a hE
        refine QL.v hE (runs_plain rfl) (Gives.load1 hE rfl (fun w h => hat76 w _ h) ty3) rfl ?_; clear hE a; intro a hE
        refine QL.v hE (runs_plain rfl) (Gives.p hE rfl) rfl ?_; clear hE a; intro a hE
        refine QL.nil ?_; clear hS w; intro w hS
        refine W.cond hE rfl (fun hc77 => ?_) (fun hc77 => ?_)
        · replace hq52 := iteT hc77 hq52
          refine W.seq ?_
          refine W.region ?_
          refine WL.vS hS hE (runs_plain rfl) (Gives.p hE rfl) rfl ?_; clear hE a; intro a hE
          refine WL.nil ?_
          refine W.ret ?_
          subst hK63
          rw [← Option.some.inj hq52] at hr
          dsimp only at hr
          refine finG (fn := Try.f21) (rs := [.tmp 4]) (vs := [_]) hE rfl ⟨rfl, trivial⟩ ?_
          obtain rfl := Option.some.inj hr
          exact ⟨rfl, hS⟩
        · replace hq52 := iteF hc77 hq52
          refine W.skip ?_
          refine W.region ?_
          refine WL.vS hS hE (runs_plain rfl) (Gives.inc hE rfl (by have := h0.small; omega)) rfl ?_; clear hE a; intro a hE
          refine WL.vS hS hE (runs_plain rfl) (Gives.p hE rfl) rfl ?_; clear hE a; intro a hE
          refine WL.nil ?_
          subst hK63
          exact ⟨rest56.length, Nat.lt_succ_self _, rest56, k54 + 1, rfl, hd57, hq52, hE.pick _ ⟨rfl, rfl, rfl, rfl, trivial⟩, hS⟩
    · clear hE hS a w; rintro a w ⟨rfl, hE, hS⟩
      dsimp only at hr
      refine W.seq ?_
      refine W.region ?_
      refine WL.vS hS hE (runs_plain rfl) (Gives.p hE rfl) rfl ?_; clear hE a; intro a hE
      refine WL.nil ?_
      refine W.ret ?_
      refine finG (fn := Try.f21) (rs := [.tmp 4]) (vs := [_]) hE rfl ⟨rfl, trivial⟩ ?_
      obtain rfl := Option.some.inj hr
      exact ⟨rfl, hS⟩
set_option maxHeartbeats 8000000 in
theorem Fishlaw2fares_ok {fu : Nat}  {w : World} {s : Sg} {R : List HP}  (hS : St w s (R))  {r : Bool} (hr : Fishlaw2fares fu = some r) :
    Calls Try.prog 12 [].toArray w (fun e w => e = .returned (.bool r) ∧ St w s (R)) := by
  refine enter Try.func12 rfl rfl rfl fun a hE => ?_
  rw [Fishlaw2fares] at hr
  refine W.seq ?_
  refine W.region ?_
  refine WL.vS hS hE (runs_plain rfl) (Gives.p hE rfl) rfl ?_; clear hE a; intro a hE
  refine WL.nil ?_
  refine W.seq ?_
  refine W.region ?_
  refine WL.vS hS hE (runs_plain rfl) (Gives.build hE (vs := [(0, .int .i64 3), (1, .int .i64 500)]) [.int .i64 3, .int .i64 500] rfl (by kernel_rfl)) rfl ?_; clear hE a; intro a hE
  refine WL.lit hE hS (e := 108) (es := 2) (vs := [(0, .agg [.int .i64 3, .int .i64 500].toArray)]) (cs := [.int .i64 3, .int .i64 500]) (runs_plain rfl) rfl (by kernel_rfl) rfl ?_; clear hE hS a w; intro b51 a w hE hS
  replace hS := hS.ptVec (es := 2) (m := 1) rfl (by decide)
  have h53 : Ev 2 RFareBand s [.int .i64 3, .int .i64 500] [(FareBand.mk 3 500)] := (Ev.cons (c1 := [.int .i64 3, .int .i64 500]) rfl rfl (Ev.nil))
  have hF := hS.fixD RFareBand.mono 0 rfl h53 (rfl); clear hS; obtain ⟨s54, hle55, hS, h56⟩ := hF
  refine WL.vS hS hE (runs_plain rfl) (Gives.build hE (vs := [(0, .int .i64 2), (2, .int .i64 14)]) [.int .i64 2, .int .i64 0, .int .i64 14, .slice none 0 0] rfl (by kernel_rfl)) rfl ?_; clear hE a; intro a hE
  refine WL.vS hS hE (runs_plain rfl) (Gives.build hE (vs := [(0, .agg [.int .i64 2, .int .i64 0, .int .i64 14, .slice none 0 0].toArray), (1, .int .i64 1), (2, .int .i64 50)]) [.int .i64 2, .int .i64 0, .int .i64 14, .slice none 0 0, .int .i64 1, .int .i64 50, .bool false] rfl (by kernel_rfl)) rfl ?_; clear hE a; intro a hE
  refine WL.lit hE hS (e := 113) (es := 7) (vs := [(0, .agg [.int .i64 2, .int .i64 0, .int .i64 14, .slice none 0 0, .int .i64 1, .int .i64 50, .bool false].toArray)]) (cs := [.int .i64 2, .int .i64 0, .int .i64 14, .slice none 0 0, .int .i64 1, .int .i64 50, .bool false]) (runs_plain rfl) rfl (by kernel_rfl) rfl ?_; clear hE hS a w; intro b57 a w hE hS
  replace hS := hS.ptVec (es := 7) (m := 1) rfl (by decide)
  have h59 : Ev 7 RFareRule s54 [.int .i64 2, .int .i64 0, .int .i64 14, .slice none 0 0, .int .i64 1, .int .i64 50, .bool false] [(FareRule.mk (FareCond.mk 2 0 14 []) 1 50 false)] := (Ev.cons (c1 := [.int .i64 2, .int .i64 0, .int .i64 14, .slice none 0 0, .int .i64 1, .int .i64 50, .bool false]) ⟨_, _, rfl, Sl.nil⟩ rfl (Ev.nil))
  have hF := hS.fixD RFareRule.mono 0 rfl h59 (rfl); clear hS; obtain ⟨s60, hle61, hS, h62⟩ := hF
  replace h56 := Sl.mono RFareBand.mono hle61 h56
  refine WL.vS hS hE (runs_plain rfl) (Gives.build hE (vs := [(1, .slice (some ⟨b51, 0, none⟩) 1 1), (2, .int .i64 50), (3, .slice (some ⟨b57, 0, none⟩) 1 1)]) [.bool false, .slice (some ⟨b51, 0, none⟩) 1 1, .int .i64 50, .slice (some ⟨b57, 0, none⟩) 1 1] rfl (by kernel_rfl)) rfl ?_; clear hE a; intro a hE
  refine WL.alloc hE hS (runs_plain rfl) zr25 rfl ?_; clear hE hS a w; intro b63 a w hE hS
  refine WL.storeI hE hS 0 rfl [.bool false, .slice (some ⟨b51, 0, none⟩) 1 1, .int .i64 50, .slice (some ⟨b57, 0, none⟩) 1 1] (runs_plain rfl) rfl rfl rfl ty25 rfl rfl rfl rfl ?_; clear hE hS a w; intro a w hE hS
  refine WL.nil ?_
  refine W.seq ?_
  refine W.region ?_
  refine WL.vS hS hE (runs_plain rfl) (Gives.loadBA hE 0 rfl rfl ty25) rfl ?_; clear hE a; intro a hE
  refine WL.lit hE hS (e := 3) (es := 1) (vs := [(0, .int .i64 1), (1, .int .i64 2)]) (cs := [.int .i64 1, .int .i64 2]) (runs_plain rfl) rfl (by kernel_rfl) rfl ?_; clear hE hS a w; intro b64 a w hE hS
  replace hS := hS.ptVec (es := 1) (m := 2) rfl (by decide)
  have h66 : Ev 1 (RI .i64) s60 [.int .i64 1, .int .i64 2] [1, 2] := (Ev.cons (c1 := [.int .i64 1]) rfl rfl (Ev.cons (c1 := [.int .i64 2]) rfl rfl (Ev.nil)))
  have hF := hS.fixD RI.mono 0 rfl h66 (rfl); clear hS; obtain ⟨s67, hle68, hS, h69⟩ := hF
  replace h56 := Sl.mono RFareBand.mono hle68 h56
  replace h62 := Sl.mono RFareRule.mono hle68 h62
  refine WL.vS hS hE (runs_plain rfl) (Gives.build hE (vs := [(3, .int .i64 10), (5, .slice (some ⟨b64, 0, none⟩) 2 2)]) [.int .i64 0, .int .i64 0, .int .i64 0, .int .i64 10, .bool false, .slice (some ⟨b64, 0, none⟩) 2 2] rfl (by kernel_rfl)) rfl ?_; clear hE a; intro a hE
  obtain ⟨q70, hq71, hr⟩ := bindS hr
  have hc_ := FarePrice_ok hS h56 h62 h69 hq71
  refine WL.fnq hE (hc_) (runs_plain rfl) bd62 rfl rfl rfl ?_
  clear hE hS hc_; rintro e w ⟨a72, c73, n74, cs75, rfl, h76, rfl, hS⟩; refine ⟨_, rfl, ?_⟩; clear a; intro a hE
  refine WL.vS hS hE (runs_plain rfl) (Gives.p hE rfl) rfl ?_; clear hE a; intro a hE
  refine WL.vS hS hE (runs_plain rfl) (Gives.p hE rfl) rfl ?_; clear hE a; intro a hE
  refine WL.vS hS hE (runs_plain rfl) (Gives.p hE rfl) rfl ?_; clear hE a; intro a hE
  refine WL.vS hS hE (runs_plain rfl) (Gives.p hE rfl) rfl ?_; clear hE a; intro a hE
  refine WL.vS hS hE (runs_plain rfl) (Gives.p hE rfl) rfl ?_; clear hE a; intro a hE
  refine WL.vS hS hE (runs_plain rfl) (Gives.p hE rfl) rfl ?_; clear hE a; intro a hE
  refine WL.vS hS hE (runs_plain rfl) (Gives.p hE rfl) rfl ?_; clear hE a; intro a hE
  refine WL.nil ?_
  refine W.seq ?_
  obtain ⟨q79, hq78, hr⟩ := bindS hr
  refine W.cut (fun a w => ∃ (q82 : Bool), ∃ (s80 : Sg), s67.Le s80 ∧ q82 = q79 ∧ Rep a 30 [(0, .bool q82)] ∧ St w s80 (pt b63 (.cells #[.bool false, .slice (some ⟨b51, 0, none⟩) 1 1, .int .i64 50, .slice (some ⟨b57, 0, none⟩) 1 1] 25 (0, 0)) :: R)) ?_ ?_
  · refine W.gen fun K83 hK83 => ?_
    refine W.region ?_
    refine WL.vS hS hE (runs_plain rfl) (Gives.p hE rfl) rfl ?_; clear hE a; intro a hE
    refine WL.vS hS hE (runs_plain rfl) (Gives.p hE rfl) rfl ?_; clear hE a; intro a hE
    refine WL.vS hS hE (runs_plain rfl) (Gives.p hE rfl) rfl ?_; clear hE a; intro a hE
    rcases Bool.eq_false_or_eq_true (q70.2.2 == 0) with hg84 | hg84
    · replace hq78 := iteT hg84 hq78
      refine WL.vS hS hE (runs_if hE rfl rfl rfl hg84) (Gives.p hE rfl) rfl ?_; clear hE a; intro a hE
      refine WL.vS hS hE (runs_if hE rfl rfl rfl hg84) (Gives.p hE rfl) rfl ?_; clear hE a; intro a hE
      refine WL.vS hS hE (runs_plain rfl) (Gives.pickT hE rfl hg84 rfl) rfl ?_; clear hE a; intro a hE
      refine WL.vS hS hE (runs_plain rfl) (Gives.p hE rfl) rfl ?_; clear hE a; intro a hE
      rcases Bool.eq_false_or_eq_true (q70.1 == 250) with hg85 | hg85
      · replace hq78 := iteT hg85 hq78
        refine WL.vS hS hE (runs_if hE rfl rfl rfl hg85) (Gives.p hE rfl) rfl ?_; clear hE a; intro a hE
        refine WL.lit hE hS (e := 3) (es := 1) (vs := [(0, .int .i64 0)]) (cs := [.int .i64 0]) (runs_if hE rfl rfl rfl hg85) rfl (by kernel_rfl) rfl ?_; clear hE hS a w; intro b86 a w hE hS
        replace hS := hS.ptVec (es := 1) (m := 1) rfl (by decide)
        have h88 : Ev 1 (RI .i64) s67 [.int .i64 0] [0] := (Ev.cons (c1 := [.int .i64 0]) rfl rfl (Ev.nil))
        have hF := hS.fixD RI.mono 0 rfl h88 (rfl); clear hS; obtain ⟨s89, hle90, hS, h91⟩ := hF
        replace h56 := Sl.mono RFareBand.mono hle90 h56
        replace h62 := Sl.mono RFareRule.mono hle90 h62
        replace h69 := Sl.mono RI.mono hle90 h69
        replace h76 := Ev.mono RI.mono hle90 h76
        obtain ⟨q92, hq93, hq78⟩ := bindS hq78
        have hF := hS.lendV RI.mono 0 rfl h76 rfl; clear hS; obtain ⟨t94, hle95, hS, hs96, bk97⟩ := hF
        have hc_ := SlicesEqualLint_ok hS hs96 (Sl.mono RI.mono hle95 h91) hq93
        refine WL.fnq hE (hc_) (runs_if hE rfl rfl rfl hg85) bd21 rfl rfl rfl ?_
        clear hE hS hc_; rintro e w ⟨rfl, hS⟩; refine ⟨_, rfl, ?_⟩; clear a; intro a hE
        replace hS := bk97 _ _ hS
        refine WL.vS hS hE (runs_plain rfl) (Gives.pickT hE rfl hg85 rfl) rfl ?_; clear hE a; intro a hE
        refine WL.vS hS hE (runs_plain rfl) (Gives.p hE rfl) rfl ?_; clear hE a; intro a hE
        refine WL.nil ?_
        replace hS := hS.tail
        subst hK83
        exact ⟨q92, s89, hle90, Option.some.inj hq78, hE.pick _ ⟨rfl, trivial⟩, hS⟩
      · replace hq78 := iteF hg85 hq78
        refine WL.no hE (runs_not hE rfl rfl rfl (by rw [hg85]; decide)) rfl ?_; clear hE a; intro a hE
        refine WL.no hE (runs_not hE rfl rfl rfl (by rw [hg85]; decide)) rfl ?_; clear hE a; intro a hE
        refine WL.no hE (runs_not hE rfl rfl rfl (by rw [hg85]; decide)) rfl ?_; clear hE a; intro a hE
        refine WL.vS hS hE (runs_plain rfl) (Gives.pickF hE rfl hg85 rfl) rfl ?_; clear hE a; intro a hE
        refine WL.vS hS hE (runs_plain rfl) (Gives.p hE rfl) rfl ?_; clear hE a; intro a hE
        refine WL.nil ?_
        replace hS := hS.tail
        subst hK83
        exact ⟨false, s67, (Sg.Le.refl _), Option.some.inj hq78, hE.pick _ ⟨rfl, trivial⟩, hS⟩
    · replace hq78 := iteF hg84 hq78
      refine WL.no hE (runs_not hE rfl rfl rfl (by rw [hg84]; decide)) rfl ?_; clear hE a; intro a hE
      refine WL.no hE (runs_not hE rfl rfl rfl (by rw [hg84]; decide)) rfl ?_; clear hE a; intro a hE
      refine WL.vS hS hE (runs_plain rfl) (Gives.pickF hE rfl hg84 rfl) rfl ?_; clear hE a; intro a hE
      refine WL.vS hS hE (runs_plain rfl) (Gives.p hE rfl) rfl ?_; clear hE a; intro a hE
      refine WL.no hE (runs_not hE rfl rfl rfl (by decide)) rfl ?_; clear hE a; intro a hE
      refine WL.no hE (runs_not hE rfl rfl rfl (by decide)) rfl ?_; clear hE a; intro a hE
      refine WL.no hE (runs_not hE rfl rfl rfl (by decide)) rfl ?_; clear hE a; intro a hE
      refine WL.vS hS hE (runs_plain rfl) (Gives.pickF hE rfl rfl rfl) rfl ?_; clear hE a; intro a hE
      refine WL.vS hS hE (runs_plain rfl) (Gives.p hE rfl) rfl ?_; clear hE a; intro a hE
      refine WL.nil ?_
      replace hS := hS.tail
      subst hK83
      exact ⟨false, s67, (Sg.Le.refl _), Option.some.inj hq78, hE.pick _ ⟨rfl, trivial⟩, hS⟩
  · clear hE hS a w; rintro a w ⟨q82, s80, hle81, rfl, hE, hS⟩
    replace h56 := Sl.mono RFareBand.mono hle81 h56
    replace h62 := Sl.mono RFareRule.mono hle81 h62
    refine W.ret ?_
    refine finG (fn := Try.f12) (rs := [.tmp 0]) (vs := [_]) hE rfl ⟨rfl, trivial⟩ ?_
    obtain rfl := Option.some.inj hr
    replace hS := hS.tail
    exact ⟨rfl, (hS.down (Sg.Le.trans (Sg.Le.trans (Sg.Le.trans hle55 hle61) hle68) hle81))⟩
set_option maxHeartbeats 8000000 in
theorem Fishlaw2FarePacks_ok {fu : Nat}  {w : World} {s : Sg} {R : List HP} {x0 : List FareSpan} {a0 : Option Addr} {c0 : Nat} {x1 : Int} {x2 : Int} (hS : St w s (R)) (h0 : Sl 2 RFareSpan s a0 c0 x0) {r : Bool} (hr : Fishlaw2FarePacks fu x0 x1 x2 = some r) :
    Calls Try.prog 6 [.slice a0 x0.length c0, .int .i64 x1, .int .i64 x2].toArray w (fun e w => e = .returned (.bool r) ∧ St w s (R)) := by
  refine enter Try.func6 rfl rfl rfl fun a hE => ?_
  rw [Fishlaw2FarePacks] at hr
  refine W.seq ?_
  refine W.region ?_
  refine WL.vS hS hE (runs_plain rfl) (Gives.p hE rfl) rfl ?_; clear hE a; intro a hE
  refine WL.nil ?_
  refine W.seq ?_
  refine W.region ?_
  refine WL.vS hS hE (runs_plain rfl) (Gives.p hE rfl) rfl ?_; clear hE a; intro a hE
  refine WL.vS hS hE (runs_plain rfl) (Gives.p hE rfl) rfl ?_; clear hE a; intro a hE
  refine WL.vS hS hE (runs_plain rfl) (Gives.p hE rfl) rfl ?_; clear hE a; intro a hE
  obtain ⟨q51, hq52, hr⟩ := bindS hr
  have hc_ := FarePack_ok hS h0 hq52
  refine WL.fnq hE (hc_) (runs_plain rfl) bd23 rfl rfl rfl ?_
  clear hE hS hc_; rintro e w ⟨a53, c54, n55, cs56, rfl, h57, rfl, hS⟩; refine ⟨_, rfl, ?_⟩; clear a; intro a hE
  refine WL.vS hS hE (runs_plain rfl) (Gives.p hE rfl) rfl ?_; clear hE a; intro a hE
  refine WL.vS hS hE (runs_plain rfl) (Gives.p hE rfl) rfl ?_; clear hE a; intro a hE
  refine WL.vS hS hE (runs_plain rfl) (Gives.p hE rfl) rfl ?_; clear hE a; intro a hE
  refine WL.vS hS hE (runs_plain rfl) (Gives.p hE rfl) rfl ?_; clear hE a; intro a hE
  refine WL.vS hS hE (runs_plain rfl) (Gives.p hE rfl) rfl ?_; clear hE a; intro a hE
  refine WL.nil ?_
  refine W.seq ?_
  refine W.region ?_
  refine WL.vS hS hE (runs_plain rfl) (Gives.p hE rfl) rfl ?_; clear hE a; intro a hE
  refine WL.vS hS hE (runs_plain rfl) (Gives.p hE rfl) rfl ?_; clear hE a; intro a hE
  refine WL.vS hS hE (runs_plain rfl) (Gives.p hE rfl) rfl ?_; clear hE a; intro a hE
  obtain ⟨q59, hq60, hr⟩ := bindS hr
  have hc_ := Fishref2PackOf_ok hS h0 hq60
  refine WL.fnq hE (hc_) (runs_plain rfl) bd24 rfl rfl rfl ?_
  clear hE hS hc_; rintro e w ⟨a61, c62, n63, cs64, s67, rfl, hle68, h65, rfl, hS⟩; refine ⟨_, rfl, ?_⟩; clear a; intro a hE
  replace h0 := Sl.mono RFareSpan.mono hle68 h0
  replace h57 := Ev.mono RI.mono hle68 h57
  refine WL.vS hS hE (runs_plain rfl) (Gives.p hE rfl) rfl ?_; clear hE a; intro a hE
  refine WL.vS hS hE (runs_plain rfl) (Gives.p hE rfl) rfl ?_; clear hE a; intro a hE
  refine WL.vS hS hE (runs_plain rfl) (Gives.p hE rfl) rfl ?_; clear hE a; intro a hE
  refine WL.vS hS hE (runs_plain rfl) (Gives.p hE rfl) rfl ?_; clear hE a; intro a hE
  refine WL.vS hS hE (runs_plain rfl) (Gives.p hE rfl) rfl ?_; clear hE a; intro a hE
  refine WL.nil ?_
  refine W.seq ?_
  obtain ⟨q70, hq69, hr⟩ := bindS hr
  refine W.cut (fun a w => ∃ (q73 : Bool), q73 = q70 ∧ Rep a 36 [(6, .bool q73)] ∧ St w s67 (R)) ?_ ?_
  · refine W.gen fun K74 hK74 => ?_
    refine W.region ?_
    obtain ⟨q75, hq76, hq69⟩ := bindS hq69
    have hc_ := Fishlaw2fares_ok hS  hq76
    refine WL.fnq hE (hc_) (runs_plain rfl) bd12 rfl rfl rfl ?_
    clear hE hS hc_; rintro e w ⟨rfl, hS⟩; refine ⟨_, rfl, ?_⟩; clear a; intro a hE
    refine WL.vS hS hE (runs_plain rfl) (Gives.p hE rfl) rfl ?_; clear hE a; intro a hE
    rcases Bool.eq_false_or_eq_true q75 with hg77 | hg77
    · replace hq69 := iteT hg77 hq69
      refine WL.vS hS hE (runs_if hE rfl rfl rfl hg77) (Gives.p hE rfl) rfl ?_; clear hE a; intro a hE
      refine WL.vS hS hE (runs_if hE rfl rfl rfl hg77) (Gives.p hE rfl) rfl ?_; clear hE a; intro a hE
      refine WL.vS hS hE (runs_if hE rfl rfl rfl hg77) (Gives.p hE rfl) rfl ?_; clear hE a; intro a hE
      refine WL.vS hS hE (runs_plain rfl) (Gives.pickT hE rfl hg77 rfl) rfl ?_; clear hE a; intro a hE
      refine WL.vS hS hE (runs_plain rfl) (Gives.p hE rfl) rfl ?_; clear hE a; intro a hE
      rcases Bool.eq_false_or_eq_true (q51.2 == q59.2) with hg78 | hg78
      · replace hq69 := iteT hg78 hq69
        refine WL.vS hS hE (runs_if hE rfl rfl rfl hg78) (Gives.p hE rfl) rfl ?_; clear hE a; intro a hE
        refine WL.vS hS hE (runs_if hE rfl rfl rfl hg78) (Gives.p hE rfl) rfl ?_; clear hE a; intro a hE
        obtain ⟨q79, hq80, hq69⟩ := bindS hq69
        have hF := hS.lendV RI.mono 1 rfl h57 rfl; clear hS; obtain ⟨t81, hle82, hS, hs83, bk84⟩ := hF
        have hF := hS.lendV RI.mono 0 rfl (Ev.mono RI.mono hle82 h65) rfl; clear hS; obtain ⟨t85, hle86, hS, hs87, bk88⟩ := hF
        have hc_ := SlicesEqualLint_ok hS (Sl.mono RI.mono hle86 hs83) hs87 hq80
        refine WL.fnq hE (hc_) (runs_if hE rfl rfl rfl hg78) bd21 rfl rfl rfl ?_
        clear hE hS hc_; rintro e w ⟨rfl, hS⟩; refine ⟨_, rfl, ?_⟩; clear a; intro a hE
        replace hS := bk88 _ _ hS
        replace hS := bk84 _ _ hS
        refine WL.vS hS hE (runs_plain rfl) (Gives.pickT hE rfl hg78 rfl) rfl ?_; clear hE a; intro a hE
        refine WL.vS hS hE (runs_plain rfl) (Gives.p hE rfl) rfl ?_; clear hE a; intro a hE
        refine WL.nil ?_
        replace hS := hS.tail
        replace hS := hS.tail
        subst hK74
        exact ⟨q79, Option.some.inj hq69, hE.pick _ ⟨rfl, trivial⟩, hS⟩
      · replace hq69 := iteF hg78 hq69
        refine WL.no hE (runs_not hE rfl rfl rfl (by rw [hg78]; decide)) rfl ?_; clear hE a; intro a hE
        refine WL.no hE (runs_not hE rfl rfl rfl (by rw [hg78]; decide)) rfl ?_; clear hE a; intro a hE
        refine WL.no hE (runs_not hE rfl rfl rfl (by rw [hg78]; decide)) rfl ?_; clear hE a; intro a hE
        refine WL.vS hS hE (runs_plain rfl) (Gives.pickF hE rfl hg78 rfl) rfl ?_; clear hE a; intro a hE
        refine WL.vS hS hE (runs_plain rfl) (Gives.p hE rfl) rfl ?_; clear hE a; intro a hE
        refine WL.nil ?_
        replace hS := hS.tail
        replace hS := hS.tail
        subst hK74
        exact ⟨false, Option.some.inj hq69, hE.pick _ ⟨rfl, trivial⟩, hS⟩
    · replace hq69 := iteF hg77 hq69
      refine WL.no hE (runs_not hE rfl rfl rfl (by rw [hg77]; decide)) rfl ?_; clear hE a; intro a hE
      refine WL.no hE (runs_not hE rfl rfl rfl (by rw [hg77]; decide)) rfl ?_; clear hE a; intro a hE
      refine WL.no hE (runs_not hE rfl rfl rfl (by rw [hg77]; decide)) rfl ?_; clear hE a; intro a hE
      refine WL.vS hS hE (runs_plain rfl) (Gives.pickF hE rfl hg77 rfl) rfl ?_; clear hE a; intro a hE
      refine WL.vS hS hE (runs_plain rfl) (Gives.p hE rfl) rfl ?_; clear hE a; intro a hE
      refine WL.no hE (runs_not hE rfl rfl rfl (by decide)) rfl ?_; clear hE a; intro a hE
      refine WL.no hE (runs_not hE rfl rfl rfl (by decide)) rfl ?_; clear hE a; intro a hE
      refine WL.no hE (runs_not hE rfl rfl rfl (by decide)) rfl ?_; clear hE a; intro a hE
      refine WL.vS hS hE (runs_plain rfl) (Gives.pickF hE rfl rfl rfl) rfl ?_; clear hE a; intro a hE
      refine WL.vS hS hE (runs_plain rfl) (Gives.p hE rfl) rfl ?_; clear hE a; intro a hE
      refine WL.nil ?_
      replace hS := hS.tail
      replace hS := hS.tail
      subst hK74
      exact ⟨false, Option.some.inj hq69, hE.pick _ ⟨rfl, trivial⟩, hS⟩
  · clear hE hS a w; rintro a w ⟨q73, rfl, hE, hS⟩
    refine W.ret ?_
    refine finG (fn := Try.f6) (rs := [.tmp 6]) (vs := [_]) hE rfl ⟨rfl, trivial⟩ ?_
    obtain rfl := Option.some.inj hr
    exact ⟨rfl, (hS.down hle68)⟩
end Go.Proofs.Ytdioaeeaifahnaa
