/- The walks of the functions that FareCheapest reaches: each call comes to what its mirror says. The conditions are those of each contract. -/
import Derived.Test.YtdioaeeaifahnaaProg
import Derived.Test.YtdioaeeaifahnaaFareCheapestM
import Derived.Test.YtdioaeeaifahnaaFpMore
import Derived.Test.YtdioaeeaifahnaaFareCheapestW2
namespace Go.Proofs.Ytdioaeeaifahnaa
open Go Go.Fp
set_option maxHeartbeats 8000000 in
theorem FarePrice_ok {fu : Nat}  {w : World} {s : Sg} {R : List HP} {x0 : FareTariff} {a0_0 : Option Addr} {c0_0 : Nat} {a0_1 : Option Addr} {c0_1 : Nat} {x1 : FareTrip} {a1_0 : Option Addr} {c1_0 : Nat} (hS : St w s (R)) (h0_0 : Sl 2 RFareBand s a0_0 c0_0 x0.Bands) (h0_1 : Sl 7 RFareRule s a0_1 c0_1 x0.Rules) (h1_0 : Sl 1 (RI .i64) s a1_0 c1_0 x1.Zones) {r : Int × (List Int) × Int} (hr : FarePrice fu x0 x1 = some r) :
    Calls Try.prog 62 [.agg [.bool x0.ByKm, .slice a0_0 x0.Bands.length c0_0, .int .i64 x0.Round, .slice a0_1 x0.Rules.length c0_1].toArray, .agg [.int .i64 x1.Day, .int .i64 x1.At, .int .i64 x1.Km, .int .i64 x1.Age, .bool x1.Card, .slice a1_0 x1.Zones.length c1_0].toArray].toArray w (fun e w => ∃ (a1 : Option Addr) (c1 n1 : Nat) (cs1 : List Value), e = .returned (.tuple #[.int .i64 r.1, .slice a1 n1 c1, .int .i64 r.2.2]) ∧ Ev 1 (RI .i64) s cs1 r.2.1 ∧ r.2.1.length = n1 ∧ St w s (vecC 3 1 a1 c1 n1 cs1 :: R)) := by
  refine enter Try.func62 rfl rfl rfl fun a hE => ?_
  rw [FarePrice] at hr
  refine W.seq ?_
  refine W.region ?_
  refine WL.box hE hS (runs_plain rfl) rfl rfl rfl ?_; clear hE hS a w; intro b51 a w hE hS
  refine WL.box hE hS (runs_plain rfl) rfl rfl rfl ?_; clear hE hS a w; intro b52 a w hE hS
  refine WL.vS hS hE (runs_plain rfl) (Gives.p hE rfl) rfl ?_; clear hE a; intro a hE
  refine WL.vS hS hE (runs_plain rfl) (Gives.p hE rfl) rfl ?_; clear hE a; intro a hE
  refine WL.vS hS hE (runs_plain rfl) (Gives.p hE rfl) rfl ?_; clear hE a; intro a hE
  refine WL.nil ?_
  refine W.seq ?_
  refine W.seq ?_
  refine W.region ?_
  refine WL.vS hS hE (runs_plain rfl) (Gives.loadBA hE 1 rfl rfl ty25) rfl ?_; clear hE a; intro a hE
  obtain ⟨q53, hq54, hr⟩ := bindS hr
  have hc_ := FareCheckTariff_ok hS h0_0 h0_1 hq54
  refine WL.fnq hE (hc_) (runs_plain rfl) bd47 rfl rfl rfl ?_
  clear hE hS hc_; rintro e w ⟨rfl, hS⟩; refine ⟨_, rfl, ?_⟩; clear a; intro a hE
  refine WL.vS hS hE (runs_plain rfl) (Gives.p hE rfl) rfl ?_; clear hE a; intro a hE
  refine WL.nil ?_
  refine W.seq ?_
  refine W.region ?_
  refine WL.vS hS hE (runs_plain rfl) (Gives.p hE rfl) rfl ?_; clear hE a; intro a hE
  refine WL.vS hS hE (runs_plain rfl) (Gives.p hE rfl) rfl ?_; clear hE a; intro a hE
  refine WL.nil ?_
  refine W.cond hE rfl (fun hc55 => ?_) (fun hc55 => ?_)
  · replace hr := iteT hc55 hr
    refine W.seq ?_
    refine W.region ?_
    refine WL.vS hS hE (runs_plain rfl) (Gives.p hE rfl) rfl ?_; clear hE a; intro a hE
    refine WL.vS hS hE (runs_plain rfl) (Gives.p hE rfl) rfl ?_; clear hE a; intro a hE
    refine WL.vS hS hE (runs_plain rfl) (Gives.p hE rfl) rfl ?_; clear hE a; intro a hE
    refine WL.vS hS hE (runs_plain rfl) (Gives.p hE rfl) rfl ?_; clear hE a; intro a hE
    refine WL.nil ?_
    refine W.ret ?_
    replace hS := hS.vecNil 3 1
    refine finG (fn := Try.f62) (rs := [.tmp 4, .tmp 5, .tmp 6]) (vs := [_, _, _]) hE rfl ⟨rfl, rfl, rfl, trivial⟩ ?_
    obtain rfl := Option.some.inj hr
    replace hS := hS.dropAt 1
    replace hS := hS.dropAt 1
    exact ⟨none, 0, 0, [], rfl, (Ev.nil), (rfl), hS⟩
  · replace hr := iteF hc55 hr
    refine W.skip ?_
    refine W.seq ?_
    refine W.seq ?_
    refine W.region ?_
    refine WL.vS hS hE (runs_plain rfl) (Gives.loadBA hE 0 rfl rfl ty93) rfl ?_; clear hE a; intro a hE
    obtain ⟨q57, hq58, hr⟩ := bindS hr
    have hc_ := FareCheckTrip_ok hS h1_0 hq58
    refine WL.fnq hE (hc_) (runs_plain rfl) bd48 rfl rfl rfl ?_
    clear hE hS hc_; rintro e w ⟨rfl, hS⟩; refine ⟨_, rfl, ?_⟩; clear a; intro a hE
    refine WL.vS hS hE (runs_plain rfl) (Gives.p hE rfl) rfl ?_; clear hE a; intro a hE
    refine WL.nil ?_
    refine W.seq ?_
    refine W.region ?_
    refine WL.vS hS hE (runs_plain rfl) (Gives.p hE rfl) rfl ?_; clear hE a; intro a hE
    refine WL.vS hS hE (runs_plain rfl) (Gives.p hE rfl) rfl ?_; clear hE a; intro a hE
    refine WL.nil ?_
    refine W.cond hE rfl (fun hc59 => ?_) (fun hc59 => ?_)
    · replace hr := iteT hc59 hr
      refine W.seq ?_
      refine W.region ?_
      refine WL.vS hS hE (runs_plain rfl) (Gives.p hE rfl) rfl ?_; clear hE a; intro a hE
      refine WL.vS hS hE (runs_plain rfl) (Gives.p hE rfl) rfl ?_; clear hE a; intro a hE
      refine WL.vS hS hE (runs_plain rfl) (Gives.p hE rfl) rfl ?_; clear hE a; intro a hE
      refine WL.vS hS hE (runs_plain rfl) (Gives.p hE rfl) rfl ?_; clear hE a; intro a hE
      refine WL.nil ?_
      refine W.ret ?_
      replace hS := hS.vecNil 3 1
      refine finG (fn := Try.f62) (rs := [.tmp 4, .tmp 5, .tmp 6]) (vs := [_, _, _]) hE rfl ⟨rfl, rfl, rfl, trivial⟩ ?_
      obtain rfl := Option.some.inj hr
      replace hS := hS.dropAt 1
      replace hS := hS.dropAt 1
      exact ⟨none, 0, 0, [], rfl, (Ev.nil), (rfl), hS⟩
    · replace hr := iteF hc59 hr
      refine W.skip ?_
      refine W.seq ?_
      refine W.region ?_
      refine WL.vS hS hE (runs_plain rfl) (Gives.loadBA hE 1 rfl rfl ty25) rfl ?_; clear hE a; intro a hE
      refine WL.vS hS hE (runs_plain rfl) (Gives.loadBA hE 0 rfl rfl ty93) rfl ?_; clear hE a; intro a hE
      obtain ⟨q61, hq62, hr⟩ := bindS hr
      have hc_ := FareTariffprice_ok hS h0_0 h0_1 h1_0 hq62
      refine WL.fnq hE (hc_) (runs_plain rfl) bd49 rfl rfl rfl ?_
      clear hE hS hc_; rintro e w ⟨a63, c64, n65, cs66, rfl, h67, rfl, hS⟩; refine ⟨_, rfl, ?_⟩; clear a; intro a hE
      refine WL.vS hS hE (runs_plain rfl) (Gives.p hE rfl) rfl ?_; clear hE a; intro a hE
      refine WL.vS hS hE (runs_plain rfl) (Gives.p hE rfl) rfl ?_; clear hE a; intro a hE
      refine WL.vS hS hE (runs_plain rfl) (Gives.p hE rfl) rfl ?_; clear hE a; intro a hE
      refine WL.vS hS hE (runs_plain rfl) (Gives.p hE rfl) rfl ?_; clear hE a; intro a hE
      refine WL.vS hS hE (runs_plain rfl) (Gives.p hE rfl) rfl ?_; clear hE a; intro a hE
      refine WL.nil ?_
      refine W.seq ?_
      refine W.region ?_
      refine WL.vS hS hE (runs_plain rfl) (Gives.p hE rfl) rfl ?_; clear hE a; intro a hE
      refine WL.vS hS hE (runs_plain rfl) (Gives.p hE rfl) rfl ?_; clear hE a; intro a hE
      refine WL.vS hS hE (runs_plain rfl) (Gives.p hE rfl) rfl ?_; clear hE a; intro a hE
      refine WL.vS hS hE (runs_plain rfl) (Gives.p hE rfl) rfl ?_; clear hE a; intro a hE
      refine WL.vS hS hE (runs_plain rfl) (Gives.p hE rfl) rfl ?_; clear hE a; intro a hE
      refine WL.nil ?_
      refine W.ret ?_
      refine finG (fn := Try.f62) (rs := [.tmp 4, .tmp 5, .tmp 6]) (vs := [_, _, _]) hE rfl ⟨rfl, rfl, rfl, trivial⟩ ?_
      obtain rfl := Option.some.inj hr
      replace hS := hS.dropAt 1
      replace hS := hS.dropAt 1
      exact ⟨a63, c64, q61.2.length, cs66, rfl, h67, rfl, hS⟩
set_option maxHeartbeats 8000000 in
theorem SlicesEqualLint_ok  {w : World} {s : Sg} {R : List HP} {x0 : List Int} {a0 : Option Addr} {c0 : Nat} {x1 : List Int} {a1 : Option Addr} {c1 : Nat} (hS : St w s (R)) (h0 : Sl 1 (RI .i64) s a0 c0 x0) (h1 : Sl 1 (RI .i64) s a1 c1 x1) {r : Bool} (hr : SlicesEqualLint x0 x1 = some r) :
    Calls Try.prog 21 [.slice a0 x0.length c0, .slice a1 x1.length c1].toArray w (fun e w => e = .returned (.bool r) ∧ St w s (R)) := by
  refine enter Try.func21 rfl rfl rfl fun a hE => ?_
  rw [SlicesEqualLint] at hr
  refine W.seq ?_
  refine W.region ?_
  refine WL.vS hS hE (runs_plain rfl) (Gives.p hE rfl) rfl ?_; clear hE a; intro a hE
  refine WL.nil ?_
  refine W.seq ?_
  refine W.seq ?_
  refine W.region ?_
  refine WL.vS hS hE (runs_plain rfl) (Gives.p hE rfl) rfl ?_; clear hE a; intro a hE
  refine WL.vS hS hE (runs_plain rfl) (Gives.len hE rfl sl41) rfl ?_; clear hE a; intro a hE
  refine WL.vS hS hE (runs_plain rfl) (Gives.p hE rfl) rfl ?_; clear hE a; intro a hE
  refine WL.vS hS hE (runs_plain rfl) (Gives.len hE rfl sl41) rfl ?_; clear hE a; intro a hE
  refine WL.vS hS hE (runs_plain rfl) (Gives.p hE rfl) rfl ?_; clear hE a; intro a hE
  refine WL.nil ?_
  refine W.cond hE rfl (fun hc51 => ?_) (fun hc51 => ?_)
  · replace hr := iteT hc51 hr
    refine W.seq ?_
    refine W.region ?_
    refine WL.vS hS hE (runs_plain rfl) (Gives.p hE rfl) rfl ?_; clear hE a; intro a hE
    refine WL.nil ?_
    refine W.ret ?_
    refine finG (fn := Try.f21) (rs := [.tmp 4]) (vs := [_]) hE rfl ⟨rfl, trivial⟩ ?_
    obtain rfl := Option.some.inj hr
    exact ⟨rfl, hS⟩
  · replace hr := iteF hc51 hr
    refine W.skip ?_
    refine W.seq ?_
    refine W.seq ?_
    refine W.region ?_
    refine WL.vS hS hE (runs_plain rfl) (Gives.p hE rfl) rfl ?_; clear hE a; intro a hE
    refine WL.vS hS hE (runs_plain rfl) (Gives.len hE rfl sl41) rfl ?_; clear hE a; intro a hE
    refine WL.vS hS hE (runs_plain rfl) (Gives.p hE rfl) rfl ?_; clear hE a; intro a hE
    refine WL.nil ?_
    obtain ⟨q53, hq52, hr⟩ := bindS hr
    refine W.cut (fun a w => (.next ()) = q53 ∧ Rep a 26 [] ∧ St w s (R)) ?_ ?_
    · refine W.block ?_
      refine W.loop (fun m a w => ∃ (rest56 : List Int) (k54 : Nat), rest56.length = m ∧ x0.drop k54 = rest56 ∧ SlicesEqualLint.loop1 x1 rest56 k54 = some q53 ∧ Rep a 26 [(0, .slice a0 x0.length c0), (1, .slice a1 x1.length c1), (12, .int .i64 ((x0).length : Int)), (13, .int .i64 ((k54 : Nat) : Int))] ∧ St w s (R)) (m := x0.length) ⟨x0, 0, rfl, rfl, hq52, hE.pick _ ⟨rfl, rfl, rfl, rfl, trivial⟩, hS⟩ ?_
      clear hE hS a w hq52; rintro m60 a w ⟨rest56, k54, rfl, hd57, hq52, hE, hS⟩
      refine W.gen fun K63 hK63 => ?_
      rcases rest56 with _ | ⟨x55, rest56⟩
      · have hlt58 := drop_nil hd57
        refine W.seq ?_
        refine W.region ?_
        refine WL.vS hS hE (runs_plain rfl) (Gives.p hE rfl) rfl ?_; clear hE a; intro a hE
        refine WL.nil ?_
        refine W.seq ?_
        refine W.condF hE rfl (decide_eq_false (by omega)) ?_
        subst hK63
        refine W.exit rfl ?_
        exact ⟨Option.some.inj hq52, hE.pick _ trivial, hS⟩
      · obtain ⟨hlt58, hx59, hd57⟩ := drop_cons hd57
        rw [SlicesEqualLint.loop1] at hq52
        refine W.seq ?_
        refine W.region ?_
        refine WL.vS hS hE (runs_plain rfl) (Gives.p hE rfl) rfl ?_; clear hE a; intro a hE
        refine WL.nil ?_
        refine W.seq ?_
        refine W.condT hE rfl (decide_eq_true (by omega)) ?_
        refine W.skip ?_
        refine W.seq ?_
        refine W.block ?_
        refine W.seq ?_
        refine W.region ?_
        refine WL.vS hS hE (runs_plain rfl) (Gives.p hE rfl) rfl ?_; clear hE a; intro a hE
        refine WL.vS hS hE (runs_plain rfl) (Gives.p hE rfl) rfl ?_; clear hE a; intro a hE
        refine WL.nil ?_
        refine W.seq ?_
        refine W.regionQ (C := fun w => St w s (R)) mixed (by kernel_rfl) hS.drew ?_
        refine QL.v hE (runs_plain rfl) (Gives.p hE rfl) rfl ?_; clear hE a; intro a hE
        refine QL.v hE (runs_plain rfl) (Gives.p hE rfl) rfl ?_; clear hE a; intro a hE
        obtain ⟨cs64, hl65, hR66, hat67⟩ := h0.at hx59
        subst hR66
        refine QL.v hE (runs_plain rfl) (Gives.idx hE k54 rfl rfl sl41 rfl hlt58 (h0.aok hlt58)) rfl ?_; clear hE a; intro a hE
        refine QL.v hE (runs_plain rfl) (Gives.load1 hE rfl (fun w h => hat67 w _ h) ty3) rfl ?_; clear hE a; intro a hE
        refine QL.v hE (runs_plain rfl) (Gives.p hE rfl) rfl ?_; clear hE a; intro a hE
        refine QL.v hE (runs_plain rfl) (Gives.p hE rfl) rfl ?_; clear hE a; intro a hE
        obtain ⟨x68, hx69, hq52⟩ := bindS hq52
        obtain ⟨hi70, hlt71, hy72⟩ := gx_some hx69
        obtain ⟨cs73, hl74, hR75, hat76⟩ := h1.at hy72
        subst hR75
        refine QL.v hE (runs_plain rfl) (Gives.idx hE (((k54 : Nat) : Int)).toNat rfl rfl sl41 hi70 hlt71 (h1.aok hlt71)) rfl ?_; clear hE a; intro a hE
        refine QL.v hE (runs_plain rfl) (Gives.load1 hE rfl (fun w h => hat76 w _ h) ty3) rfl ?_; clear hE a; intro a hE
        refine QL.v hE (runs_plain rfl) (Gives.p hE rfl) rfl ?_; clear hE a; intro a hE
        refine QL.nil ?_; clear hS w; intro w hS
        refine W.cond hE rfl (fun hc77 => ?_) (fun hc77 => ?_)
        · replace hq52 := iteT hc77 hq52
          refine W.seq ?_
          refine W.region ?_
          refine WL.vS hS hE (runs_plain rfl) (Gives.p hE rfl) rfl ?_; clear hE a; intro a hE
          refine WL.nil ?_
          refine W.ret ?_
          subst hK63
          rw [← Option.some.inj hq52] at hr
          dsimp only at hr
          refine finG (fn := Try.f21) (rs := [.tmp 4]) (vs := [_]) hE rfl ⟨rfl, trivial⟩ ?_
          obtain rfl := Option.some.inj hr
          exact ⟨rfl, hS⟩
        · replace hq52 := iteF hc77 hq52
          refine W.skip ?_
          refine W.region ?_
          refine WL.vS hS hE (runs_plain rfl) (Gives.inc hE rfl (by have := h0.small; omega)) rfl ?_; clear hE a; intro a hE
          refine WL.vS hS hE (runs_plain rfl) (Gives.p hE rfl) rfl ?_; clear hE a; intro a hE
          refine WL.nil ?_
          subst hK63
          exact ⟨rest56.length, Nat.lt_succ_self _, rest56, k54 + 1, rfl, hd57, hq52, hE.pick _ ⟨rfl, rfl, rfl, rfl, trivial⟩, hS⟩
    · clear hE hS a w; rintro a w ⟨rfl, hE, hS⟩
      dsimp only at hr
      refine W.seq ?_
      refine W.region ?_
      refine WL.vS hS hE (runs_plain rfl) (Gives.p hE rfl) rfl ?_; clear hE a; intro a hE
      refine WL.nil ?_
      refine W.ret ?_
      refine finG (fn := Try.f21) (rs := [.tmp 4]) (vs := [_]) hE rfl ⟨rfl, trivial⟩ ?_
      obtain rfl := Option.some.inj hr
      exact ⟨rfl, hS⟩
set_option maxHeartbeats 8000000 in
theorem Fishlaw2fares_ok {fu : Nat}  {w : World} {s : Sg} {R : List HP}  (hS : St w s (R))  {r : Bool} (hr : Fishlaw2fares fu = some r) :
    Calls Try.prog 12 [].toArray w (fun e w => e = .returned (.bool r) ∧ St w s (R)) := by
  refine enter Try.func12 rfl rfl rfl fun a hE => ?_
  rw [Fishlaw2fares] at hr
  refine W.seq ?_
  refine W.region ?_
  refine WL.vS hS hE (runs_plain rfl) (Gives.p hE rfl) rfl ?_; clear hE a; intro a hE
  refine WL.nil ?_
  refine W.seq ?_
  refine W.region ?_
  refine WL.vS hS hE (runs_plain rfl) (Gives.build hE (vs := [(0, .int .i64 3), (1, .int .i64 500)]) [.int .i64 3, .int .i64 500] rfl (by kernel_rfl)) rfl ?_; clear hE a; intro a hE
  refine WL.lit hE hS (e := 108) (es := 2) (vs := [(0, .agg [.int .i64 3, .int .i64 500].toArray)]) (cs := [.int .i64 3, .int .i64 500]) (runs_plain rfl) rfl (by kernel_rfl) rfl ?_; clear hE hS a w; intro b51 a w hE hS
  replace hS := hS.ptVec (es := 2) (m := 1) rfl (by decide)
  have h53 : Ev 2 RFareBand s [.int .i64 3, .int .i64 500] [(FareBand.mk 3 500)] := (Ev.cons (c1 := [.int .i64 3, .int .i64 500]) rfl rfl (Ev.nil))
  have hF := hS.fixD RFareBand.mono 0 rfl h53 (rfl); clear hS; obtain ⟨s54, hle55, hS, h56⟩ := hF
  refine WL.vS hS hE (runs_plain rfl) (Gives.build hE (vs := [(0, .int .i64 2), (2, .int .i64 14)]) [.int .i64 2, .int .i64 0, .int .i64 14, .slice none 0 0] rfl (by kernel_rfl)) rfl ?_; clear hE a; intro a hE
  refine WL.vS hS hE (runs_plain rfl) (Gives.build hE (vs := [(0, .agg [.int .i64 2, .int .i64 0, .int .i64 14, .slice none 0 0].toArray), (1, .int .i64 1), (2, .int .i64 50)]) [.int .i64 2, .int .i64 0, .int .i64 14, .slice none 0 0, .int .i64 1, .int .i64 50, .bool false] rfl (by kernel_rfl)) rfl ?_; clear hE a; intro a hE
  refine WL.lit hE hS (e := 113) (es := 7) (vs := [(0, .agg [.int .i64 2, .int .i64 0, .int .i64 14, .slice none 0 0, .int .i64 1, .int .i64 50, .bool false].toArray)]) (cs := [.int .i64 2, .int .i64 0, .int .i64 14, .slice none 0 0, .int .i64 1, .int .i64 50, .bool false]) (runs_plain rfl) rfl (by kernel_rfl) rfl ?_; clear hE hS a w; intro b57 a w hE hS
  replace hS := hS.ptVec (es := 7) (m := 1) rfl (by decide)
  have h59 : Ev 7 RFareRule s54 [.int .i64 2, .int .i64 0, .int .i64 14, .slice none 0 0, .int .i64 1, .int .i64 50, .bool false] [(FareRule.mk (FareCond.mk 2 0 14 []) 1 50 false)] := (Ev.cons (c1 := [.int .i64 2, .int .i64 0, .int .i64 14, .slice none 0 0, .int .i64 1, .int .i64 50, .bool false]) ⟨_, _, rfl, Sl.nil⟩ rfl (Ev.nil))
  have hF := hS.fixD RFareRule.mono 0 rfl h59 (rfl); clear hS; obtain ⟨s60, hle61, hS, h62⟩ := hF
  replace h56 := Sl.mono RFareBand.mono hle61 h56
  refine WL.vS hS hE (runs_plain rfl) (Gives.build hE (vs := [(1, .slice (some ⟨b51, 0, none⟩) 1 1), (2, .int .i64 50), (3, .slice (some ⟨b57, 0, none⟩) 1 1)]) [.bool false, .slice (some ⟨b51, 0, none⟩) 1 1, .int .i64 50, .slice (some ⟨b57, 0, none⟩) 1 1] rfl (by kernel_rfl)) rfl ?_; clear hE a; intro a hE
  refine WL.alloc hE hS (runs_plain rfl) zr25 rfl ?_; clear hE hS a w; intro b63 a w hE hS
  refine WL.storeI hE hS 0 rfl [.bool false, .slice (some ⟨b51, 0, none⟩) 1 1, .int .i64 50, .slice (some ⟨b57, 0, none⟩) 1 1] (runs_plain rfl) rfl rfl rfl ty25 rfl rfl rfl rfl ?_; clear hE hS a w; intro a w hE hS
  refine WL.nil ?_
  refine W.seq ?_
  refine W.region ?_
  refine WL.vS hS hE (runs_plain rfl) (Gives.loadBA hE 0 rfl rfl ty25) rfl ?_; clear hE a; intro a hE
  refine WL.lit hE hS (e := 3) (es := 1) (vs := [(0, .int .i64 1), (1, .int .i64 2)]) (cs := [.int .i64 1, .int .i64 2]) (runs_plain rfl) rfl (by kernel_rfl) rfl ?_; clear hE hS a w; intro b64 a w hE hS
  replace hS := hS.ptVec (es := 1) (m := 2) rfl (by decide)
  have h66 : Ev 1 (RI .i64) s60 [.int .i64 1, .int .i64 2] [1, 2] := (Ev.cons (c1 := [.int .i64 1]) rfl rfl (Ev.cons (c1 := [.int .i64 2]) rfl rfl (Ev.nil)))
  have hF := hS.fixD RI.mono 0 rfl h66 (rfl); clear hS; obtain ⟨s67, hle68, hS, h69⟩ := hF
  replace h56 := Sl.mono RFareBand.mono hle68 h56
  replace h62 := Sl.mono RFareRule.mono hle68 h62
  refine WL.vS hS hE (runs_plain rfl) (Gives.build hE (vs := [(3, .int .i64 10), (5, .slice (some ⟨b64, 0, none⟩) 2 2)]) [.int .i64 0, .int .i64 0, .int .i64 0, .int .i64 10, .bool false, .slice (some ⟨b64, 0, none⟩) 2 2] rfl (by kernel_rfl)) rfl ?_; clear hE a; intro a hE
  obtain ⟨q70, hq71, hr⟩ := bindS hr
  have hc_ := FarePrice_ok hS h56 h62 h69 hq71
  refine WL.fnq hE (hc_) (runs_plain rfl) bd62 rfl rfl rfl ?_
  clear hE hS hc_; rintro e w ⟨a72, c73, n74, cs75, rfl, h76, rfl, hS⟩; refine ⟨_, rfl, ?_⟩; clear a; intro a hE
  refine WL.vS hS hE (runs_plain rfl) (Gives.p hE rfl) rfl ?_; clear hE a; intro a hE
  refine WL.vS hS hE (runs_plain rfl) (Gives.p hE rfl) rfl ?_; clear hE a; intro a hE
  refine WL.vS hS hE (runs_plain rfl) (Gives.p hE rfl) rfl ?_; clear hE a; intro a hE
  refine WL.vS hS hE (runs_plain rfl) (Gives.p hE rfl) rfl ?_; clear hE a; intro a hE
  refine WL.vS hS hE (runs_plain rfl) (Gives.p hE rfl) rfl ?_; clear hE a; intro a hE
  refine WL.vS hS hE (runs_plain rfl) (Gives.p hE rfl) rfl ?_; clear hE a; intro a hE
  refine WL.vS hS hE (runs_plain rfl) (Gives.p hE rfl) rfl ?_; clear hE a; intro a hE
  refine WL.nil ?_
  refine W.seq ?_
  obtain ⟨q79, hq78, hr⟩ := bindS hr
  refine W.cut (fun a w => ∃ (q82 : Bool), ∃ (s80 : Sg), s67.Le s80 ∧ q82 = q79 ∧ Rep a 30 [(0, .bool q82)] ∧ St w s80 (pt b63 (.cells #[.bool false, .slice (some ⟨b51, 0, none⟩) 1 1, .int .i64 50, .slice (some ⟨b57, 0, none⟩) 1 1] 25 (0, 0)) :: R)) ?_ ?_
  · refine W.gen fun K83 hK83 => ?_
    refine W.region ?_
    refine WL.vS hS hE (runs_plain rfl) (Gives.p hE rfl) rfl ?_; clear hE a; intro a hE
    refine WL.vS hS hE (runs_plain rfl) (Gives.p hE rfl) rfl ?_; clear hE a; intro a hE
    refine WL.vS hS hE (runs_plain rfl) (Gives.p hE rfl) rfl ?_; clear hE a; intro a hE
    rcases Bool.eq_false_or_eq_true (q70.2.2 == 0) with hg84 | hg84
    · replace hq78 := iteT hg84 hq78
      refine WL.vS hS hE (runs_if hE rfl rfl rfl hg84) (Gives.p hE rfl) rfl ?_; clear hE a; intro a hE
      refine WL.vS hS hE (runs_if hE rfl rfl rfl hg84) (Gives.p hE rfl) rfl ?_; clear hE a; intro a hE
      refine WL.vS hS hE (runs_plain rfl) (Gives.pickT hE rfl hg84 rfl) rfl ?_; clear hE a; intro a hE
      refine WL.vS hS hE (runs_plain rfl) (Gives.p hE rfl) rfl ?_; clear hE a; intro a hE
      rcases Bool.eq_false_or_eq_true (q70.1 == 250) with hg85 | hg85
      · replace hq78 := iteT hg85 hq78
        refine WL.vS hS hE (runs_if hE rfl rfl rfl hg85) (Gives.p hE rfl) rfl ?_; clear hE a; intro a hE
        refine WL.lit hE hS (e := 3) (es := 1) (vs := [(0, .int .i64 0)]) (cs := [.int .i64 0]) (runs_if hE rfl rfl rfl hg85) rfl (by kernel_rfl) rfl ?_; clear hE hS a w; intro b86 a w hE hS
        replace hS := hS.ptVec (es := 1) (m := 1) rfl (by decide)
        have h88 : Ev 1 (RI .i64) s67 [.int .i64 0] [0] := (Ev.cons (c1 := [.int .i64 0]) rfl rfl (Ev.nil))
        have hF := hS.fixD RI.mono 0 rfl h88 (rfl); clear hS; obtain ⟨s89, hle90, hS, h91⟩ := hF
        replace h56 := Sl.mono RFareBand.mono hle90 h56
        replace h62 := Sl.mono RFareRule.mono hle90 h62
        replace h69 := Sl.mono RI.mono hle90 h69
        replace h76 := Ev.mono RI.mono hle90 h76
        obtain ⟨q92, hq93, hq78⟩ := bindS hq78
        have hF := hS.lendV RI.mono 0 rfl h76 rfl; clear hS; obtain ⟨t94, hle95, hS, hs96, bk97⟩ := hF
        have hc_ := SlicesEqualLint_ok hS hs96 (Sl.mono RI.mono hle95 h91) hq93
        refine WL.fnq hE (hc_) (runs_if hE rfl rfl rfl hg85) bd21 rfl rfl rfl ?_
        clear hE hS hc_; rintro e w ⟨rfl, hS⟩; refine ⟨_, rfl, ?_⟩; clear a; intro a hE
        replace hS := bk97 _ _ hS
        refine WL.vS hS hE (runs_plain rfl) (Gives.pickT hE rfl hg85 rfl) rfl ?_; clear hE a; intro a hE
        refine WL.vS hS hE (runs_plain rfl) (Gives.p hE rfl) rfl ?_; clear hE a; intro a hE
        refine WL.nil ?_
        replace hS := hS.tail
        subst hK83
        exact ⟨q92, s89, hle90, Option.some.inj hq78, hE.pick _ ⟨rfl, trivial⟩, hS⟩
      · replace hq78 := iteF hg85 hq78
        refine WL.no hE (runs_not hE rfl rfl rfl (by rw [hg85]; decide)) rfl ?_; clear hE a; intro a hE
        refine WL.no hE (runs_not hE rfl rfl rfl (by rw [hg85]; decide)) rfl ?_; clear hE a; intro a hE
        refine WL.no hE (runs_not hE rfl rfl rfl (by rw [hg85]; decide)) rfl ?_; clear hE a; intro a hE
        refine WL.vS hS hE (runs_plain rfl) (Gives.pickF hE rfl hg85 rfl) rfl ?_; clear hE a; intro a hE
        refine WL.vS hS hE (runs_plain rfl) (Gives.p hE rfl) rfl ?_; clear hE a; intro a hE
        refine WL.nil ?_
        replace hS := hS.tail
        subst hK83
        exact ⟨false, s67, (Sg.Le.refl _), Option.some.inj hq78, hE.pick _ ⟨rfl, trivial⟩, hS⟩
    · replace hq78 := iteF hg84 hq78
      refine WL.no hE (runs_not hE rfl rfl rfl (by rw [hg84]; decide)) rfl ?_; clear hE a; intro a hE
      refine WL.no hE (runs_not hE rfl rfl rfl (by rw [hg84]; decide)) rfl ?_; clear hE a; intro a hE
      refine WL.vS hS hE (runs_plain rfl) (Gives.pickF hE rfl hg84 rfl) rfl ?_; clear hE a; intro a hE
      refine WL.vS hS hE (runs_plain rfl) (Gives.p hE rfl) rfl ?_; clear hE a; intro a hE
      refine WL.no hE (runs_not hE rfl rfl rfl (by decide)) rfl ?_; clear hE a; intro a hE
      refine WL.no hE (runs_not hE rfl rfl rfl (by decide)) rfl ?_; clear hE a; intro a hE
      refine WL.no hE (runs_not hE rfl rfl rfl (by decide)) rfl ?_; clear hE a; intro a hE
      refine WL.vS hS hE (runs_plain rfl) (Gives.pickF hE rfl rfl rfl) rfl ?_; clear hE a; intro a hE
      refine WL.vS hS hE (runs_plain rfl) (Gives.p hE rfl) rfl ?_; clear hE a; intro a hE
      refine WL.nil ?_
      replace hS := hS.tail
      subst hK83
      exact ⟨false, s67, (Sg.Le.refl _), Option.some.inj hq78, hE.pick _ ⟨rfl, trivial⟩, hS⟩
  · clear hE hS a w; rintro a w ⟨q82, s80, hle81, rfl, hE, hS⟩
    replace h56 := Sl.mono RFareBand.mono hle81 h56
    replace h62 := Sl.mono RFareRule.mono hle81 h62
    refine W.ret ?_
    refine finG (fn := Try.f12) (rs := [.tmp 0]) (vs := [_]) hE rfl ⟨rfl, trivial⟩ ?_
    obtain rfl := Option.some.inj hr
    replace hS := hS.tail
    exact ⟨rfl, (hS.down (Sg.Le.trans (Sg.Le.trans (Sg.Le.trans hle55 hle61) hle68) hle81))⟩
set_option maxHeartbeats 8000000 in
theorem Fishref2Covered_ok  {w : World} {s : Sg} {R : List HP} {x0 : FarePass} {a0_0 : Option Addr} {c0_0 : Nat} {x1 : Int} {x2 : FareTrip} {a2_0 : Option Addr} {c2_0 : Nat} (hS : St w s (R)) (h0_0 : Sl 1 (RI .i64) s a0_0 c0_0 x0.Zones) (h2_0 : Sl 1 (RI .i64) s a2_0 c2_0 x2.Zones) {r : Bool} (hr : Fishref2Covered x0 x1 x2 = r) :
    Calls Try.prog 99 [.agg [.int .i64 x0.Days, .int .i64 x0.Price, .slice a0_0 x0.Zones.length c0_0].toArray, .int .i64 x1, .agg [.int .i64 x2.Day, .int .i64 x2.At, .int .i64 x2.Km, .int .i64 x2.Age, .bool x2.Card, .slice a2_0 x2.Zones.length c2_0].toArray].toArray w (fun e w => e = .returned (.bool r) ∧ St w s (R)) := by
  refine enter Try.func99 rfl rfl rfl fun a hE => ?_
  rw [Fishref2Covered] at hr
  refine W.seq ?_
  refine W.region ?_
  refine WL.box hE hS (runs_plain rfl) rfl rfl rfl ?_; clear hE hS a w; intro b51 a w hE hS
  refine WL.box hE hS (runs_plain rfl) rfl rfl rfl ?_; clear hE hS a w; intro b52 a w hE hS
  refine WL.vS hS hE (runs_plain rfl) (Gives.p hE rfl) rfl ?_; clear hE a; intro a hE
  refine WL.nil ?_
  refine W.seq ?_
  refine W.seq ?_
  obtain ⟨q54, hq53, hr⟩ := bndS hr
  refine W.cut (fun a w => ∃ (q57 : Bool), q57 = q54 ∧ Rep a 35 [(3, .pointer (some ⟨b51, 0, none⟩)), (5, .pointer (some ⟨b52, 0, none⟩)), (21, .bool q57)] ∧ St w s (pt b52 (.cells #[.int .i64 x2.Day, .int .i64 x2.At, .int .i64 x2.Km, .int .i64 x2.Age, .bool x2.Card, .slice a2_0 x2.Zones.length c2_0] 93 (0, 0)) :: pt b51 (.cells #[.int .i64 x0.Days, .int .i64 x0.Price, .slice a0_0 x0.Zones.length c0_0] 97 (0, 0)) :: R)) ?_ ?_
  · refine W.gen fun K58 hK58 => ?_
    refine W.region ?_
    refine WL.vS hS hE (runs_plain rfl) (Gives.fld hE rfl fl93_0) rfl ?_; clear hE a; intro a hE
    refine WL.vS hS hE (runs_plain rfl) (Gives.loadB hE 0 rfl rfl rfl ty3) rfl ?_; clear hE a; intro a hE
    refine WL.vS hS hE (runs_plain rfl) (Gives.p hE rfl) rfl ?_; clear hE a; intro a hE
    refine WL.vS hS hE (runs_plain rfl) (Gives.p hE rfl) rfl ?_; clear hE a; intro a hE
    refine WL.vS hS hE (runs_plain rfl) (Gives.p hE rfl) rfl ?_; clear hE a; intro a hE
    rcases Bool.eq_false_or_eq_true (decide (x2.Day < x1)) with hg59 | hg59
    · replace hq53 := iteT hg59 hq53
      refine WL.no hE (runs_not hE rfl rfl rfl (by rw [hg59]; decide)) rfl ?_; clear hE a; intro a hE
      refine WL.no hE (runs_not hE rfl rfl rfl (by rw [hg59]; decide)) rfl ?_; clear hE a; intro a hE
      refine WL.no hE (runs_not hE rfl rfl rfl (by rw [hg59]; decide)) rfl ?_; clear hE a; intro a hE
      refine WL.no hE (runs_not hE rfl rfl rfl (by rw [hg59]; decide)) rfl ?_; clear hE a; intro a hE
      refine WL.no hE (runs_not hE rfl rfl rfl (by rw [hg59]; decide)) rfl ?_; clear hE a; intro a hE
      refine WL.no hE (runs_not hE rfl rfl rfl (by rw [hg59]; decide)) rfl ?_; clear hE a; intro a hE
      refine WL.no hE (runs_not hE rfl rfl rfl (by rw [hg59]; decide)) rfl ?_; clear hE a; intro a hE
      refine WL.vS hS hE (runs_plain rfl) (Gives.pickT hE rfl hg59 rfl) rfl ?_; clear hE a; intro a hE
      refine WL.nil ?_
      subst hK58
      exact ⟨true, hq53, hE.pick _ ⟨rfl, rfl, rfl, trivial⟩, hS⟩
    · replace hq53 := iteF hg59 hq53
      refine WL.vS hS hE (runs_if hE rfl rfl rfl hg59) (Gives.fld hE rfl fl93_0) rfl ?_; clear hE a; intro a hE
      refine WL.vS hS hE (runs_if hE rfl rfl rfl hg59) (Gives.loadB hE 0 rfl rfl rfl ty3) rfl ?_; clear hE a; intro a hE
      refine WL.vS hS hE (runs_if hE rfl rfl rfl hg59) (Gives.p hE rfl) rfl ?_; clear hE a; intro a hE
      refine WL.vS hS hE (runs_if hE rfl rfl rfl hg59) (Gives.fld hE rfl fl97_0) rfl ?_; clear hE a; intro a hE
      refine WL.vS hS hE (runs_if hE rfl rfl rfl hg59) (Gives.loadB hE 1 rfl rfl rfl ty3) rfl ?_; clear hE a; intro a hE
      refine WL.vS hS hE (runs_if hE rfl rfl rfl hg59) (Gives.p hE rfl) rfl ?_; clear hE a; intro a hE
      refine WL.vS hS hE (runs_if hE rfl rfl rfl hg59) (Gives.p hE rfl) rfl ?_; clear hE a; intro a hE
      refine WL.vS hS hE (runs_plain rfl) (Gives.pickF hE rfl hg59 rfl) rfl ?_; clear hE a; intro a hE
      refine WL.nil ?_
      subst hK58
      exact ⟨decide (x2.Day ≥ (w64 (x1 + x0.Days))), hq53, hE.pick _ ⟨rfl, rfl, rfl, trivial⟩, hS⟩
  · clear hE hS a w; rintro a w ⟨q57, rfl, hE, hS⟩
    refine W.cond hE rfl (fun hc60 => ?_) (fun hc60 => ?_)
    · replace hr := iteT hc60 hr
      refine W.seq ?_
      refine W.region ?_
      refine WL.vS hS hE (runs_plain rfl) (Gives.p hE rfl) rfl ?_; clear hE a; intro a hE
      refine WL.nil ?_
      refine W.ret ?_
      refine finG (fn := Try.f99) (rs := [.tmp 6]) (vs := [_]) hE rfl ⟨rfl, trivial⟩ ?_
      subst hr
      replace hS := hS.tail
      replace hS := hS.tail
      exact ⟨rfl, hS⟩
    · replace hr := iteF hc60 hr
      refine W.skip ?_
      refine W.seq ?_
      refine W.seq ?_
      refine W.region ?_
      refine WL.vS hS hE (runs_plain rfl) (Gives.fld hE rfl fl93_5) rfl ?_; clear hE a; intro a hE
      refine WL.vS hS hE (runs_plain rfl) (Gives.loadB hE 0 rfl rfl rfl ty41) rfl ?_; clear hE a; intro a hE
      refine WL.vS hS hE (runs_plain rfl) (Gives.len hE rfl sl41) rfl ?_; clear hE a; intro a hE
      refine WL.vS hS hE (runs_plain rfl) (Gives.p hE rfl) rfl ?_; clear hE a; intro a hE
      refine WL.nil ?_
      obtain ⟨q62, hq61, hr⟩ := bndS hr
      refine W.cut (fun a w => (.next ()) = q62 ∧ Rep a 35 [] ∧ St w s (pt b52 (.cells #[.int .i64 x2.Day, .int .i64 x2.At, .int .i64 x2.Km, .int .i64 x2.Age, .bool x2.Card, .slice a2_0 x2.Zones.length c2_0] 93 (0, 0)) :: pt b51 (.cells #[.int .i64 x0.Days, .int .i64 x0.Price, .slice a0_0 x0.Zones.length c0_0] 97 (0, 0)) :: R)) ?_ ?_
      · refine W.block ?_
        refine W.loop (fun m a w => ∃ (rest65 : List Int) (k63 : Nat), rest65.length = m ∧ x2.Zones.drop k63 = rest65 ∧ Fishref2Covered.loop1 x0 rest65 = q62 ∧ Rep a 35 [(3, .pointer (some ⟨b51, 0, none⟩)), (23, .slice a2_0 x2.Zones.length c2_0), (24, .int .i64 ((x2.Zones).length : Int)), (25, .int .i64 ((k63 : Nat) : Int))] ∧ St w s (pt b52 (.cells #[.int .i64 x2.Day, .int .i64 x2.At, .int .i64 x2.Km, .int .i64 x2.Age, .bool x2.Card, .slice a2_0 x2.Zones.length c2_0] 93 (0, 0)) :: pt b51 (.cells #[.int .i64 x0.Days, .int .i64 x0.Price, .slice a0_0 x0.Zones.length c0_0] 97 (0, 0)) :: R)) (m := x2.Zones.length) ⟨x2.Zones, 0, rfl, rfl, hq61, hE.pick _ ⟨rfl, rfl, rfl, rfl, trivial⟩, hS⟩ ?_
        clear hE hS a w hq61; rintro m69 a w ⟨rest65, k63, rfl, hd66, hq61, hE, hS⟩
        refine W.gen fun K72 hK72 => ?_
        rcases rest65 with _ | ⟨x64, rest65⟩
        · have hlt67 := drop_nil hd66
          refine W.seq ?_
          refine W.region ?_
          refine WL.vS hS hE (runs_plain rfl) (Gives.p hE rfl) rfl ?_; clear hE a; intro a hE
          refine WL.nil ?_
          refine W.seq ?_
          refine W.condF hE rfl (decide_eq_false (by omega)) ?_
          subst hK72
          refine W.exit rfl ?_
          exact ⟨hq61, hE.pick _ trivial, hS⟩
        · obtain ⟨hlt67, hx68, hd66⟩ := drop_cons hd66
          rw [Fishref2Covered.loop1] at hq61
          refine W.seq ?_
          refine W.region ?_
          refine WL.vS hS hE (runs_plain rfl) (Gives.p hE rfl) rfl ?_; clear hE a; intro a hE
          refine WL.nil ?_
          refine W.seq ?_
          refine W.condT hE rfl (decide_eq_true (by omega)) ?_
          refine W.skip ?_
          refine W.seq ?_
          refine W.block ?_
          refine W.seq ?_
          refine W.region ?_
          obtain ⟨cs73, hl74, hR75, hat76⟩ := h2_0.at hx68
          subst hR75
          refine WL.vS hS hE (runs_plain rfl) (Gives.idx hE k63 rfl rfl sl41 rfl hlt67 (h2_0.aok hlt67)) rfl ?_; clear hE a; intro a hE
          refine WL.vS hS hE (runs_plain rfl) (Gives.load1 hE rfl (fun w h => hat76 w _ h) ty3) rfl ?_; clear hE a; intro a hE
          refine WL.vS hS hE (runs_plain rfl) (Gives.p hE rfl) rfl ?_; clear hE a; intro a hE
          refine WL.nil ?_
          refine W.seq ?_
          refine W.region ?_
          refine WL.vS hS hE (runs_plain rfl) (Gives.fld hE rfl fl97_2) rfl ?_; clear hE a; intro a hE
          refine WL.vS hS hE (runs_plain rfl) (Gives.loadB hE 1 rfl rfl rfl ty41) rfl ?_; clear hE a; intro a hE
          refine WL.vS hS hE (runs_plain rfl) (Gives.p hE rfl) rfl ?_; clear hE a; intro a hE
          refine WL.fnq hE (SlicesContainsLint_ok hS h0_0 rfl) (runs_plain rfl) bd96 rfl rfl rfl ?_
          clear hE hS; rintro e w ⟨rfl, hS⟩; refine ⟨_, rfl, ?_⟩; clear a; intro a hE
          refine WL.vS hS hE (runs_plain rfl) (Gives.p hE rfl) rfl ?_; clear hE a; intro a hE
          refine WL.nil ?_
          refine W.cond hE rfl (fun hc77 => ?_) (fun hc77 => ?_)
          · replace hq61 := iteT hc77 hq61
            refine W.seq ?_
            refine W.region ?_
            refine WL.vS hS hE (runs_plain rfl) (Gives.p hE rfl) rfl ?_; clear hE a; intro a hE
            refine WL.nil ?_
            refine W.ret ?_
            subst hK72
            rw [← hq61] at hr
            dsimp only at hr
            refine finG (fn := Try.f99) (rs := [.tmp 6]) (vs := [_]) hE rfl ⟨rfl, trivial⟩ ?_
            subst hr
            replace hS := hS.tail
            replace hS := hS.tail
            exact ⟨rfl, hS⟩
          · replace hq61 := iteF hc77 hq61
            refine W.skip ?_
            refine W.region ?_
            refine WL.vS hS hE (runs_plain rfl) (Gives.inc hE rfl (by have := h2_0.small; omega)) rfl ?_; clear hE a; intro a hE
            refine WL.vS hS hE (runs_plain rfl) (Gives.p hE rfl) rfl ?_; clear hE a; intro a hE
            refine WL.nil ?_
            subst hK72
            exact ⟨rest65.length, Nat.lt_succ_self _, rest65, k63 + 1, rfl, hd66, hq61, hE.pick _ ⟨rfl, rfl, rfl, rfl, trivial⟩, hS⟩
      · clear hE hS a w; rintro a w ⟨rfl, hE, hS⟩
        dsimp only at hr
        refine W.seq ?_
        refine W.region ?_
        refine WL.vS hS hE (runs_plain rfl) (Gives.p hE rfl) rfl ?_; clear hE a; intro a hE
        refine WL.nil ?_
        refine W.ret ?_
        refine finG (fn := Try.f99) (rs := [.tmp 6]) (vs := [_]) hE rfl ⟨rfl, trivial⟩ ?_
        subst hr
        replace hS := hS.tail
        replace hS := hS.tail
        exact ⟨rfl, hS⟩
set_option maxHeartbeats 8000000 in
theorem Fishref2HoldsOf_ok : ∀ {fu : Nat} {w : World} {s : Sg} {R : List HP} {x0 : FareCond} {a0_0 : Option Addr} {c0_0 : Nat} {x1 : FareTrip} {a1_0 : Option Addr} {c1_0 : Nat} (_hS : St w s (R)) (_h0_0 : Sl 4 RFareCond s a0_0 c0_0 x0.Kids) (_h1_0 : Sl 1 (RI .i64) s a1_0 c1_0 x1.Zones) {r : Bool} (_hr : Fishref2HoldsOf fu x0 x1 = some r),
    Calls Try.prog 123 [.agg [.int .i64 x0.Kind, .int .i64 x0.A, .int .i64 x0.B, .slice a0_0 x0.Kids.length c0_0].toArray, .agg [.int .i64 x1.Day, .int .i64 x1.At, .int .i64 x1.Km, .int .i64 x1.Age, .bool x1.Card, .slice a1_0 x1.Zones.length c1_0].toArray].toArray w (fun e w => e = .returned (.bool r) ∧ St w s (R)) := by
  intro fu
  induction fu with
  | zero => intro w s R x0 a0_0 c0_0 x1 a1_0 c1_0 hS h0_0 h1_0 r hr; rw [Fishref2HoldsOf] at hr; exact absurd hr (by simp)
  | succ fu ih_Fishref2HoldsOf =>
    intro w s R x0 a0_0 c0_0 x1 a1_0 c1_0 hS h0_0 h1_0 r hr
    rw [Fishref2HoldsOf] at hr
    generalize Fishref2HoldsOf fu = self_Fishref2HoldsOf at hr ih_Fishref2HoldsOf
    refine enter Try.func123 rfl rfl rfl fun a hE => ?_
    refine W.seq ?_
    refine W.region ?_
    refine WL.box hE hS (runs_plain rfl) rfl rfl rfl ?_; clear hE hS a w; intro b51 a w hE hS
    refine WL.box hE hS (runs_plain rfl) rfl rfl rfl ?_; clear hE hS a w; intro b52 a w hE hS
    refine WL.vS hS hE (runs_plain rfl) (Gives.p hE rfl) rfl ?_; clear hE a; intro a hE
    refine WL.nil ?_
    refine W.seq ?_
    refine W.seq ?_
    refine W.region ?_
    refine WL.vS hS hE (runs_plain rfl) (Gives.fld hE rfl fl111_0) rfl ?_; clear hE a; intro a hE
    refine WL.vS hS hE (runs_plain rfl) (Gives.loadB hE 1 rfl rfl rfl ty3) rfl ?_; clear hE a; intro a hE
    refine WL.nil ?_
    refine W.block ?_
    refine W.seq ?_
    refine W.region ?_
    refine WL.vS hS hE (runs_plain rfl) (Gives.p hE rfl) rfl ?_; clear hE a; intro a hE
    refine WL.vS hS hE (runs_plain rfl) (Gives.p hE rfl) rfl ?_; clear hE a; intro a hE
    refine WL.nil ?_
    refine W.cond hE rfl (fun hc53 => ?_) (fun hc53 => ?_)
    · replace hr := iteT hc53 hr
      refine W.seq ?_
      refine W.region ?_
      refine WL.vS hS hE (runs_plain rfl) (Gives.fld hE rfl fl93_4) rfl ?_; clear hE a; intro a hE
      refine WL.vS hS hE (runs_plain rfl) (Gives.loadB hE 0 rfl rfl rfl ty4) rfl ?_; clear hE a; intro a hE
      refine WL.vS hS hE (runs_plain rfl) (Gives.p hE rfl) rfl ?_; clear hE a; intro a hE
      refine WL.nil ?_
      refine W.ret ?_
      refine finG (fn := Try.f123) (rs := [.tmp 4]) (vs := [_]) hE rfl ⟨rfl, trivial⟩ ?_
      obtain rfl := Option.some.inj hr
      replace hS := hS.tail
      replace hS := hS.tail
      exact ⟨rfl, hS⟩
    · replace hr := iteF hc53 hr
      refine W.seq ?_
      refine W.region ?_
      refine WL.vS hS hE (runs_plain rfl) (Gives.p hE rfl) rfl ?_; clear hE a; intro a hE
      refine WL.vS hS hE (runs_plain rfl) (Gives.p hE rfl) rfl ?_; clear hE a; intro a hE
      refine WL.nil ?_
      refine W.cond hE rfl (fun hc54 => ?_) (fun hc54 => ?_)
      · replace hr := iteT hc54 hr
        refine W.seq ?_
        refine W.region ?_
        refine WL.vS hS hE (runs_plain rfl) (Gives.fld hE rfl fl93_3) rfl ?_; clear hE a; intro a hE
        refine WL.vS hS hE (runs_plain rfl) (Gives.loadB hE 0 rfl rfl rfl ty3) rfl ?_; clear hE a; intro a hE
        refine WL.vS hS hE (runs_plain rfl) (Gives.fld hE rfl fl111_1) rfl ?_; clear hE a; intro a hE
        refine WL.vS hS hE (runs_plain rfl) (Gives.loadB hE 1 rfl rfl rfl ty3) rfl ?_; clear hE a; intro a hE
        refine WL.vS hS hE (runs_plain rfl) (Gives.fld hE rfl fl111_2) rfl ?_; clear hE a; intro a hE
        refine WL.vS hS hE (runs_plain rfl) (Gives.loadB hE 1 rfl rfl rfl ty3) rfl ?_; clear hE a; intro a hE
        refine WL.fnq hE (Fishref2within_ok hS  rfl) (runs_plain rfl) bd61 rfl rfl rfl ?_
        clear hE hS; rintro e w ⟨rfl, hS⟩; refine ⟨_, rfl, ?_⟩; clear a; intro a hE
        refine WL.vS hS hE (runs_plain rfl) (Gives.p hE rfl) rfl ?_; clear hE a; intro a hE
        refine WL.nil ?_
        refine W.ret ?_
        refine finG (fn := Try.f123) (rs := [.tmp 4]) (vs := [_]) hE rfl ⟨rfl, trivial⟩ ?_
        obtain rfl := Option.some.inj hr
        replace hS := hS.tail
        replace hS := hS.tail
        exact ⟨rfl, hS⟩
      · replace hr := iteF hc54 hr
        refine W.seq ?_
        refine W.region ?_
        refine WL.vS hS hE (runs_plain rfl) (Gives.p hE rfl) rfl ?_; clear hE a; intro a hE
        refine WL.vS hS hE (runs_plain rfl) (Gives.p hE rfl) rfl ?_; clear hE a; intro a hE
        refine WL.nil ?_
        refine W.cond hE rfl (fun hc55 => ?_) (fun hc55 => ?_)
        · replace hr := iteT hc55 hr
          refine W.seq ?_
          refine W.region ?_
          refine WL.vS hS hE (runs_plain rfl) (Gives.fld hE rfl fl93_1) rfl ?_; clear hE a; intro a hE
          refine WL.vS hS hE (runs_plain rfl) (Gives.loadB hE 0 rfl rfl rfl ty3) rfl ?_; clear hE a; intro a hE
          refine WL.vS hS hE (runs_plain rfl) (Gives.fld hE rfl fl111_1) rfl ?_; clear hE a; intro a hE
          refine WL.vS hS hE (runs_plain rfl) (Gives.loadB hE 1 rfl rfl rfl ty3) rfl ?_; clear hE a; intro a hE
          refine WL.vS hS hE (runs_plain rfl) (Gives.fld hE rfl fl111_2) rfl ?_; clear hE a; intro a hE
          refine WL.vS hS hE (runs_plain rfl) (Gives.loadB hE 1 rfl rfl rfl ty3) rfl ?_; clear hE a; intro a hE
          refine WL.fnq hE (Fishref2within_ok hS  rfl) (runs_plain rfl) bd61 rfl rfl rfl ?_
          clear hE hS; rintro e w ⟨rfl, hS⟩; refine ⟨_, rfl, ?_⟩; clear a; intro a hE
          refine WL.vS hS hE (runs_plain rfl) (Gives.p hE rfl) rfl ?_; clear hE a; intro a hE
          refine WL.nil ?_
          refine W.ret ?_
          refine finG (fn := Try.f123) (rs := [.tmp 4]) (vs := [_]) hE rfl ⟨rfl, trivial⟩ ?_
          obtain rfl := Option.some.inj hr
          replace hS := hS.tail
          replace hS := hS.tail
          exact ⟨rfl, hS⟩
        · replace hr := iteF hc55 hr
          refine W.seq ?_
          refine W.region ?_
          refine WL.vS hS hE (runs_plain rfl) (Gives.p hE rfl) rfl ?_; clear hE a; intro a hE
          refine WL.vS hS hE (runs_plain rfl) (Gives.p hE rfl) rfl ?_; clear hE a; intro a hE
          refine WL.nil ?_
          refine W.cond hE rfl (fun hc56 => ?_) (fun hc56 => ?_)
          · replace hr := iteT hc56 hr
            refine W.seq ?_
            refine W.region ?_
            refine WL.vS hS hE (runs_plain rfl) (Gives.fld hE rfl fl93_2) rfl ?_; clear hE a; intro a hE
            refine WL.vS hS hE (runs_plain rfl) (Gives.loadB hE 0 rfl rfl rfl ty3) rfl ?_; clear hE a; intro a hE
            refine WL.vS hS hE (runs_plain rfl) (Gives.fld hE rfl fl111_1) rfl ?_; clear hE a; intro a hE
            refine WL.vS hS hE (runs_plain rfl) (Gives.loadB hE 1 rfl rfl rfl ty3) rfl ?_; clear hE a; intro a hE
            refine WL.vS hS hE (runs_plain rfl) (Gives.fld hE rfl fl111_2) rfl ?_; clear hE a; intro a hE
            refine WL.vS hS hE (runs_plain rfl) (Gives.loadB hE 1 rfl rfl rfl ty3) rfl ?_; clear hE a; intro a hE
            refine WL.fnq hE (Fishref2within_ok hS  rfl) (runs_plain rfl) bd61 rfl rfl rfl ?_
            clear hE hS; rintro e w ⟨rfl, hS⟩; refine ⟨_, rfl, ?_⟩; clear a; intro a hE
            refine WL.vS hS hE (runs_plain rfl) (Gives.p hE rfl) rfl ?_; clear hE a; intro a hE
            refine WL.nil ?_
            refine W.ret ?_
            refine finG (fn := Try.f123) (rs := [.tmp 4]) (vs := [_]) hE rfl ⟨rfl, trivial⟩ ?_
            obtain rfl := Option.some.inj hr
            replace hS := hS.tail
            replace hS := hS.tail
            exact ⟨rfl, hS⟩
          · replace hr := iteF hc56 hr
            refine W.seq ?_
            refine W.region ?_
            refine WL.vS hS hE (runs_plain rfl) (Gives.p hE rfl) rfl ?_; clear hE a; intro a hE
            refine WL.vS hS hE (runs_plain rfl) (Gives.p hE rfl) rfl ?_; clear hE a; intro a hE
            refine WL.nil ?_
            refine W.cond hE rfl (fun hc57 => ?_) (fun hc57 => ?_)
            · replace hr := iteT hc57 hr
              refine W.seq ?_
              refine W.region ?_
              refine WL.vS hS hE (runs_plain rfl) (Gives.fld hE rfl fl93_5) rfl ?_; clear hE a; intro a hE
              refine WL.vS hS hE (runs_plain rfl) (Gives.loadB hE 0 rfl rfl rfl ty41) rfl ?_; clear hE a; intro a hE
              refine WL.vS hS hE (runs_plain rfl) (Gives.len hE rfl sl41) rfl ?_; clear hE a; intro a hE
              refine WL.vS hS hE (runs_plain rfl) (Gives.fld hE rfl fl111_1) rfl ?_; clear hE a; intro a hE
              refine WL.vS hS hE (runs_plain rfl) (Gives.loadB hE 1 rfl rfl rfl ty3) rfl ?_; clear hE a; intro a hE
              refine WL.vS hS hE (runs_plain rfl) (Gives.fld hE rfl fl111_2) rfl ?_; clear hE a; intro a hE
              refine WL.vS hS hE (runs_plain rfl) (Gives.loadB hE 1 rfl rfl rfl ty3) rfl ?_; clear hE a; intro a hE
              refine WL.fnq hE (Fishref2within_ok hS  rfl) (runs_plain rfl) bd61 rfl rfl rfl ?_
              clear hE hS; rintro e w ⟨rfl, hS⟩; refine ⟨_, rfl, ?_⟩; clear a; intro a hE
              refine WL.vS hS hE (runs_plain rfl) (Gives.p hE rfl) rfl ?_; clear hE a; intro a hE
              refine WL.nil ?_
              refine W.ret ?_
              refine finG (fn := Try.f123) (rs := [.tmp 4]) (vs := [_]) hE rfl ⟨rfl, trivial⟩ ?_
              obtain rfl := Option.some.inj hr
              replace hS := hS.tail
              replace hS := hS.tail
              exact ⟨rfl, hS⟩
            · replace hr := iteF hc57 hr
              refine W.seq ?_
              refine W.region ?_
              refine WL.vS hS hE (runs_plain rfl) (Gives.p hE rfl) rfl ?_; clear hE a; intro a hE
              refine WL.vS hS hE (runs_plain rfl) (Gives.p hE rfl) rfl ?_; clear hE a; intro a hE
              refine WL.nil ?_
              refine W.cond hE rfl (fun hc58 => ?_) (fun hc58 => ?_)
              · replace hr := iteT hc58 hr
                refine W.seq ?_
                refine W.region ?_
                refine WL.vS hS hE (runs_plain rfl) (Gives.fld hE rfl fl93_5) rfl ?_; clear hE a; intro a hE
                refine WL.vS hS hE (runs_plain rfl) (Gives.loadB hE 0 rfl rfl rfl ty41) rfl ?_; clear hE a; intro a hE
                refine WL.vS hS hE (runs_plain rfl) (Gives.fld hE rfl fl111_1) rfl ?_; clear hE a; intro a hE
                refine WL.vS hS hE (runs_plain rfl) (Gives.loadB hE 1 rfl rfl rfl ty3) rfl ?_; clear hE a; intro a hE
                refine WL.fnq hE (SlicesContainsLint_ok hS h1_0 rfl) (runs_plain rfl) bd96 rfl rfl rfl ?_
                clear hE hS; rintro e w ⟨rfl, hS⟩; refine ⟨_, rfl, ?_⟩; clear a; intro a hE
                refine WL.vS hS hE (runs_plain rfl) (Gives.p hE rfl) rfl ?_; clear hE a; intro a hE
                refine WL.nil ?_
                refine W.ret ?_
                refine finG (fn := Try.f123) (rs := [.tmp 4]) (vs := [_]) hE rfl ⟨rfl, trivial⟩ ?_
                obtain rfl := Option.some.inj hr
                replace hS := hS.tail
                replace hS := hS.tail
                exact ⟨rfl, hS⟩
              · replace hr := iteF hc58 hr
                refine W.seq ?_
                refine W.region ?_
                refine WL.vS hS hE (runs_plain rfl) (Gives.p hE rfl) rfl ?_; clear hE a; intro a hE
                refine WL.vS hS hE (runs_plain rfl) (Gives.p hE rfl) rfl ?_; clear hE a; intro a hE
                refine WL.nil ?_
                refine W.cond hE rfl (fun hc59 => ?_) (fun hc59 => ?_)
                · replace hr := iteT hc59 hr
                  refine W.seq ?_
                  refine W.regionQ (C := fun w => St w s (pt b52 (.cells #[.int .i64 x1.Day, .int .i64 x1.At, .int .i64 x1.Km, .int .i64 x1.Age, .bool x1.Card, .slice a1_0 x1.Zones.length c1_0] 93 (0, 0)) :: pt b51 (.cells #[.int .i64 x0.Kind, .int .i64 x0.A, .int .i64 x0.B, .slice a0_0 x0.Kids.length c0_0] 111 (0, 0)) :: R)) mixed (by kernel_rfl) hS.drew ?_
                  refine QL.v hE (runs_plain rfl) (Gives.fld hE rfl fl93_5) rfl ?_; clear hE a; intro a hE
                  refine QL.v hE (runs_plain rfl) (Gives.loadB hE 0 rfl rfl rfl ty41) rfl ?_; clear hE a; intro a hE
                  obtain ⟨x60, hx61, hr⟩ := bindS hr
                  obtain ⟨hi62, hlt63, hy64⟩ := gx_some hx61
                  obtain ⟨cs65, hl66, hR67, hat68⟩ := h1_0.at hy64
                  subst hR67
                  refine QL.v hE (runs_plain rfl) (Gives.idx hE ((0 : Int)).toNat rfl rfl sl41 hi62 hlt63 (h1_0.aok hlt63)) rfl ?_; clear hE a; intro a hE
                  refine QL.v hE (runs_plain rfl) (Gives.load1 hE rfl (fun w h => hat68 w _ h) ty3) rfl ?_; clear hE a; intro a hE
                  refine QL.v hE (runs_plain rfl) (Gives.fld hE rfl fl111_1) rfl ?_; clear hE a; intro a hE
                  refine QL.v hE (runs_plain rfl) (Gives.loadB hE 1 rfl rfl rfl ty3) rfl ?_; clear hE a; intro a hE
                  refine QL.v hE (runs_plain rfl) (Gives.p hE rfl) rfl ?_; clear hE a; intro a hE
                  refine QL.v hE (runs_plain rfl) (Gives.p hE rfl) rfl ?_; clear hE a; intro a hE
                  refine QL.nil ?_; clear hS w; intro w hS
                  refine W.ret ?_
                  refine finG (fn := Try.f123) (rs := [.tmp 4]) (vs := [_]) hE rfl ⟨rfl, trivial⟩ ?_
                  obtain rfl := Option.some.inj hr
                  replace hS := hS.tail
                  replace hS := hS.tail
                  exact ⟨rfl, hS⟩
                · replace hr := iteF hc59 hr
                  refine W.seq ?_
                  refine W.region ?_
                  refine WL.vS hS hE (runs_plain rfl) (Gives.p hE rfl) rfl ?_; clear hE a; intro a hE
                  refine WL.vS hS hE (runs_plain rfl) (Gives.p hE rfl) rfl ?_; clear hE a; intro a hE
                  refine WL.nil ?_
                  refine W.cond hE rfl (fun hc69 => ?_) (fun hc69 => ?_)
                  · replace hr := iteT hc69 hr
                    refine W.seq ?_
                    refine W.regionQ (C := fun w => St w s (pt b52 (.cells #[.int .i64 x1.Day, .int .i64 x1.At, .int .i64 x1.Km, .int .i64 x1.Age, .bool x1.Card, .slice a1_0 x1.Zones.length c1_0] 93 (0, 0)) :: pt b51 (.cells #[.int .i64 x0.Kind, .int .i64 x0.A, .int .i64 x0.B, .slice a0_0 x0.Kids.length c0_0] 111 (0, 0)) :: R)) mixed (by kernel_rfl) hS.drew ?_
                    refine QL.v hE (runs_plain rfl) (Gives.fld hE rfl fl93_5) rfl ?_; clear hE a; intro a hE
                    refine QL.v hE (runs_plain rfl) (Gives.loadB hE 0 rfl rfl rfl ty41) rfl ?_; clear hE a; intro a hE
                    refine QL.v hE (runs_plain rfl) (Gives.fld hE rfl fl93_5) rfl ?_; clear hE a; intro a hE
                    refine QL.v hE (runs_plain rfl) (Gives.loadB hE 0 rfl rfl rfl ty41) rfl ?_; clear hE a; intro a hE
                    refine QL.v hE (runs_plain rfl) (Gives.len hE rfl sl41) rfl ?_; clear hE a; intro a hE
                    refine QL.v hE (runs_plain rfl) (Gives.p hE rfl) rfl ?_; clear hE a; intro a hE
                    obtain ⟨x70, hx71, hr⟩ := bindS hr
                    obtain ⟨hi72, hlt73, hy74⟩ := gx_some hx71
                    obtain ⟨cs75, hl76, hR77, hat78⟩ := h1_0.at hy74
                    subst hR77
                    refine QL.v hE (runs_plain rfl) (Gives.idx hE (w64 (((x1.Zones).length : Int) - 1)).toNat rfl rfl sl41 hi72 hlt73 (h1_0.aok hlt73)) rfl ?_; clear hE a; intro a hE
                    refine QL.v hE (runs_plain rfl) (Gives.load1 hE rfl (fun w h => hat78 w _ h) ty3) rfl ?_; clear hE a; intro a hE
                    refine QL.v hE (runs_plain rfl) (Gives.fld hE rfl fl111_1) rfl ?_; clear hE a; intro a hE
                    refine QL.v hE (runs_plain rfl) (Gives.loadB hE 1 rfl rfl rfl ty3) rfl ?_; clear hE a; intro a hE
                    refine QL.v hE (runs_plain rfl) (Gives.p hE rfl) rfl ?_; clear hE a; intro a hE
                    refine QL.v hE (runs_plain rfl) (Gives.p hE rfl) rfl ?_; clear hE a; intro a hE
                    refine QL.nil ?_; clear hS w; intro w hS
                    refine W.ret ?_
                    refine finG (fn := Try.f123) (rs := [.tmp 4]) (vs := [_]) hE rfl ⟨rfl, trivial⟩ ?_
                    obtain rfl := Option.some.inj hr
                    replace hS := hS.tail
                    replace hS := hS.tail
                    exact ⟨rfl, hS⟩
                  · replace hr := iteF hc69 hr
                    refine W.seq ?_
                    refine W.region ?_
                    refine WL.vS hS hE (runs_plain rfl) (Gives.p hE rfl) rfl ?_; clear hE a; intro a hE
                    refine WL.vS hS hE (runs_plain rfl) (Gives.p hE rfl) rfl ?_; clear hE a; intro a hE
                    refine WL.nil ?_
                    refine W.cond hE rfl (fun hc79 => ?_) (fun hc79 => ?_)
                    · replace hr := iteT hc79 hr
                      refine W.seq ?_
                      refine W.regionQ (C := fun w => St w s (pt b52 (.cells #[.int .i64 x1.Day, .int .i64 x1.At, .int .i64 x1.Km, .int .i64 x1.Age, .bool x1.Card, .slice a1_0 x1.Zones.length c1_0] 93 (0, 0)) :: pt b51 (.cells #[.int .i64 x0.Kind, .int .i64 x0.A, .int .i64 x0.B, .slice a0_0 x0.Kids.length c0_0] 111 (0, 0)) :: R)) mixed (by kernel_rfl) hS.drew ?_
                      refine QL.v hE (runs_plain rfl) (Gives.fld hE rfl fl111_3) rfl ?_; clear hE a; intro a hE
                      refine QL.v hE (runs_plain rfl) (Gives.loadB hE 1 rfl rfl rfl ty109) rfl ?_; clear hE a; intro a hE
                      obtain ⟨x80, hx81, hr⟩ := bindS hr
                      obtain ⟨hi82, hlt83, hy84⟩ := gx_some hx81
                      obtain ⟨cs85, hl86, hR87, hat88⟩ := h0_0.at hy84
                      obtain ⟨a89, c90, rfl, h91⟩ := hR87.unf
                      refine QL.v hE (runs_plain rfl) (Gives.idx hE ((0 : Int)).toNat rfl rfl sl109 hi82 hlt83 (h0_0.aok hlt83)) rfl ?_; clear hE a; intro a hE
                      refine QL.v hE (runs_plain rfl) (Gives.loadA hE rfl (fun w h => hat88 w _ h) ty111) rfl ?_; clear hE a; intro a hE
                      refine QL.v hE (runs_plain rfl) (Gives.loadBA hE 0 rfl rfl ty93) rfl ?_; clear hE a; intro a hE
                      obtain ⟨q92, hq93, hr⟩ := bindS hr
                      refine QL.fnq hE (fun w hS => ih_Fishref2HoldsOf hS h91 h1_0 hq93) (runs_plain rfl) bd123 rfl rfl rfl ?_; clear hE a; intro a hE
                      refine QL.v hE (runs_plain rfl) (Gives.p hE rfl) rfl ?_; clear hE a; intro a hE
                      refine QL.v hE (runs_plain rfl) (Gives.p hE rfl) rfl ?_; clear hE a; intro a hE
                      refine QL.nil ?_; clear hS w; intro w hS
                      refine W.ret ?_
                      refine finG (fn := Try.f123) (rs := [.tmp 4]) (vs := [_]) hE rfl ⟨rfl, trivial⟩ ?_
                      obtain rfl := Option.some.inj hr
                      replace hS := hS.tail
                      replace hS := hS.tail
                      exact ⟨rfl, hS⟩
                    · replace hr := iteF hc79 hr
                      refine W.seq ?_
                      refine W.region ?_
                      refine WL.vS hS hE (runs_plain rfl) (Gives.p hE rfl) rfl ?_; clear hE a; intro a hE
                      refine WL.vS hS hE (runs_plain rfl) (Gives.p hE rfl) rfl ?_; clear hE a; intro a hE
                      refine WL.nil ?_
                      refine W.cond hE rfl (fun hc94 => ?_) (fun hc94 => ?_)
                      · replace hr := iteT hc94 hr
                        refine W.seq ?_
                        refine W.region ?_
                        refine WL.vS hS hE (runs_plain rfl) (Gives.p hE rfl) rfl ?_; clear hE a; intro a hE
                        refine WL.nil ?_
                        refine W.seq ?_
                        refine W.seq ?_
                        refine W.region ?_
                        refine WL.vS hS hE (runs_plain rfl) (Gives.fld hE rfl fl111_3) rfl ?_; clear hE a; intro a hE
                        refine WL.vS hS hE (runs_plain rfl) (Gives.loadB hE 1 rfl rfl rfl ty109) rfl ?_; clear hE a; intro a hE
                        refine WL.vS hS hE (runs_plain rfl) (Gives.len hE rfl sl109) rfl ?_; clear hE a; intro a hE
                        refine WL.vS hS hE (runs_plain rfl) (Gives.p hE rfl) rfl ?_; clear hE a; intro a hE
                        refine WL.nil ?_
                        obtain ⟨q96, hq95, hr⟩ := bindS hr
                        refine W.cut (fun a w => ∃ (q106 : Int), q106 = q96 ∧ Rep a 124 [(2, .pointer (some ⟨b51, 0, none⟩)), (5, .int .i64 q106)] ∧ St w s (pt b52 (.cells #[.int .i64 x1.Day, .int .i64 x1.At, .int .i64 x1.Km, .int .i64 x1.Age, .bool x1.Card, .slice a1_0 x1.Zones.length c1_0] 93 (0, 0)) :: pt b51 (.cells #[.int .i64 x0.Kind, .int .i64 x0.A, .int .i64 x0.B, .slice a0_0 x0.Kids.length c0_0] 111 (0, 0)) :: R)) ?_ ?_
                        · refine W.block ?_
                          refine W.loop (fun m a w => ∃ (rest99 : List FareCond) (k97 : Nat), ∃ (q106 : Int), rest99.length = m ∧ x0.Kids.drop k97 = rest99 ∧ Fishref2HoldsOf.loop1 x1 self_Fishref2HoldsOf rest99 q106 = some q96 ∧ Rep a 124 [(2, .pointer (some ⟨b51, 0, none⟩)), (3, .pointer (some ⟨b52, 0, none⟩)), (5, .int .i64 q106), (94, .slice a0_0 x0.Kids.length c0_0), (95, .int .i64 ((x0.Kids).length : Int)), (96, .int .i64 ((k97 : Nat) : Int))] ∧ St w s (pt b52 (.cells #[.int .i64 x1.Day, .int .i64 x1.At, .int .i64 x1.Km, .int .i64 x1.Age, .bool x1.Card, .slice a1_0 x1.Zones.length c1_0] 93 (0, 0)) :: pt b51 (.cells #[.int .i64 x0.Kind, .int .i64 x0.A, .int .i64 x0.B, .slice a0_0 x0.Kids.length c0_0] 111 (0, 0)) :: R)) (m := x0.Kids.length) ⟨x0.Kids, 0, 0, rfl, rfl, hq95, hE.pick _ ⟨rfl, rfl, rfl, rfl, rfl, rfl, trivial⟩, hS⟩ ?_
                          clear hE hS a w hq95; rintro m103 a w ⟨rest99, k97, q106, rfl, hd100, hq95, hE, hS⟩
                          refine W.gen fun K107 hK107 => ?_
                          rcases rest99 with _ | ⟨x98, rest99⟩
                          · have hlt101 := drop_nil hd100
                            refine W.seq ?_
                            refine W.region ?_
                            refine WL.vS hS hE (runs_plain rfl) (Gives.p hE rfl) rfl ?_; clear hE a; intro a hE
                            refine WL.nil ?_
                            refine W.seq ?_
                            refine W.condF hE rfl (decide_eq_false (by omega)) ?_
                            subst hK107
                            refine W.exit rfl ?_
                            exact ⟨q106, Option.some.inj hq95, hE.pick _ ⟨rfl, rfl, trivial⟩, hS⟩
                          · obtain ⟨hlt101, hx102, hd100⟩ := drop_cons hd100
                            rw [Fishref2HoldsOf.loop1] at hq95
                            refine W.seq ?_
                            refine W.region ?_
                            refine WL.vS hS hE (runs_plain rfl) (Gives.p hE rfl) rfl ?_; clear hE a; intro a hE
                            refine WL.nil ?_
                            refine W.seq ?_
                            refine W.condT hE rfl (decide_eq_true (by omega)) ?_
                            refine W.skip ?_
                            refine W.seq ?_
                            refine W.block ?_
                            refine W.seq ?_
                            refine W.region ?_
                            obtain ⟨cs108, hl109, hR110, hat111⟩ := h0_0.at hx102
                            obtain ⟨a112, c113, rfl, h114⟩ := hR110.unf
                            refine WL.vS hS hE (runs_plain rfl) (Gives.idx hE k97 rfl rfl sl109 rfl hlt101 (h0_0.aok hlt101)) rfl ?_; clear hE a; intro a hE
                            refine WL.vS hS hE (runs_plain rfl) (Gives.loadA hE rfl (fun w h => hat111 w _ h) ty111) rfl ?_; clear hE a; intro a hE
                            refine WL.alloc hE hS (runs_plain rfl) zr111 rfl ?_; clear hE hS a w; intro b115 a w hE hS
                            refine WL.storeI hE hS 0 rfl [.int .i64 x98.Kind, .int .i64 x98.A, .int .i64 x98.B, .slice a112 x98.Kids.length c113] (runs_plain rfl) rfl rfl rfl ty111 rfl rfl rfl rfl ?_; clear hE hS a w; intro a w hE hS
                            refine WL.nil ?_
                            refine W.seq ?_
                            refine W.region ?_
                            refine WL.vS hS hE (runs_plain rfl) (Gives.loadBA hE 0 rfl rfl ty111) rfl ?_; clear hE a; intro a hE
                            refine WL.vS hS hE (runs_plain rfl) (Gives.loadBA hE 1 rfl rfl ty93) rfl ?_; clear hE a; intro a hE
                            obtain ⟨q116, hq117, hq95⟩ := bindS hq95
                            have hc_ := ih_Fishref2HoldsOf hS h114 h1_0 hq117
                            refine WL.fnq hE (hc_) (runs_plain rfl) bd123 rfl rfl rfl ?_
                            clear hE hS hc_; rintro e w ⟨rfl, hS⟩; refine ⟨_, rfl, ?_⟩; clear a; intro a hE
                            refine WL.nil ?_
                            obtain ⟨q119, hq118, hq95⟩ := bndS hq95
                            refine W.cut (fun a w => ∃ (q122 : Int), q122 = q119 ∧ Rep a 124 [(2, .pointer (some ⟨b51, 0, none⟩)), (3, .pointer (some ⟨b52, 0, none⟩)), (5, .int .i64 q122), (94, .slice a0_0 x0.Kids.length c0_0), (95, .int .i64 ((x0.Kids).length : Int)), (96, .int .i64 ((k97 : Nat) : Int))] ∧ St w s (pt b115 (.cells #[.int .i64 x98.Kind, .int .i64 x98.A, .int .i64 x98.B, .slice a112 x98.Kids.length c113] 111 (0, 0)) :: pt b52 (.cells #[.int .i64 x1.Day, .int .i64 x1.At, .int .i64 x1.Km, .int .i64 x1.Age, .bool x1.Card, .slice a1_0 x1.Zones.length c1_0] 93 (0, 0)) :: pt b51 (.cells #[.int .i64 x0.Kind, .int .i64 x0.A, .int .i64 x0.B, .slice a0_0 x0.Kids.length c0_0] 111 (0, 0)) :: R)) ?_ ?_
                            · refine W.gen fun K123 hK123 => ?_
                              refine W.cond hE rfl (fun hc124 => ?_) (fun hc124 => ?_)
                              · replace hq118 := iteT hc124 hq118
                                refine W.region ?_
                                refine WL.vS hS hE (runs_plain rfl) (Gives.p hE rfl) rfl ?_; clear hE a; intro a hE
                                refine WL.vS hS hE (runs_plain rfl) (Gives.p hE rfl) rfl ?_; clear hE a; intro a hE
                                refine WL.vS hS hE (runs_plain rfl) (Gives.p hE rfl) rfl ?_; clear hE a; intro a hE
                                refine WL.nil ?_
                                subst hK123
                                exact ⟨w64 (q106 + 1), hq118, hE.pick _ ⟨rfl, rfl, rfl, rfl, rfl, rfl, trivial⟩, hS⟩
                              · replace hq118 := iteF hc124 hq118
                                refine W.skip ?_
                                subst hK123
                                exact ⟨q106, hq118, hE.pick _ ⟨rfl, rfl, rfl, rfl, rfl, rfl, trivial⟩, hS⟩
                            · clear hE hS a w; rintro a w ⟨q122, rfl, hE, hS⟩
                              refine W.region ?_
                              refine WL.vS hS hE (runs_plain rfl) (Gives.inc hE rfl (by have := h0_0.small; omega)) rfl ?_; clear hE a; intro a hE
                              refine WL.vS hS hE (runs_plain rfl) (Gives.p hE rfl) rfl ?_; clear hE a; intro a hE
                              refine WL.nil ?_
                              replace hS := hS.tail
                              subst hK107
                              exact ⟨rest99.length, Nat.lt_succ_self _, rest99, k97 + 1, q122, rfl, hd100, hq95, hE.pick _ ⟨rfl, rfl, rfl, rfl, rfl, rfl, trivial⟩, hS⟩
                        · clear hE hS a w; rintro a w ⟨q106, rfl, hE, hS⟩
                          refine W.seq ?_
                          refine W.region ?_
                          refine WL.vS hS hE (runs_plain rfl) (Gives.p hE rfl) rfl ?_; clear hE a; intro a hE
                          refine WL.vS hS hE (runs_plain rfl) (Gives.fld hE rfl fl111_3) rfl ?_; clear hE a; intro a hE
                          refine WL.vS hS hE (runs_plain rfl) (Gives.loadB hE 1 rfl rfl rfl ty109) rfl ?_; clear hE a; intro a hE
                          refine WL.vS hS hE (runs_plain rfl) (Gives.len hE rfl sl109) rfl ?_; clear hE a; intro a hE
                          refine WL.vS hS hE (runs_plain rfl) (Gives.p hE rfl) rfl ?_; clear hE a; intro a hE
                          refine WL.vS hS hE (runs_plain rfl) (Gives.p hE rfl) rfl ?_; clear hE a; intro a hE
                          refine WL.nil ?_
                          refine W.ret ?_
                          refine finG (fn := Try.f123) (rs := [.tmp 4]) (vs := [_]) hE rfl ⟨rfl, trivial⟩ ?_
                          obtain rfl := Option.some.inj hr
                          replace hS := hS.tail
                          replace hS := hS.tail
                          exact ⟨rfl, hS⟩
                      · replace hr := iteF hc94 hr
                        refine W.seq ?_
                        refine W.region ?_
                        refine WL.vS hS hE (runs_plain rfl) (Gives.p hE rfl) rfl ?_; clear hE a; intro a hE
                        refine WL.vS hS hE (runs_plain rfl) (Gives.p hE rfl) rfl ?_; clear hE a; intro a hE
                        refine WL.nil ?_
                        refine W.cond hE rfl (fun hc125 => ?_) (fun hc125 => ?_)
                        · replace hr := iteT hc125 hr
                          refine W.seq ?_
                          refine W.seq ?_
                          refine W.region ?_
                          refine WL.vS hS hE (runs_plain rfl) (Gives.fld hE rfl fl111_3) rfl ?_; clear hE a; intro a hE
                          refine WL.vS hS hE (runs_plain rfl) (Gives.loadB hE 1 rfl rfl rfl ty109) rfl ?_; clear hE a; intro a hE
                          refine WL.vS hS hE (runs_plain rfl) (Gives.len hE rfl sl109) rfl ?_; clear hE a; intro a hE
                          refine WL.vS hS hE (runs_plain rfl) (Gives.p hE rfl) rfl ?_; clear hE a; intro a hE
                          refine WL.nil ?_
                          obtain ⟨q127, hq126, hr⟩ := bindS hr
                          refine W.cut (fun a w => (.next ()) = q127 ∧ Rep a 124 [] ∧ St w s (pt b52 (.cells #[.int .i64 x1.Day, .int .i64 x1.At, .int .i64 x1.Km, .int .i64 x1.Age, .bool x1.Card, .slice a1_0 x1.Zones.length c1_0] 93 (0, 0)) :: pt b51 (.cells #[.int .i64 x0.Kind, .int .i64 x0.A, .int .i64 x0.B, .slice a0_0 x0.Kids.length c0_0] 111 (0, 0)) :: R)) ?_ ?_
                          · refine W.block ?_
                            refine W.loop (fun m a w => ∃ (rest130 : List FareCond) (k128 : Nat), rest130.length = m ∧ x0.Kids.drop k128 = rest130 ∧ Fishref2HoldsOf.loop2 x1 self_Fishref2HoldsOf rest130 = some q127 ∧ Rep a 124 [(3, .pointer (some ⟨b52, 0, none⟩)), (114, .slice a0_0 x0.Kids.length c0_0), (115, .int .i64 ((x0.Kids).length : Int)), (116, .int .i64 ((k128 : Nat) : Int))] ∧ St w s (pt b52 (.cells #[.int .i64 x1.Day, .int .i64 x1.At, .int .i64 x1.Km, .int .i64 x1.Age, .bool x1.Card, .slice a1_0 x1.Zones.length c1_0] 93 (0, 0)) :: pt b51 (.cells #[.int .i64 x0.Kind, .int .i64 x0.A, .int .i64 x0.B, .slice a0_0 x0.Kids.length c0_0] 111 (0, 0)) :: R)) (m := x0.Kids.length) ⟨x0.Kids, 0, rfl, rfl, hq126, hE.pick _ ⟨rfl, rfl, rfl, rfl, trivial⟩, hS⟩ ?_
                            clear hE hS a w hq126; rintro m134 a w ⟨rest130, k128, rfl, hd131, hq126, hE, hS⟩
                            refine W.gen fun K137 hK137 => ?_
                            rcases rest130 with _ | ⟨x129, rest130⟩
                            · have hlt132 := drop_nil hd131
                              refine W.seq ?_
                              refine W.region ?_
                              refine WL.vS hS hE (runs_plain rfl) (Gives.p hE rfl) rfl ?_; clear hE a; intro a hE
                              refine WL.nil ?_
                              refine W.seq ?_
                              refine W.condF hE rfl (decide_eq_false (by omega)) ?_
                              subst hK137
                              refine W.exit rfl ?_
                              exact ⟨Option.some.inj hq126, hE.pick _ trivial, hS⟩
                            · obtain ⟨hlt132, hx133, hd131⟩ := drop_cons hd131
                              rw [Fishref2HoldsOf.loop2] at hq126
                              refine W.seq ?_
                              refine W.region ?_
                              refine WL.vS hS hE (runs_plain rfl) (Gives.p hE rfl) rfl ?_; clear hE a; intro a hE
                              refine WL.nil ?_
                              refine W.seq ?_
                              refine W.condT hE rfl (decide_eq_true (by omega)) ?_
                              refine W.skip ?_
                              refine W.seq ?_
                              refine W.block ?_
                              refine W.seq ?_
                              refine W.region ?_
                              obtain ⟨cs138, hl139, hR140, hat141⟩ := h0_0.at hx133
                              obtain ⟨a142, c143, rfl, h144⟩ := hR140.unf
                              refine WL.vS hS hE (runs_plain rfl) (Gives.idx hE k128 rfl rfl sl109 rfl hlt132 (h0_0.aok hlt132)) rfl ?_; clear hE a; intro a hE
                              refine WL.vS hS hE (runs_plain rfl) (Gives.loadA hE rfl (fun w h => hat141 w _ h) ty111) rfl ?_; clear hE a; intro a hE
                              refine WL.alloc hE hS (runs_plain rfl) zr111 rfl ?_; clear hE hS a w; intro b145 a w hE hS
                              refine WL.storeI hE hS 0 rfl [.int .i64 x129.Kind, .int .i64 x129.A, .int .i64 x129.B, .slice a142 x129.Kids.length c143] (runs_plain rfl) rfl rfl rfl ty111 rfl rfl rfl rfl ?_; clear hE hS a w; intro a w hE hS
                              refine WL.nil ?_
                              refine W.seq ?_
                              refine W.region ?_
                              refine WL.vS hS hE (runs_plain rfl) (Gives.loadBA hE 0 rfl rfl ty111) rfl ?_; clear hE a; intro a hE
                              refine WL.vS hS hE (runs_plain rfl) (Gives.loadBA hE 1 rfl rfl ty93) rfl ?_; clear hE a; intro a hE
                              obtain ⟨q146, hq147, hq126⟩ := bindS hq126
                              have hc_ := ih_Fishref2HoldsOf hS h144 h1_0 hq147
                              refine WL.fnq hE (hc_) (runs_plain rfl) bd123 rfl rfl rfl ?_
                              clear hE hS hc_; rintro e w ⟨rfl, hS⟩; refine ⟨_, rfl, ?_⟩; clear a; intro a hE
                              refine WL.nil ?_
                              refine W.cond hE rfl (fun hc148 => ?_) (fun hc148 => ?_)
                              · replace hq126 := iteT hc148 hq126
                                refine W.seq ?_
                                refine W.region ?_
                                refine WL.vS hS hE (runs_plain rfl) (Gives.p hE rfl) rfl ?_; clear hE a; intro a hE
                                refine WL.nil ?_
                                refine W.ret ?_
                                subst hK137
                                rw [← Option.some.inj hq126] at hr
                                dsimp only at hr
                                refine finG (fn := Try.f123) (rs := [.tmp 4]) (vs := [_]) hE rfl ⟨rfl, trivial⟩ ?_
                                obtain rfl := Option.some.inj hr
                                replace hS := hS.tail
                                replace hS := hS.tail
                                replace hS := hS.tail
                                exact ⟨rfl, hS⟩
                              · replace hq126 := iteF hc148 hq126
                                refine W.skip ?_
                                refine W.region ?_
                                refine WL.vS hS hE (runs_plain rfl) (Gives.inc hE rfl (by have := h0_0.small; omega)) rfl ?_; clear hE a; intro a hE
                                refine WL.vS hS hE (runs_plain rfl) (Gives.p hE rfl) rfl ?_; clear hE a; intro a hE
                                refine WL.nil ?_
                                replace hS := hS.tail
                                subst hK137
                                exact ⟨rest130.length, Nat.lt_succ_self _, rest130, k128 + 1, rfl, hd131, hq126, hE.pick _ ⟨rfl, rfl, rfl, rfl, trivial⟩, hS⟩
                          · clear hE hS a w; rintro a w ⟨rfl, hE, hS⟩
                            dsimp only at hr
                            refine W.seq ?_
                            refine W.region ?_
                            refine WL.vS hS hE (runs_plain rfl) (Gives.p hE rfl) rfl ?_; clear hE a; intro a hE
                            refine WL.nil ?_
                            refine W.ret ?_
                            refine finG (fn := Try.f123) (rs := [.tmp 4]) (vs := [_]) hE rfl ⟨rfl, trivial⟩ ?_
                            obtain rfl := Option.some.inj hr
                            replace hS := hS.tail
                            replace hS := hS.tail
                            exact ⟨rfl, hS⟩
                        · replace hr := iteF hc125 hr
                          refine W.skip ?_
                          refine W.seq ?_
                          refine W.region ?_
                          refine WL.vS hS hE (runs_plain rfl) (Gives.p hE rfl) rfl ?_; clear hE a; intro a hE
                          refine WL.nil ?_
                          refine W.ret ?_
                          refine finG (fn := Try.f123) (rs := [.tmp 4]) (vs := [_]) hE rfl ⟨rfl, trivial⟩ ?_
                          obtain rfl := Option.some.inj hr
                          replace hS := hS.tail
                          replace hS := hS.tail
                          exact ⟨rfl, hS⟩
set_option maxHeartbeats 8000000 in
theorem Fishref2PriceOf_ok {fu : Nat}  {w : World} {s : Sg} {R : List HP} {x0 : FareTariff} {a0_0 : Option Addr} {c0_0 : Nat} {a0_1 : Option Addr} {c0_1 : Nat} {x1 : FareTrip} {a1_0 : Option Addr} {c1_0 : Nat} (hS : St w s (R)) (h0_0 : Sl 2 RFareBand s a0_0 c0_0 x0.Bands) (h0_1 : Sl 7 RFareRule s a0_1 c0_1 x0.Rules) (h1_0 : Sl 1 (RI .i64) s a1_0 c1_0 x1.Zones) {r : Int × (List Int)} (hr : Fishref2PriceOf fu x0 x1 = some r) :
    Calls Try.prog 100 [.agg [.bool x0.ByKm, .slice a0_0 x0.Bands.length c0_0, .int .i64 x0.Round, .slice a0_1 x0.Rules.length c0_1].toArray, .agg [.int .i64 x1.Day, .int .i64 x1.At, .int .i64 x1.Km, .int .i64 x1.Age, .bool x1.Card, .slice a1_0 x1.Zones.length c1_0].toArray].toArray w (fun e w => ∃ (a1 : Option Addr) (c1 n1 : Nat) (cs1 : List Value), e = .returned (.tuple #[.int .i64 r.1, .slice a1 n1 c1]) ∧ Ev 1 (RI .i64) s cs1 r.2 ∧ r.2.length = n1 ∧ St w s (vecC 3 1 a1 c1 n1 cs1 :: R)) := by
  refine enter Try.func100 rfl rfl rfl fun a hE => ?_
  rw [Fishref2PriceOf] at hr
  refine W.seq ?_
  refine W.region ?_
  refine WL.box hE hS (runs_plain rfl) rfl rfl rfl ?_; clear hE hS a w; intro b51 a w hE hS
  refine WL.box hE hS (runs_plain rfl) rfl rfl rfl ?_; clear hE hS a w; intro b52 a w hE hS
  refine WL.vS hS hE (runs_plain rfl) (Gives.p hE rfl) rfl ?_; clear hE a; intro a hE
  refine WL.vS hS hE (runs_plain rfl) (Gives.p hE rfl) rfl ?_; clear hE a; intro a hE
  refine WL.nil ?_
  refine W.seq ?_
  refine W.region ?_
  refine WL.vS hS hE (runs_plain rfl) (Gives.fld hE rfl fl93_5) rfl ?_; clear hE a; intro a hE
  refine WL.vS hS hE (runs_plain rfl) (Gives.loadB hE 0 rfl rfl rfl ty41) rfl ?_; clear hE a; intro a hE
  refine WL.vS hS hE (runs_plain rfl) (Gives.len hE rfl sl41) rfl ?_; clear hE a; intro a hE
  refine WL.vS hS hE (runs_plain rfl) (Gives.p hE rfl) rfl ?_; clear hE a; intro a hE
  refine WL.nil ?_
  refine W.seq ?_
  refine W.seq ?_
  refine W.region ?_
  refine WL.vS hS hE (runs_plain rfl) (Gives.fld hE rfl fl25_0) rfl ?_; clear hE a; intro a hE
  refine WL.vS hS hE (runs_plain rfl) (Gives.loadB hE 1 rfl rfl rfl ty4) rfl ?_; clear hE a; intro a hE
  refine WL.nil ?_
  obtain ⟨q54, hq53, hr⟩ := bndS hr
  refine W.cut (fun a w => ∃ (q57 : Int), q57 = q54 ∧ Rep a 119 [(2, .pointer (some ⟨b51, 0, none⟩)), (3, .pointer (some ⟨b52, 0, none⟩)), (6, .int .i64 q57)] ∧ St w s (pt b52 (.cells #[.int .i64 x1.Day, .int .i64 x1.At, .int .i64 x1.Km, .int .i64 x1.Age, .bool x1.Card, .slice a1_0 x1.Zones.length c1_0] 93 (0, 0)) :: pt b51 (.cells #[.bool x0.ByKm, .slice a0_0 x0.Bands.length c0_0, .int .i64 x0.Round, .slice a0_1 x0.Rules.length c0_1] 25 (0, 0)) :: R)) ?_ ?_
  · refine W.gen fun K58 hK58 => ?_
    refine W.cond hE rfl (fun hc59 => ?_) (fun hc59 => ?_)
    · replace hq53 := iteT hc59 hq53
      refine W.region ?_
      refine WL.vS hS hE (runs_plain rfl) (Gives.fld hE rfl fl93_2) rfl ?_; clear hE a; intro a hE
      refine WL.vS hS hE (runs_plain rfl) (Gives.loadB hE 0 rfl rfl rfl ty3) rfl ?_; clear hE a; intro a hE
      refine WL.vS hS hE (runs_plain rfl) (Gives.p hE rfl) rfl ?_; clear hE a; intro a hE
      refine WL.nil ?_
      subst hK58
      exact ⟨x1.Km, hq53, hE.pick _ ⟨rfl, rfl, rfl, trivial⟩, hS⟩
    · replace hq53 := iteF hc59 hq53
      refine W.skip ?_
      subst hK58
      exact ⟨((x1.Zones).length : Int), hq53, hE.pick _ ⟨rfl, rfl, rfl, trivial⟩, hS⟩
  · clear hE hS a w; rintro a w ⟨q57, rfl, hE, hS⟩
    refine W.seq ?_
    refine W.region ?_
    refine WL.vS hS hE (runs_plain rfl) (Gives.fld hE rfl fl25_1) rfl ?_; clear hE a; intro a hE
    refine WL.vS hS hE (runs_plain rfl) (Gives.loadB hE 1 rfl rfl rfl ty22) rfl ?_; clear hE a; intro a hE
    refine WL.vS hS hE (runs_plain rfl) (Gives.fld hE rfl fl25_1) rfl ?_; clear hE a; intro a hE
    refine WL.vS hS hE (runs_plain rfl) (Gives.loadB hE 1 rfl rfl rfl ty22) rfl ?_; clear hE a; intro a hE
    refine WL.vS hS hE (runs_plain rfl) (Gives.len hE rfl sl22) rfl ?_; clear hE a; intro a hE
    refine WL.vS hS hE (runs_plain rfl) (Gives.p hE rfl) rfl ?_; clear hE a; intro a hE
    obtain ⟨x60, hx61, hr⟩ := bindS hr
    obtain ⟨hi62, hlt63, hy64⟩ := gx_some hx61
    obtain ⟨cs65, hl66, hR67, hat68⟩ := h0_0.at hy64
    subst hR67
    refine WL.vS hS hE (runs_plain rfl) (Gives.idx hE (w64 (((x0.Bands).length : Int) - 1)).toNat rfl rfl sl22 hi62 hlt63 (h0_0.aok hlt63)) rfl ?_; clear hE a; intro a hE
    refine WL.vS hS hE (runs_plain rfl) (Gives.fld hE rfl fl108_1) rfl ?_; clear hE a; intro a hE
    refine WL.vS hS hE (runs_plain rfl) (Gives.load1 hE rfl (fun w h => (hat68 w _ h).one rfl) ty3) rfl ?_; clear hE a; intro a hE
    refine WL.vS hS hE (runs_plain rfl) (Gives.p hE rfl) rfl ?_; clear hE a; intro a hE
    refine WL.nil ?_
    refine W.seq ?_
    refine W.seq ?_
    refine W.region ?_
    refine WL.vS hS hE (runs_plain rfl) (Gives.fld hE rfl fl25_1) rfl ?_; clear hE a; intro a hE
    refine WL.vS hS hE (runs_plain rfl) (Gives.loadB hE 1 rfl rfl rfl ty22) rfl ?_; clear hE a; intro a hE
    refine WL.vS hS hE (runs_plain rfl) (Gives.len hE rfl sl22) rfl ?_; clear hE a; intro a hE
    refine WL.vS hS hE (runs_plain rfl) (Gives.p hE rfl) rfl ?_; clear hE a; intro a hE
    refine WL.vS hS hE (runs_plain rfl) (Gives.p hE rfl) rfl ?_; clear hE a; intro a hE
    refine WL.nil ?_
    obtain ⟨q70, hq69, hr⟩ := bindS hr
    refine W.cut (fun a w => ∃ (q75 : Int), ∃ (q76 : Int), (q75, q76) = q70 ∧ Rep a 119 [(2, .pointer (some ⟨b51, 0, none⟩)), (3, .pointer (some ⟨b52, 0, none⟩)), (7, .int .i64 q75)] ∧ St w s (pt b52 (.cells #[.int .i64 x1.Day, .int .i64 x1.At, .int .i64 x1.Km, .int .i64 x1.Age, .bool x1.Card, .slice a1_0 x1.Zones.length c1_0] 93 (0, 0)) :: pt b51 (.cells #[.bool x0.ByKm, .slice a0_0 x0.Bands.length c0_0, .int .i64 x0.Round, .slice a0_1 x0.Rules.length c0_1] 25 (0, 0)) :: R)) ?_ ?_
    · refine W.block ?_
      refine W.loop (fun m a w => ∃ (n71 : Nat), ∃ (q75 : Int), ∃ (q76 : Int), n71 = m ∧ Fishref2PriceOf.loop1 x0 q57 n71 q75 q76 = some q70 ∧ Rep a 119 [(2, .pointer (some ⟨b51, 0, none⟩)), (3, .pointer (some ⟨b52, 0, none⟩)), (6, .int .i64 q57), (7, .int .i64 q75), (8, .int .i64 q76)] ∧ St w s (pt b52 (.cells #[.int .i64 x1.Day, .int .i64 x1.At, .int .i64 x1.Km, .int .i64 x1.Age, .bool x1.Card, .slice a1_0 x1.Zones.length c1_0] 93 (0, 0)) :: pt b51 (.cells #[.bool x0.ByKm, .slice a0_0 x0.Bands.length c0_0, .int .i64 x0.Round, .slice a0_1 x0.Rules.length c0_1] 25 (0, 0)) :: R)) (m := fu) ⟨fu, x60.Price, (w64 (((x0.Bands).length : Int) - 1)), rfl, hq69, hE.pick _ ⟨rfl, rfl, rfl, rfl, rfl, trivial⟩, hS⟩ ?_
      clear hE hS a w hq69; rintro m72 a w ⟨n71, q75, q76, rfl, hq69, hE, hS⟩
      refine W.gen fun K77 hK77 => ?_
      rcases n71 with _ | n71
      · rw [Fishref2PriceOf.loop1] at hq69; exact absurd hq69 (by simp)
      rw [Fishref2PriceOf.loop1] at hq69
      refine W.seq ?_
      refine W.seq ?_
      refine W.region ?_
      refine WL.vS hS hE (runs_plain rfl) (Gives.p hE rfl) rfl ?_; clear hE a; intro a hE
      refine WL.vS hS hE (runs_plain rfl) (Gives.p hE rfl) rfl ?_; clear hE a; intro a hE
      refine WL.nil ?_
      refine W.cond hE rfl (fun hc78 => ?_) (fun hc78 => ?_)
      · replace hq69 := iteT hc78 hq69
        refine W.skip ?_
        refine W.seq ?_
        refine W.block ?_
        refine W.seq ?_
        refine W.region ?_
        refine WL.vS hS hE (runs_plain rfl) (Gives.p hE rfl) rfl ?_; clear hE a; intro a hE
        refine WL.vS hS hE (runs_plain rfl) (Gives.fld hE rfl fl25_1) rfl ?_; clear hE a; intro a hE
        refine WL.vS hS hE (runs_plain rfl) (Gives.loadB hE 1 rfl rfl rfl ty22) rfl ?_; clear hE a; intro a hE
        refine WL.vS hS hE (runs_plain rfl) (Gives.p hE rfl) rfl ?_; clear hE a; intro a hE
        obtain ⟨x79, hx80, hq69⟩ := bindS hq69
        obtain ⟨hi81, hlt82, hy83⟩ := gx_some hx80
        obtain ⟨cs84, hl85, hR86, hat87⟩ := h0_0.at hy83
        subst hR86
        refine WL.vS hS hE (runs_plain rfl) (Gives.idx hE (q76).toNat rfl rfl sl22 hi81 hlt82 (h0_0.aok hlt82)) rfl ?_; clear hE a; intro a hE
        refine WL.vS hS hE (runs_plain rfl) (Gives.fld hE rfl fl108_0) rfl ?_; clear hE a; intro a hE
        refine WL.vS hS hE (runs_plain rfl) (Gives.load1 hE rfl (fun w h => (hat87 w _ h).one rfl) ty3) rfl ?_; clear hE a; intro a hE
        refine WL.vS hS hE (runs_plain rfl) (Gives.p hE rfl) rfl ?_; clear hE a; intro a hE
        refine WL.nil ?_
        obtain ⟨q89, hq88, hq69⟩ := bindS hq69
        refine W.cut (fun a w => ∃ (q92 : Int), q92 = q89 ∧ Rep a 119 [(2, .pointer (some ⟨b51, 0, none⟩)), (3, .pointer (some ⟨b52, 0, none⟩)), (6, .int .i64 q57), (7, .int .i64 q92), (8, .int .i64 q76)] ∧ St w s (pt b52 (.cells #[.int .i64 x1.Day, .int .i64 x1.At, .int .i64 x1.Km, .int .i64 x1.Age, .bool x1.Card, .slice a1_0 x1.Zones.length c1_0] 93 (0, 0)) :: pt b51 (.cells #[.bool x0.ByKm, .slice a0_0 x0.Bands.length c0_0, .int .i64 x0.Round, .slice a0_1 x0.Rules.length c0_1] 25 (0, 0)) :: R)) ?_ ?_
        · refine W.gen fun K93 hK93 => ?_
          refine W.cond hE rfl (fun hc94 => ?_) (fun hc94 => ?_)
          · replace hq88 := iteT hc94 hq88
            refine W.region ?_
            refine WL.vS hS hE (runs_plain rfl) (Gives.fld hE rfl fl25_1) rfl ?_; clear hE a; intro a hE
            refine WL.vS hS hE (runs_plain rfl) (Gives.loadB hE 1 rfl rfl rfl ty22) rfl ?_; clear hE a; intro a hE
            refine WL.vS hS hE (runs_plain rfl) (Gives.p hE rfl) rfl ?_; clear hE a; intro a hE
            obtain ⟨x95, hx96, hq88⟩ := bindS hq88
            obtain ⟨hi97, hlt98, hy99⟩ := gx_some hx96
            obtain ⟨cs100, hl101, hR102, hat103⟩ := h0_0.at hy99
            subst hR102
            refine WL.vS hS hE (runs_plain rfl) (Gives.idx hE (q76).toNat rfl rfl sl22 hi97 hlt98 (h0_0.aok hlt98)) rfl ?_; clear hE a; intro a hE
            refine WL.vS hS hE (runs_plain rfl) (Gives.fld hE rfl fl108_1) rfl ?_; clear hE a; intro a hE
            refine WL.vS hS hE (runs_plain rfl) (Gives.load1 hE rfl (fun w h => (hat103 w _ h).one rfl) ty3) rfl ?_; clear hE a; intro a hE
            refine WL.vS hS hE (runs_plain rfl) (Gives.p hE rfl) rfl ?_; clear hE a; intro a hE
            refine WL.nil ?_
            subst hK93
            exact ⟨x95.Price, Option.some.inj hq88, hE.pick _ ⟨rfl, rfl, rfl, rfl, rfl, trivial⟩, hS⟩
          · replace hq88 := iteF hc94 hq88
            refine W.skip ?_
            subst hK93
            exact ⟨q75, Option.some.inj hq88, hE.pick _ ⟨rfl, rfl, rfl, rfl, rfl, trivial⟩, hS⟩
        · clear hE hS a w; rintro a w ⟨q92, rfl, hE, hS⟩
          refine W.region ?_
          refine WL.vS hS hE (runs_plain rfl) (Gives.p hE rfl) rfl ?_; clear hE a; intro a hE
          refine WL.vS hS hE (runs_plain rfl) (Gives.p hE rfl) rfl ?_; clear hE a; intro a hE
          refine WL.vS hS hE (runs_plain rfl) (Gives.p hE rfl) rfl ?_; clear hE a; intro a hE
          refine WL.nil ?_
          subst hK77
          exact ⟨n71, Nat.lt_succ_self _, n71, q92, (w64 (q76 - 1)), rfl, hq69, hE.pick _ ⟨rfl, rfl, rfl, rfl, rfl, trivial⟩, hS⟩
      · replace hq69 := iteF hc78 hq69
        subst hK77
        refine W.exit rfl ?_
        exact ⟨q75, q76, Option.some.inj hq69, hE.pick _ ⟨rfl, rfl, rfl, trivial⟩, hS⟩
    · clear hE hS a w; rintro a w ⟨q75, q76, rfl, hE, hS⟩
      dsimp only at hr
      refine W.seq ?_
      refine W.region ?_
      replace hS := hS.vecNil 3 1
      refine WL.vS hS hE (runs_plain rfl) (Gives.p hE rfl) rfl ?_; clear hE a; intro a hE
      refine WL.nil ?_
      refine W.seq ?_
      refine W.seq ?_
      refine W.region ?_
      refine WL.vS hS hE (runs_plain rfl) (Gives.fld hE rfl fl25_3) rfl ?_; clear hE a; intro a hE
      refine WL.vS hS hE (runs_plain rfl) (Gives.loadB hE 2 rfl rfl rfl ty23) rfl ?_; clear hE a; intro a hE
      refine WL.vS hS hE (runs_plain rfl) (Gives.len hE rfl sl23) rfl ?_; clear hE a; intro a hE
      refine WL.vS hS hE (runs_plain rfl) (Gives.p hE rfl) rfl ?_; clear hE a; intro a hE
      refine WL.nil ?_
      obtain ⟨q106, hq105, hr⟩ := bindS hr
      refine W.cut (fun a w => ∃ (q116 : Int), ∃ (q117 : List Int), ∃ (a118 : Option Addr), ∃ (c119 : Nat), ∃ (n121 : Nat), ∃ (cs122 : List Value), (q116, q117) = q106 ∧ Ev 1 (RI .i64) s cs122 q117 ∧ q117.length = n121 ∧ Rep a 119 [(2, .pointer (some ⟨b51, 0, none⟩)), (7, .int .i64 q116), (9, .slice a118 n121 c119)] ∧ St w s (vecC 3 1 a118 c119 n121 cs122 :: pt b52 (.cells #[.int .i64 x1.Day, .int .i64 x1.At, .int .i64 x1.Km, .int .i64 x1.Age, .bool x1.Card, .slice a1_0 x1.Zones.length c1_0] 93 (0, 0)) :: pt b51 (.cells #[.bool x0.ByKm, .slice a0_0 x0.Bands.length c0_0, .int .i64 x0.Round, .slice a0_1 x0.Rules.length c0_1] 25 (0, 0)) :: R)) ?_ ?_
      · refine W.block ?_
        refine W.loop (fun m a w => ∃ (rest109 : List FareRule) (k107 : Nat), ∃ (q116 : Int), ∃ (q117 : List Int), ∃ (a118 : Option Addr), ∃ (c119 : Nat), ∃ (n121 : Nat), ∃ (cs122 : List Value), rest109.length = m ∧ x0.Rules.drop k107 = rest109 ∧ Fishref2PriceOf.loop2 x1 fu rest109 k107 q116 q117 = some q106 ∧ Ev 1 (RI .i64) s cs122 q117 ∧ q117.length = n121 ∧ Rep a 119 [(2, .pointer (some ⟨b51, 0, none⟩)), (3, .pointer (some ⟨b52, 0, none⟩)), (7, .int .i64 q116), (9, .slice a118 n121 c119), (51, .slice a0_1 x0.Rules.length c0_1), (52, .int .i64 ((x0.Rules).length : Int)), (53, .int .i64 ((k107 : Nat) : Int))] ∧ St w s (vecC 3 1 a118 c119 n121 cs122 :: pt b52 (.cells #[.int .i64 x1.Day, .int .i64 x1.At, .int .i64 x1.Km, .int .i64 x1.Age, .bool x1.Card, .slice a1_0 x1.Zones.length c1_0] 93 (0, 0)) :: pt b51 (.cells #[.bool x0.ByKm, .slice a0_0 x0.Bands.length c0_0, .int .i64 x0.Round, .slice a0_1 x0.Rules.length c0_1] 25 (0, 0)) :: R)) (m := x0.Rules.length) ⟨x0.Rules, 0, q75, [], none, 0, 0, [], rfl, rfl, hq105, (Ev.nil), (rfl), hE.pick _ ⟨rfl, rfl, rfl, rfl, rfl, rfl, rfl, trivial⟩, hS⟩ ?_
        clear hE hS a w hq105; rintro m113 a w ⟨rest109, k107, q116, q117, a118, c119, n121, cs122, rfl, hd110, hq105, h120, rfl, hE, hS⟩
        refine W.gen fun K124 hK124 => ?_
        rcases rest109 with _ | ⟨x108, rest109⟩
        · have hlt111 := drop_nil hd110
          refine W.seq ?_
          refine W.region ?_
          refine WL.vS hS hE (runs_plain rfl) (Gives.p hE rfl) rfl ?_; clear hE a; intro a hE
          refine WL.nil ?_
          refine W.seq ?_
          refine W.condF hE rfl (decide_eq_false (by omega)) ?_
          subst hK124
          refine W.exit rfl ?_
          exact ⟨q116, q117, a118, c119, q117.length, cs122, Option.some.inj hq105, h120, rfl, hE.pick _ ⟨rfl, rfl, rfl, trivial⟩, hS⟩
        · obtain ⟨hlt111, hx112, hd110⟩ := drop_cons hd110
          rw [Fishref2PriceOf.loop2] at hq105
          refine W.seq ?_
          refine W.region ?_
          refine WL.vS hS hE (runs_plain rfl) (Gives.p hE rfl) rfl ?_; clear hE a; intro a hE
          refine WL.nil ?_
          refine W.seq ?_
          refine W.condT hE rfl (decide_eq_true (by omega)) ?_
          refine W.skip ?_
          refine W.seq ?_
          refine W.block ?_
          refine W.seq ?_
          refine W.region ?_
          refine WL.vS hS hE (runs_plain rfl) (Gives.p hE rfl) rfl ?_; clear hE a; intro a hE
          obtain ⟨cs125, hl126, hR127, hat128⟩ := h0_1.at hx112
          obtain ⟨a129, c130, rfl, h131⟩ := hR127
          refine WL.vS hS hE (runs_plain rfl) (Gives.idx hE k107 rfl rfl sl23 rfl hlt111 (h0_1.aok hlt111)) rfl ?_; clear hE a; intro a hE
          refine WL.vS hS hE (runs_plain rfl) (Gives.loadA hE rfl (fun w h => hat128 w _ h) ty113) rfl ?_; clear hE a; intro a hE
          refine WL.alloc hE hS (runs_plain rfl) zr113 rfl ?_; clear hE hS a w; intro b132 a w hE hS
          refine WL.vS hS hE (runs_plain rfl) (Gives.p hE rfl) rfl ?_; clear hE a; intro a hE
          refine WL.storeI hE hS 0 rfl [.int .i64 x108.If.Kind, .int .i64 x108.If.A, .int .i64 x108.If.B, .slice a129 x108.If.Kids.length c130, .int .i64 x108.Do, .int .i64 x108.N, .bool x108.Stop] (runs_plain rfl) rfl rfl rfl ty113 rfl rfl rfl rfl ?_; clear hE hS a w; intro a w hE hS
          refine WL.nil ?_
          refine W.seq ?_
          refine W.seq ?_
          refine W.region ?_
          refine WL.vS hS hE (runs_plain rfl) (Gives.fld hE rfl fl113_0) rfl ?_; clear hE a; intro a hE
          refine WL.vS hS hE (runs_plain rfl) (Gives.loadA (cs := [.int .i64 x108.If.Kind, .int .i64 x108.If.A, .int .i64 x108.If.B, .slice a129 x108.If.Kids.length c130]) hE rfl (fun w h => (St.seesAt h 0 rfl).part 0 4) ty111) rfl ?_; clear hE a; intro a hE
          refine WL.vS hS hE (runs_plain rfl) (Gives.loadBA hE 2 rfl rfl ty93) rfl ?_; clear hE a; intro a hE
          obtain ⟨q133, hq134, hq105⟩ := bindS hq105
          have hc_ := Fishref2HoldsOf_ok hS h131 h1_0 hq134
          refine WL.fnq hE (hc_) (runs_plain rfl) bd123 rfl rfl rfl ?_
          clear hE hS hc_; rintro e w ⟨rfl, hS⟩; refine ⟨_, rfl, ?_⟩; clear a; intro a hE
          refine WL.vS hS hE (runs_plain rfl) (Gives.p hE rfl) rfl ?_; clear hE a; intro a hE
          refine WL.nil ?_
          refine W.cond hE rfl (fun hc135 => ?_) (fun hc135 => ?_)
          · replace hq105 := iteT hc135 hq105
            refine W.exit rfl ?_
            refine W.region ?_
            refine WL.vS hS hE (runs_plain rfl) (Gives.inc hE rfl (by have := h0_1.small; omega)) rfl ?_; clear hE a; intro a hE
            refine WL.vS hS hE (runs_plain rfl) (Gives.p hE rfl) rfl ?_; clear hE a; intro a hE
            refine WL.nil ?_
            replace hS := hS.tail
            subst hK124
            exact ⟨rest109.length, Nat.lt_succ_self _, rest109, k107 + 1, q116, q117, a118, c119, q117.length, cs122, rfl, hd110, hq105, h120, rfl, hE.pick _ ⟨rfl, rfl, rfl, rfl, rfl, rfl, rfl, trivial⟩, hS⟩
          · replace hq105 := iteF hc135 hq105
            refine W.skip ?_
            refine W.seq ?_
            refine W.region ?_
            refine WL.vS hS hE (runs_plain rfl) (Gives.p hE rfl) rfl ?_; clear hE a; intro a hE
            refine WL.vS hS hE (runs_plain rfl) (Gives.p hE rfl) rfl ?_; clear hE a; intro a hE
            refine WL.lit hE hS (e := 3) (es := 1) (vs := [(0, .int .i64 ((k107 : Nat) : Int))]) (cs := [.int .i64 ((k107 : Nat) : Int)]) (runs_plain rfl) rfl (by kernel_rfl) rfl ?_; clear hE hS a w; intro b136 a w hE hS
            obtain ⟨x137, hx138, hq105⟩ := bindS hq105
            refine WL.appD hE hS 1 (m := 1) (runs_plain rfl) rfl rfl rfl ap41 rfl h120 rfl (xs := [((k107 : Nat) : Int)]) (Ev.cons (c1 := [.int .i64 ((k107 : Nat) : Int)]) rfl rfl (Ev.nil)) rfl rfl hx138 rfl ?_; clear hE hS a w; intro a139 c140 cs141 a w h142 hE hS
            refine WL.vS hS hE (runs_plain rfl) (Gives.p hE rfl) rfl ?_; clear hE a; intro a hE
            refine WL.nil ?_
            refine W.seq ?_
            refine W.seq ?_
            refine W.region ?_
            refine WL.vS hS hE (runs_plain rfl) (Gives.fld hE rfl fl113_1) rfl ?_; clear hE a; intro a hE
            refine WL.vS hS hE (runs_plain rfl) (Gives.loadB hE 0 rfl rfl rfl ty3) rfl ?_; clear hE a; intro a hE
            refine WL.nil ?_
            refine W.block ?_
            refine W.seq ?_
            refine W.region ?_
            refine WL.vS hS hE (runs_plain rfl) (Gives.p hE rfl) rfl ?_; clear hE a; intro a hE
            refine WL.vS hS hE (runs_plain rfl) (Gives.p hE rfl) rfl ?_; clear hE a; intro a hE
            refine WL.nil ?_
            obtain ⟨q144, hq143, hq105⟩ := bndS hq105
            refine W.cut (fun a w => ∃ (q147 : Int), q147 = q144 ∧ Rep a 119 [(2, .pointer (some ⟨b51, 0, none⟩)), (3, .pointer (some ⟨b52, 0, none⟩)), (7, .int .i64 q147), (9, .slice a139 x137.length c140), (11, .pointer (some ⟨b132, 0, none⟩)), (51, .slice a0_1 x0.Rules.length c0_1), (52, .int .i64 ((x0.Rules).length : Int)), (53, .int .i64 ((k107 : Nat) : Int))] ∧ St w s (pt b132 (.cells #[.int .i64 x108.If.Kind, .int .i64 x108.If.A, .int .i64 x108.If.B, .slice a129 x108.If.Kids.length c130, .int .i64 x108.Do, .int .i64 x108.N, .bool x108.Stop] 113 (0, 0)) :: vecC 3 1 a139 c140 x137.length cs141 :: pt b52 (.cells #[.int .i64 x1.Day, .int .i64 x1.At, .int .i64 x1.Km, .int .i64 x1.Age, .bool x1.Card, .slice a1_0 x1.Zones.length c1_0] 93 (0, 0)) :: pt b51 (.cells #[.bool x0.ByKm, .slice a0_0 x0.Bands.length c0_0, .int .i64 x0.Round, .slice a0_1 x0.Rules.length c0_1] 25 (0, 0)) :: R)) ?_ ?_
            · refine W.gen fun K148 hK148 => ?_
              refine W.cond hE rfl (fun hc149 => ?_) (fun hc149 => ?_)
              · replace hq143 := iteT hc149 hq143
                refine W.region ?_
                refine WL.vS hS hE (runs_plain rfl) (Gives.p hE rfl) rfl ?_; clear hE a; intro a hE
                refine WL.vS hS hE (runs_plain rfl) (Gives.fld hE rfl fl113_2) rfl ?_; clear hE a; intro a hE
                refine WL.vS hS hE (runs_plain rfl) (Gives.loadB hE 0 rfl rfl rfl ty3) rfl ?_; clear hE a; intro a hE
                refine WL.vS hS hE (runs_plain rfl) (Gives.p hE rfl) rfl ?_; clear hE a; intro a hE
                refine WL.vS hS hE (runs_plain rfl) (Gives.p hE rfl) rfl ?_; clear hE a; intro a hE
                refine WL.vS hS hE (runs_plain rfl) (Gives.min2 hE rfl rfl) rfl ?_; clear hE a; intro a hE
                refine WL.vS hS hE (runs_plain rfl) (Gives.p hE rfl) rfl ?_; clear hE a; intro a hE
                refine WL.nil ?_
                subst hK148
                exact ⟨mn (w64 (Int.tdiv (w64 (q116 * x108.N)) 100)) 100000, hq143, hE.pick _ ⟨rfl, rfl, rfl, rfl, rfl, rfl, rfl, rfl, trivial⟩, hS⟩
              · replace hq143 := iteF hc149 hq143
                refine W.seq ?_
                refine W.region ?_
                refine WL.vS hS hE (runs_plain rfl) (Gives.p hE rfl) rfl ?_; clear hE a; intro a hE
                refine WL.vS hS hE (runs_plain rfl) (Gives.p hE rfl) rfl ?_; clear hE a; intro a hE
                refine WL.nil ?_
                obtain ⟨q151, hq150, hq143⟩ := bndS hq143
                refine W.cut (fun a w => ∃ (q154 : Int), q154 = q151 ∧ Rep a 119 [(2, .pointer (some ⟨b51, 0, none⟩)), (3, .pointer (some ⟨b52, 0, none⟩)), (7, .int .i64 q154), (9, .slice a139 x137.length c140), (11, .pointer (some ⟨b132, 0, none⟩)), (51, .slice a0_1 x0.Rules.length c0_1), (52, .int .i64 ((x0.Rules).length : Int)), (53, .int .i64 ((k107 : Nat) : Int))] ∧ St w s (pt b132 (.cells #[.int .i64 x108.If.Kind, .int .i64 x108.If.A, .int .i64 x108.If.B, .slice a129 x108.If.Kids.length c130, .int .i64 x108.Do, .int .i64 x108.N, .bool x108.Stop] 113 (0, 0)) :: vecC 3 1 a139 c140 x137.length cs141 :: pt b52 (.cells #[.int .i64 x1.Day, .int .i64 x1.At, .int .i64 x1.Km, .int .i64 x1.Age, .bool x1.Card, .slice a1_0 x1.Zones.length c1_0] 93 (0, 0)) :: pt b51 (.cells #[.bool x0.ByKm, .slice a0_0 x0.Bands.length c0_0, .int .i64 x0.Round, .slice a0_1 x0.Rules.length c0_1] 25 (0, 0)) :: R)) ?_ ?_
                · refine W.gen fun K155 hK155 => ?_
                  refine W.cond hE rfl (fun hc156 => ?_) (fun hc156 => ?_)
                  · replace hq150 := iteT hc156 hq150
                    refine W.region ?_
                    refine WL.vS hS hE (runs_plain rfl) (Gives.p hE rfl) rfl ?_; clear hE a; intro a hE
                    refine WL.vS hS hE (runs_plain rfl) (Gives.fld hE rfl fl113_2) rfl ?_; clear hE a; intro a hE
                    refine WL.vS hS hE (runs_plain rfl) (Gives.loadB hE 0 rfl rfl rfl ty3) rfl ?_; clear hE a; intro a hE
                    refine WL.vS hS hE (runs_plain rfl) (Gives.p hE rfl) rfl ?_; clear hE a; intro a hE
                    refine WL.vS hS hE (runs_plain rfl) (Gives.max2 hE rfl rfl) rfl ?_; clear hE a; intro a hE
                    refine WL.vS hS hE (runs_plain rfl) (Gives.p hE rfl) rfl ?_; clear hE a; intro a hE
                    refine WL.nil ?_
                    subst hK155
                    exact ⟨mx (w64 (q116 - x108.N)) 0, hq150, hE.pick _ ⟨rfl, rfl, rfl, rfl, rfl, rfl, rfl, rfl, trivial⟩, hS⟩
                  · replace hq150 := iteF hc156 hq150
                    refine W.seq ?_
                    refine W.region ?_
                    refine WL.vS hS hE (runs_plain rfl) (Gives.p hE rfl) rfl ?_; clear hE a; intro a hE
                    refine WL.vS hS hE (runs_plain rfl) (Gives.p hE rfl) rfl ?_; clear hE a; intro a hE
                    refine WL.nil ?_
                    obtain ⟨q158, hq157, hq150⟩ := bndS hq150
                    refine W.cut (fun a w => ∃ (q161 : Int), q161 = q158 ∧ Rep a 119 [(2, .pointer (some ⟨b51, 0, none⟩)), (3, .pointer (some ⟨b52, 0, none⟩)), (7, .int .i64 q161), (9, .slice a139 x137.length c140), (11, .pointer (some ⟨b132, 0, none⟩)), (51, .slice a0_1 x0.Rules.length c0_1), (52, .int .i64 ((x0.Rules).length : Int)), (53, .int .i64 ((k107 : Nat) : Int))] ∧ St w s (pt b132 (.cells #[.int .i64 x108.If.Kind, .int .i64 x108.If.A, .int .i64 x108.If.B, .slice a129 x108.If.Kids.length c130, .int .i64 x108.Do, .int .i64 x108.N, .bool x108.Stop] 113 (0, 0)) :: vecC 3 1 a139 c140 x137.length cs141 :: pt b52 (.cells #[.int .i64 x1.Day, .int .i64 x1.At, .int .i64 x1.Km, .int .i64 x1.Age, .bool x1.Card, .slice a1_0 x1.Zones.length c1_0] 93 (0, 0)) :: pt b51 (.cells #[.bool x0.ByKm, .slice a0_0 x0.Bands.length c0_0, .int .i64 x0.Round, .slice a0_1 x0.Rules.length c0_1] 25 (0, 0)) :: R)) ?_ ?_
                    · refine W.gen fun K162 hK162 => ?_
                      refine W.cond hE rfl (fun hc163 => ?_) (fun hc163 => ?_)
                      · replace hq157 := iteT hc163 hq157
                        refine W.region ?_
                        refine WL.vS hS hE (runs_plain rfl) (Gives.p hE rfl) rfl ?_; clear hE a; intro a hE
                        refine WL.vS hS hE (runs_plain rfl) (Gives.fld hE rfl fl113_2) rfl ?_; clear hE a; intro a hE
                        refine WL.vS hS hE (runs_plain rfl) (Gives.loadB hE 0 rfl rfl rfl ty3) rfl ?_; clear hE a; intro a hE
                        refine WL.vS hS hE (runs_plain rfl) (Gives.p hE rfl) rfl ?_; clear hE a; intro a hE
                        refine WL.vS hS hE (runs_plain rfl) (Gives.min2 hE rfl rfl) rfl ?_; clear hE a; intro a hE
                        refine WL.vS hS hE (runs_plain rfl) (Gives.p hE rfl) rfl ?_; clear hE a; intro a hE
                        refine WL.nil ?_
                        subst hK162
                        exact ⟨mn (w64 (q116 + x108.N)) 100000, hq157, hE.pick _ ⟨rfl, rfl, rfl, rfl, rfl, rfl, rfl, rfl, trivial⟩, hS⟩
                      · replace hq157 := iteF hc163 hq157
                        refine W.seq ?_
                        refine W.region ?_
                        refine WL.vS hS hE (runs_plain rfl) (Gives.p hE rfl) rfl ?_; clear hE a; intro a hE
                        refine WL.vS hS hE (runs_plain rfl) (Gives.p hE rfl) rfl ?_; clear hE a; intro a hE
                        refine WL.nil ?_
                        obtain ⟨q165, hq164, hq157⟩ := bndS hq157
                        refine W.cut (fun a w => ∃ (q168 : Int), q168 = q165 ∧ Rep a 119 [(2, .pointer (some ⟨b51, 0, none⟩)), (3, .pointer (some ⟨b52, 0, none⟩)), (7, .int .i64 q168), (9, .slice a139 x137.length c140), (11, .pointer (some ⟨b132, 0, none⟩)), (51, .slice a0_1 x0.Rules.length c0_1), (52, .int .i64 ((x0.Rules).length : Int)), (53, .int .i64 ((k107 : Nat) : Int))] ∧ St w s (pt b132 (.cells #[.int .i64 x108.If.Kind, .int .i64 x108.If.A, .int .i64 x108.If.B, .slice a129 x108.If.Kids.length c130, .int .i64 x108.Do, .int .i64 x108.N, .bool x108.Stop] 113 (0, 0)) :: vecC 3 1 a139 c140 x137.length cs141 :: pt b52 (.cells #[.int .i64 x1.Day, .int .i64 x1.At, .int .i64 x1.Km, .int .i64 x1.Age, .bool x1.Card, .slice a1_0 x1.Zones.length c1_0] 93 (0, 0)) :: pt b51 (.cells #[.bool x0.ByKm, .slice a0_0 x0.Bands.length c0_0, .int .i64 x0.Round, .slice a0_1 x0.Rules.length c0_1] 25 (0, 0)) :: R)) ?_ ?_
                        · refine W.gen fun K169 hK169 => ?_
                          refine W.cond hE rfl (fun hc170 => ?_) (fun hc170 => ?_)
                          · replace hq164 := iteT hc170 hq164
                            refine W.region ?_
                            refine WL.vS hS hE (runs_plain rfl) (Gives.fld hE rfl fl113_2) rfl ?_; clear hE a; intro a hE
                            refine WL.vS hS hE (runs_plain rfl) (Gives.loadB hE 0 rfl rfl rfl ty3) rfl ?_; clear hE a; intro a hE
                            refine WL.vS hS hE (runs_plain rfl) (Gives.p hE rfl) rfl ?_; clear hE a; intro a hE
                            refine WL.nil ?_
                            subst hK169
                            exact ⟨x108.N, hq164, hE.pick _ ⟨rfl, rfl, rfl, rfl, rfl, rfl, rfl, rfl, trivial⟩, hS⟩
                          · replace hq164 := iteF hc170 hq164
                            refine W.seq ?_
                            refine W.region ?_
                            refine WL.vS hS hE (runs_plain rfl) (Gives.p hE rfl) rfl ?_; clear hE a; intro a hE
                            refine WL.vS hS hE (runs_plain rfl) (Gives.p hE rfl) rfl ?_; clear hE a; intro a hE
                            refine WL.nil ?_
                            obtain ⟨q172, hq171, hq164⟩ := bndS hq164
                            refine W.cut (fun a w => ∃ (q175 : Int), q175 = q172 ∧ Rep a 119 [(2, .pointer (some ⟨b51, 0, none⟩)), (3, .pointer (some ⟨b52, 0, none⟩)), (7, .int .i64 q175), (9, .slice a139 x137.length c140), (11, .pointer (some ⟨b132, 0, none⟩)), (51, .slice a0_1 x0.Rules.length c0_1), (52, .int .i64 ((x0.Rules).length : Int)), (53, .int .i64 ((k107 : Nat) : Int))] ∧ St w s (pt b132 (.cells #[.int .i64 x108.If.Kind, .int .i64 x108.If.A, .int .i64 x108.If.B, .slice a129 x108.If.Kids.length c130, .int .i64 x108.Do, .int .i64 x108.N, .bool x108.Stop] 113 (0, 0)) :: vecC 3 1 a139 c140 x137.length cs141 :: pt b52 (.cells #[.int .i64 x1.Day, .int .i64 x1.At, .int .i64 x1.Km, .int .i64 x1.Age, .bool x1.Card, .slice a1_0 x1.Zones.length c1_0] 93 (0, 0)) :: pt b51 (.cells #[.bool x0.ByKm, .slice a0_0 x0.Bands.length c0_0, .int .i64 x0.Round, .slice a0_1 x0.Rules.length c0_1] 25 (0, 0)) :: R)) ?_ ?_
                            · refine W.gen fun K176 hK176 => ?_
                              refine W.cond hE rfl (fun hc177 => ?_) (fun hc177 => ?_)
                              · replace hq171 := iteT hc177 hq171
                                refine W.region ?_
                                refine WL.vS hS hE (runs_plain rfl) (Gives.p hE rfl) rfl ?_; clear hE a; intro a hE
                                refine WL.vS hS hE (runs_plain rfl) (Gives.fld hE rfl fl113_2) rfl ?_; clear hE a; intro a hE
                                refine WL.vS hS hE (runs_plain rfl) (Gives.loadB hE 0 rfl rfl rfl ty3) rfl ?_; clear hE a; intro a hE
                                refine WL.vS hS hE (runs_plain rfl) (Gives.min2 hE rfl rfl) rfl ?_; clear hE a; intro a hE
                                refine WL.vS hS hE (runs_plain rfl) (Gives.p hE rfl) rfl ?_; clear hE a; intro a hE
                                refine WL.nil ?_
                                subst hK176
                                exact ⟨mn q116 x108.N, hq171, hE.pick _ ⟨rfl, rfl, rfl, rfl, rfl, rfl, rfl, rfl, trivial⟩, hS⟩
                              · replace hq171 := iteF hc177 hq171
                                refine W.seq ?_
                                refine W.region ?_
                                refine WL.vS hS hE (runs_plain rfl) (Gives.p hE rfl) rfl ?_; clear hE a; intro a hE
                                refine WL.vS hS hE (runs_plain rfl) (Gives.p hE rfl) rfl ?_; clear hE a; intro a hE
                                refine WL.nil ?_
                                obtain ⟨q179, hq178, hq171⟩ := bndS hq171
                                refine W.cut (fun a w => ∃ (q182 : Int), q182 = q179 ∧ Rep a 119 [(2, .pointer (some ⟨b51, 0, none⟩)), (3, .pointer (some ⟨b52, 0, none⟩)), (7, .int .i64 q182), (9, .slice a139 x137.length c140), (11, .pointer (some ⟨b132, 0, none⟩)), (51, .slice a0_1 x0.Rules.length c0_1), (52, .int .i64 ((x0.Rules).length : Int)), (53, .int .i64 ((k107 : Nat) : Int))] ∧ St w s (pt b132 (.cells #[.int .i64 x108.If.Kind, .int .i64 x108.If.A, .int .i64 x108.If.B, .slice a129 x108.If.Kids.length c130, .int .i64 x108.Do, .int .i64 x108.N, .bool x108.Stop] 113 (0, 0)) :: vecC 3 1 a139 c140 x137.length cs141 :: pt b52 (.cells #[.int .i64 x1.Day, .int .i64 x1.At, .int .i64 x1.Km, .int .i64 x1.Age, .bool x1.Card, .slice a1_0 x1.Zones.length c1_0] 93 (0, 0)) :: pt b51 (.cells #[.bool x0.ByKm, .slice a0_0 x0.Bands.length c0_0, .int .i64 x0.Round, .slice a0_1 x0.Rules.length c0_1] 25 (0, 0)) :: R)) ?_ ?_
                                · refine W.gen fun K183 hK183 => ?_
                                  refine W.cond hE rfl (fun hc184 => ?_) (fun hc184 => ?_)
                                  · replace hq178 := iteT hc184 hq178
                                    refine W.region ?_
                                    refine WL.vS hS hE (runs_plain rfl) (Gives.p hE rfl) rfl ?_; clear hE a; intro a hE
                                    refine WL.vS hS hE (runs_plain rfl) (Gives.fld hE rfl fl113_2) rfl ?_; clear hE a; intro a hE
                                    refine WL.vS hS hE (runs_plain rfl) (Gives.loadB hE 0 rfl rfl rfl ty3) rfl ?_; clear hE a; intro a hE
                                    refine WL.vS hS hE (runs_plain rfl) (Gives.max2 hE rfl rfl) rfl ?_; clear hE a; intro a hE
                                    refine WL.vS hS hE (runs_plain rfl) (Gives.p hE rfl) rfl ?_; clear hE a; intro a hE
                                    refine WL.nil ?_
                                    subst hK183
                                    exact ⟨mx q116 x108.N, hq178, hE.pick _ ⟨rfl, rfl, rfl, rfl, rfl, rfl, rfl, rfl, trivial⟩, hS⟩
                                  · replace hq178 := iteF hc184 hq178
                                    refine W.skip ?_
                                    subst hK183
                                    exact ⟨q116, hq178, hE.pick _ ⟨rfl, rfl, rfl, rfl, rfl, rfl, rfl, rfl, trivial⟩, hS⟩
                                · clear hE hS a w; rintro a w ⟨q182, rfl, hE, hS⟩
                                  subst hK176
                                  exact ⟨q182, hq171, hE.pick _ ⟨rfl, rfl, rfl, rfl, rfl, rfl, rfl, rfl, trivial⟩, hS⟩
                            · clear hE hS a w; rintro a w ⟨q175, rfl, hE, hS⟩
                              subst hK169
                              exact ⟨q175, hq164, hE.pick _ ⟨rfl, rfl, rfl, rfl, rfl, rfl, rfl, rfl, trivial⟩, hS⟩
                        · clear hE hS a w; rintro a w ⟨q168, rfl, hE, hS⟩
                          subst hK162
                          exact ⟨q168, hq157, hE.pick _ ⟨rfl, rfl, rfl, rfl, rfl, rfl, rfl, rfl, trivial⟩, hS⟩
                    · clear hE hS a w; rintro a w ⟨q161, rfl, hE, hS⟩
                      subst hK155
                      exact ⟨q161, hq150, hE.pick _ ⟨rfl, rfl, rfl, rfl, rfl, rfl, rfl, rfl, trivial⟩, hS⟩
                · clear hE hS a w; rintro a w ⟨q154, rfl, hE, hS⟩
                  subst hK148
                  exact ⟨q154, hq143, hE.pick _ ⟨rfl, rfl, rfl, rfl, rfl, rfl, rfl, rfl, trivial⟩, hS⟩
            · clear hE hS a w; rintro a w ⟨q147, rfl, hE, hS⟩
              refine W.seq ?_
              refine W.region ?_
              refine WL.vS hS hE (runs_plain rfl) (Gives.fld hE rfl fl113_3) rfl ?_; clear hE a; intro a hE
              refine WL.vS hS hE (runs_plain rfl) (Gives.loadB hE 0 rfl rfl rfl ty4) rfl ?_; clear hE a; intro a hE
              refine WL.nil ?_
              refine W.cond hE rfl (fun hc185 => ?_) (fun hc185 => ?_)
              · replace hq105 := iteT hc185 hq105
                subst hK124
                refine W.exit rfl ?_
                replace hS := hS.tail
                exact ⟨q147, x137, a139, c140, x137.length, cs141, Option.some.inj hq105, h142, (rfl), hE.pick _ ⟨rfl, rfl, rfl, trivial⟩, hS⟩
              · replace hq105 := iteF hc185 hq105
                refine W.skip ?_
                refine W.region ?_
                refine WL.vS hS hE (runs_plain rfl) (Gives.inc hE rfl (by have := h0_1.small; omega)) rfl ?_; clear hE a; intro a hE
                refine WL.vS hS hE (runs_plain rfl) (Gives.p hE rfl) rfl ?_; clear hE a; intro a hE
                refine WL.nil ?_
                replace hS := hS.tail
                subst hK124
                exact ⟨rest109.length, Nat.lt_succ_self _, rest109, k107 + 1, q147, x137, a139, c140, x137.length, cs141, rfl, hd110, hq105, h142, (rfl), hE.pick _ ⟨rfl, rfl, rfl, rfl, rfl, rfl, rfl, trivial⟩, hS⟩
      · clear hE hS a w; rintro a w ⟨q116, q117, a118, c119, n121, cs122, rfl, h120, rfl, hE, hS⟩
        dsimp only at hr
        refine W.seq ?_
        obtain ⟨q187, hq186, hr⟩ := bindS hr
        refine W.cut (fun a w => ∃ (q192 : Int), q192 = q187 ∧ Rep a 119 [(7, .int .i64 q192), (9, .slice a118 q117.length c119)] ∧ St w s (vecC 3 1 a118 c119 q117.length cs122 :: pt b52 (.cells #[.int .i64 x1.Day, .int .i64 x1.At, .int .i64 x1.Km, .int .i64 x1.Age, .bool x1.Card, .slice a1_0 x1.Zones.length c1_0] 93 (0, 0)) :: pt b51 (.cells #[.bool x0.ByKm, .slice a0_0 x0.Bands.length c0_0, .int .i64 x0.Round, .slice a0_1 x0.Rules.length c0_1] 25 (0, 0)) :: R)) ?_ ?_
        · refine W.block ?_
          refine W.loop (fun m a w => ∃ (n188 : Nat), ∃ (q192 : Int), n188 = m ∧ Fishref2PriceOf.loop3 x0 n188 q192 = some q187 ∧ Rep a 119 [(2, .pointer (some ⟨b51, 0, none⟩)), (7, .int .i64 q192), (9, .slice a118 q117.length c119)] ∧ St w s (vecC 3 1 a118 c119 q117.length cs122 :: pt b52 (.cells #[.int .i64 x1.Day, .int .i64 x1.At, .int .i64 x1.Km, .int .i64 x1.Age, .bool x1.Card, .slice a1_0 x1.Zones.length c1_0] 93 (0, 0)) :: pt b51 (.cells #[.bool x0.ByKm, .slice a0_0 x0.Bands.length c0_0, .int .i64 x0.Round, .slice a0_1 x0.Rules.length c0_1] 25 (0, 0)) :: R)) (m := fu) ⟨fu, q116, rfl, hq186, hE.pick _ ⟨rfl, rfl, rfl, trivial⟩, hS⟩ ?_
          clear hE hS a w hq186; rintro m189 a w ⟨n188, q192, rfl, hq186, hE, hS⟩
          refine W.gen fun K193 hK193 => ?_
          rcases n188 with _ | n188
          · rw [Fishref2PriceOf.loop3] at hq186; exact absurd hq186 (by simp)
          rw [Fishref2PriceOf.loop3] at hq186
          refine W.seq ?_
          refine W.seq ?_
          refine W.region ?_
          refine WL.vS hS hE (runs_plain rfl) (Gives.p hE rfl) rfl ?_; clear hE a; intro a hE
          refine WL.vS hS hE (runs_plain rfl) (Gives.fld hE rfl fl25_2) rfl ?_; clear hE a; intro a hE
          refine WL.vS hS hE (runs_plain rfl) (Gives.loadB hE 2 rfl rfl rfl ty3) rfl ?_; clear hE a; intro a hE
          obtain ⟨x194, hx195, hq186⟩ := bindS hq186
          refine WL.vS hS hE (runs_plain rfl) (Gives.rm hE rfl rfl hx195) rfl ?_; clear hE a; intro a hE
          refine WL.vS hS hE (runs_plain rfl) (Gives.p hE rfl) rfl ?_; clear hE a; intro a hE
          refine WL.nil ?_
          refine W.cond hE rfl (fun hc196 => ?_) (fun hc196 => ?_)
          · replace hq186 := iteT hc196 hq186
            refine W.skip ?_
            refine W.block ?_
            refine W.region ?_
            refine WL.vS hS hE (runs_plain rfl) (Gives.p hE rfl) rfl ?_; clear hE a; intro a hE
            refine WL.vS hS hE (runs_plain rfl) (Gives.p hE rfl) rfl ?_; clear hE a; intro a hE
            refine WL.vS hS hE (runs_plain rfl) (Gives.p hE rfl) rfl ?_; clear hE a; intro a hE
            refine WL.nil ?_
            subst hK193
            exact ⟨n188, Nat.lt_succ_self _, n188, (w64 (q192 + 1)), rfl, hq186, hE.pick _ ⟨rfl, rfl, rfl, trivial⟩, hS⟩
          · replace hq186 := iteF hc196 hq186
            subst hK193
            refine W.exit rfl ?_
            exact ⟨q192, Option.some.inj hq186, hE.pick _ ⟨rfl, rfl, trivial⟩, hS⟩
        · clear hE hS a w; rintro a w ⟨q192, rfl, hE, hS⟩
          refine W.seq ?_
          refine W.region ?_
          refine WL.vS hS hE (runs_plain rfl) (Gives.p hE rfl) rfl ?_; clear hE a; intro a hE
          refine WL.vS hS hE (runs_plain rfl) (Gives.p hE rfl) rfl ?_; clear hE a; intro a hE
          refine WL.vS hS hE (runs_plain rfl) (Gives.p hE rfl) rfl ?_; clear hE a; intro a hE
          refine WL.vS hS hE (runs_plain rfl) (Gives.p hE rfl) rfl ?_; clear hE a; intro a hE
          refine WL.nil ?_
          refine W.ret ?_
          refine finG (fn := Try.f100) (rs := [.tmp 4, .tmp 5]) (vs := [_, _]) hE rfl ⟨rfl, rfl, trivial⟩ ?_
          obtain rfl := Option.some.inj hr
          replace hS := hS.dropAt 1
          replace hS := hS.dropAt 1
          exact ⟨a118, c119, q117.length, cs122, rfl, h120, rfl, hS⟩
set_option maxHeartbeats 8000000 in
theorem Fishref2SumOf_ok {fu : Nat}  {w : World} {s : Sg} {R : List HP} {x0 : FareTariff} {a0_0 : Option Addr} {c0_0 : Nat} {a0_1 : Option Addr} {c0_1 : Nat} {x1 : List FareTrip} {a1 : Option Addr} {c1 : Nat} {x2 : List FarePass} {a2 : Option Addr} {c2 : Nat} {x3 : List FareBuy} {a3 : Option Addr} {c3 : Nat} (hS : St w s (R)) (h0_0 : Sl 2 RFareBand s a0_0 c0_0 x0.Bands) (h0_1 : Sl 7 RFareRule s a0_1 c0_1 x0.Rules) (h1 : Sl 6 RFareTrip s a1 c1 x1) (h2 : Sl 3 RFarePass s a2 c2 x2) (h3 : Sl 2 RFareBuy s a3 c3 x3) {r : Int} (hr : Fishref2SumOf fu x0 x1 x2 x3 = some r) :
    Calls Try.prog 63 [.agg [.bool x0.ByKm, .slice a0_0 x0.Bands.length c0_0, .int .i64 x0.Round, .slice a0_1 x0.Rules.length c0_1].toArray, .slice a1 x1.length c1, .slice a2 x2.length c2, .slice a3 x3.length c3].toArray w (fun e w => e = .returned (.int .i64 r) ∧ St w s (R)) := by
  refine enter Try.func63 rfl rfl rfl fun a hE => ?_
  rw [Fishref2SumOf] at hr
  refine W.seq ?_
  refine W.region ?_
  refine WL.box hE hS (runs_plain rfl) rfl rfl rfl ?_; clear hE hS a w; intro b51 a w hE hS
  refine WL.vS hS hE (runs_plain rfl) (Gives.p hE rfl) rfl ?_; clear hE a; intro a hE
  refine WL.nil ?_
  refine W.seq ?_
  refine W.region ?_
  refine WL.vS hS hE (runs_plain rfl) (Gives.p hE rfl) rfl ?_; clear hE a; intro a hE
  refine WL.nil ?_
  refine W.seq ?_
  refine W.seq ?_
  refine W.region ?_
  refine WL.vS hS hE (runs_plain rfl) (Gives.p hE rfl) rfl ?_; clear hE a; intro a hE
  refine WL.vS hS hE (runs_plain rfl) (Gives.len hE rfl sl28) rfl ?_; clear hE a; intro a hE
  refine WL.vS hS hE (runs_plain rfl) (Gives.p hE rfl) rfl ?_; clear hE a; intro a hE
  refine WL.nil ?_
  obtain ⟨q53, hq52, hr⟩ := bindS hr
  refine W.cut (fun a w => ∃ (q63 : Int), q63 = q53 ∧ Rep a 72 [(1, .slice a1 x1.length c1), (2, .slice a2 x2.length c2), (3, .slice a3 x3.length c3), (4, .pointer (some ⟨b51, 0, none⟩)), (9, .int .i64 q63)] ∧ St w s (pt b51 (.cells #[.bool x0.ByKm, .slice a0_0 x0.Bands.length c0_0, .int .i64 x0.Round, .slice a0_1 x0.Rules.length c0_1] 25 (0, 0)) :: R)) ?_ ?_
  · refine W.block ?_
    refine W.loop (fun m a w => ∃ (rest56 : List FareBuy) (k54 : Nat), ∃ (q63 : Int), rest56.length = m ∧ x3.drop k54 = rest56 ∧ Fishref2SumOf.loop1 x2 rest56 q63 = some q53 ∧ Rep a 72 [(1, .slice a1 x1.length c1), (2, .slice a2 x2.length c2), (3, .slice a3 x3.length c3), (4, .pointer (some ⟨b51, 0, none⟩)), (9, .int .i64 q63), (19, .slice a3 x3.length c3), (20, .int .i64 ((x3).length : Int)), (21, .int .i64 ((k54 : Nat) : Int))] ∧ St w s (pt b51 (.cells #[.bool x0.ByKm, .slice a0_0 x0.Bands.length c0_0, .int .i64 x0.Round, .slice a0_1 x0.Rules.length c0_1] 25 (0, 0)) :: R)) (m := x3.length) ⟨x3, 0, 0, rfl, rfl, hq52, hE.pick _ ⟨rfl, rfl, rfl, rfl, rfl, rfl, rfl, rfl, trivial⟩, hS⟩ ?_
    clear hE hS a w hq52; rintro m60 a w ⟨rest56, k54, q63, rfl, hd57, hq52, hE, hS⟩
    refine W.gen fun K64 hK64 => ?_
    rcases rest56 with _ | ⟨x55, rest56⟩
    · have hlt58 := drop_nil hd57
      refine W.seq ?_
      refine W.region ?_
      refine WL.vS hS hE (runs_plain rfl) (Gives.p hE rfl) rfl ?_; clear hE a; intro a hE
      refine WL.nil ?_
      refine W.seq ?_
      refine W.condF hE rfl (decide_eq_false (by omega)) ?_
      subst hK64
      refine W.exit rfl ?_
      exact ⟨q63, Option.some.inj hq52, hE.pick _ ⟨rfl, rfl, rfl, rfl, rfl, trivial⟩, hS⟩
    · obtain ⟨hlt58, hx59, hd57⟩ := drop_cons hd57
      rw [Fishref2SumOf.loop1] at hq52
      refine W.seq ?_
      refine W.region ?_
      refine WL.vS hS hE (runs_plain rfl) (Gives.p hE rfl) rfl ?_; clear hE a; intro a hE
      refine WL.nil ?_
      refine W.seq ?_
      refine W.condT hE rfl (decide_eq_true (by omega)) ?_
      refine W.skip ?_
      refine W.seq ?_
      refine W.block ?_
      refine W.seq ?_
      refine W.region ?_
      obtain ⟨cs65, hl66, hR67, hat68⟩ := h3.at hx59
      subst hR67
      refine WL.vS hS hE (runs_plain rfl) (Gives.idx hE k54 rfl rfl sl28 rfl hlt58 (h3.aok hlt58)) rfl ?_; clear hE a; intro a hE
      refine WL.vS hS hE (runs_plain rfl) (Gives.loadA hE rfl (fun w h => hat68 w _ h) ty38) rfl ?_; clear hE a; intro a hE
      refine WL.alloc hE hS (runs_plain rfl) zr38 rfl ?_; clear hE hS a w; intro b69 a w hE hS
      refine WL.storeI hE hS 0 rfl (FareBuy.cells x55) (runs_plain rfl) rfl rfl rfl ty38 rfl rfl rfl rfl ?_; clear hE hS a w; intro a w hE hS
      refine WL.nil ?_
      refine W.region ?_
      refine WL.vS hS hE (runs_plain rfl) (Gives.p hE rfl) rfl ?_; clear hE a; intro a hE
      refine WL.vS hS hE (runs_plain rfl) (Gives.p hE rfl) rfl ?_; clear hE a; intro a hE
      refine WL.vS hS hE (runs_plain rfl) (Gives.fld hE rfl fl38_1) rfl ?_; clear hE a; intro a hE
      refine WL.vS hS hE (runs_plain rfl) (Gives.loadB hE 0 rfl rfl rfl ty3) rfl ?_; clear hE a; intro a hE
      obtain ⟨x70, hx71, hq52⟩ := bindS hq52
      obtain ⟨hi72, hlt73, hy74⟩ := gx_some hx71
      obtain ⟨cs75, hl76, hR77, hat78⟩ := h2.at hy74
      obtain ⟨a79, c80, rfl, h81⟩ := hR77
      refine WL.vS hS hE (runs_plain rfl) (Gives.idx hE (x55.Pass).toNat rfl rfl sl27 hi72 hlt73 (h2.aok hlt73)) rfl ?_; clear hE a; intro a hE
      refine WL.vS hS hE (runs_plain rfl) (Gives.fld hE rfl fl97_1) rfl ?_; clear hE a; intro a hE
      refine WL.vS hS hE (runs_plain rfl) (Gives.load1 hE rfl (fun w h => (hat78 w _ h).one rfl) ty3) rfl ?_; clear hE a; intro a hE
      refine WL.vS hS hE (runs_plain rfl) (Gives.p hE rfl) rfl ?_; clear hE a; intro a hE
      refine WL.vS hS hE (runs_plain rfl) (Gives.p hE rfl) rfl ?_; clear hE a; intro a hE
      refine WL.nil ?_
      refine W.region ?_
      refine WL.vS hS hE (runs_plain rfl) (Gives.inc hE rfl (by have := h3.small; omega)) rfl ?_; clear hE a; intro a hE
      refine WL.vS hS hE (runs_plain rfl) (Gives.p hE rfl) rfl ?_; clear hE a; intro a hE
      refine WL.nil ?_
      replace hS := hS.tail
      subst hK64
      exact ⟨rest56.length, Nat.lt_succ_self _, rest56, k54 + 1, (w64 (q63 + x70.Price)), rfl, hd57, hq52, hE.pick _ ⟨rfl, rfl, rfl, rfl, rfl, rfl, rfl, rfl, trivial⟩, hS⟩
  · clear hE hS a w; rintro a w ⟨q63, rfl, hE, hS⟩
    refine W.seq ?_
    refine W.seq ?_
    refine W.region ?_
    refine WL.vS hS hE (runs_plain rfl) (Gives.p hE rfl) rfl ?_; clear hE a; intro a hE
    refine WL.vS hS hE (runs_plain rfl) (Gives.len hE rfl sl26) rfl ?_; clear hE a; intro a hE
    refine WL.vS hS hE (runs_plain rfl) (Gives.p hE rfl) rfl ?_; clear hE a; intro a hE
    refine WL.nil ?_
    obtain ⟨q83, hq82, hr⟩ := bindS hr
    refine W.cut (fun a w => ∃ (q93 : Int), q93 = q83 ∧ Rep a 72 [(9, .int .i64 q93)] ∧ St w s (pt b51 (.cells #[.bool x0.ByKm, .slice a0_0 x0.Bands.length c0_0, .int .i64 x0.Round, .slice a0_1 x0.Rules.length c0_1] 25 (0, 0)) :: R)) ?_ ?_
    · refine W.block ?_
      refine W.loop (fun m a w => ∃ (rest86 : List FareTrip) (k84 : Nat), ∃ (q93 : Int), rest86.length = m ∧ x1.drop k84 = rest86 ∧ Fishref2SumOf.loop2 x0 x2 x3 fu rest86 q93 = some q83 ∧ Rep a 72 [(2, .slice a2 x2.length c2), (3, .slice a3 x3.length c3), (4, .pointer (some ⟨b51, 0, none⟩)), (9, .int .i64 q93), (34, .slice a1 x1.length c1), (35, .int .i64 ((x1).length : Int)), (36, .int .i64 ((k84 : Nat) : Int))] ∧ St w s (pt b51 (.cells #[.bool x0.ByKm, .slice a0_0 x0.Bands.length c0_0, .int .i64 x0.Round, .slice a0_1 x0.Rules.length c0_1] 25 (0, 0)) :: R)) (m := x1.length) ⟨x1, 0, q63, rfl, rfl, hq82, hE.pick _ ⟨rfl, rfl, rfl, rfl, rfl, rfl, rfl, trivial⟩, hS⟩ ?_
      clear hE hS a w hq82; rintro m90 a w ⟨rest86, k84, q93, rfl, hd87, hq82, hE, hS⟩
      refine W.gen fun K94 hK94 => ?_
      rcases rest86 with _ | ⟨x85, rest86⟩
      · have hlt88 := drop_nil hd87
        refine W.seq ?_
        refine W.region ?_
        refine WL.vS hS hE (runs_plain rfl) (Gives.p hE rfl) rfl ?_; clear hE a; intro a hE
        refine WL.nil ?_
        refine W.seq ?_
        refine W.condF hE rfl (decide_eq_false (by omega)) ?_
        subst hK94
        refine W.exit rfl ?_
        exact ⟨q93, Option.some.inj hq82, hE.pick _ ⟨rfl, trivial⟩, hS⟩
      · obtain ⟨hlt88, hx89, hd87⟩ := drop_cons hd87
        rw [Fishref2SumOf.loop2] at hq82
        refine W.seq ?_
        refine W.region ?_
        refine WL.vS hS hE (runs_plain rfl) (Gives.p hE rfl) rfl ?_; clear hE a; intro a hE
        refine WL.nil ?_
        refine W.seq ?_
        refine W.condT hE rfl (decide_eq_true (by omega)) ?_
        refine W.skip ?_
        refine W.seq ?_
        refine W.block ?_
        refine W.seq ?_
        refine W.region ?_
        obtain ⟨cs95, hl96, hR97, hat98⟩ := h1.at hx89
        obtain ⟨a99, c100, rfl, h101⟩ := hR97
        refine WL.vS hS hE (runs_plain rfl) (Gives.idx hE k84 rfl rfl sl26 rfl hlt88 (h1.aok hlt88)) rfl ?_; clear hE a; intro a hE
        refine WL.vS hS hE (runs_plain rfl) (Gives.loadA hE rfl (fun w h => hat98 w _ h) ty93) rfl ?_; clear hE a; intro a hE
        refine WL.alloc hE hS (runs_plain rfl) zr93 rfl ?_; clear hE hS a w; intro b102 a w hE hS
        refine WL.storeI hE hS 0 rfl [.int .i64 x85.Day, .int .i64 x85.At, .int .i64 x85.Km, .int .i64 x85.Age, .bool x85.Card, .slice a99 x85.Zones.length c100] (runs_plain rfl) rfl rfl rfl ty93 rfl rfl rfl rfl ?_; clear hE hS a w; intro a w hE hS
        refine WL.nil ?_
        refine W.seq ?_
        refine W.region ?_
        refine WL.vS hS hE (runs_plain rfl) (Gives.p hE rfl) rfl ?_; clear hE a; intro a hE
        refine WL.nil ?_
        refine W.seq ?_
        refine W.seq ?_
        refine W.region ?_
        refine WL.vS hS hE (runs_plain rfl) (Gives.p hE rfl) rfl ?_; clear hE a; intro a hE
        refine WL.vS hS hE (runs_plain rfl) (Gives.len hE rfl sl28) rfl ?_; clear hE a; intro a hE
        refine WL.vS hS hE (runs_plain rfl) (Gives.p hE rfl) rfl ?_; clear hE a; intro a hE
        refine WL.nil ?_
        obtain ⟨q104, hq103, hq82⟩ := bindS hq82
        refine W.cut (fun a w => ∃ (q114 : Bool), q114 = q104 ∧ Rep a 72 [(2, .slice a2 x2.length c2), (3, .slice a3 x3.length c3), (4, .pointer (some ⟨b51, 0, none⟩)), (9, .int .i64 q93), (13, .pointer (some ⟨b102, 0, none⟩)), (14, .bool q114), (34, .slice a1 x1.length c1), (35, .int .i64 ((x1).length : Int)), (36, .int .i64 ((k84 : Nat) : Int))] ∧ St w s (pt b102 (.cells #[.int .i64 x85.Day, .int .i64 x85.At, .int .i64 x85.Km, .int .i64 x85.Age, .bool x85.Card, .slice a99 x85.Zones.length c100] 93 (0, 0)) :: pt b51 (.cells #[.bool x0.ByKm, .slice a0_0 x0.Bands.length c0_0, .int .i64 x0.Round, .slice a0_1 x0.Rules.length c0_1] 25 (0, 0)) :: R)) ?_ ?_
        · refine W.block ?_
          refine W.loop (fun m a w => ∃ (rest107 : List FareBuy) (k105 : Nat), ∃ (q114 : Bool), rest107.length = m ∧ x3.drop k105 = rest107 ∧ Fishref2SumOf.loop3 x2 x85 rest107 q114 = some q104 ∧ Rep a 72 [(2, .slice a2 x2.length c2), (3, .slice a3 x3.length c3), (4, .pointer (some ⟨b51, 0, none⟩)), (9, .int .i64 q93), (13, .pointer (some ⟨b102, 0, none⟩)), (14, .bool q114), (34, .slice a1 x1.length c1), (35, .int .i64 ((x1).length : Int)), (36, .int .i64 ((k84 : Nat) : Int)), (40, .slice a3 x3.length c3), (41, .int .i64 ((x3).length : Int)), (42, .int .i64 ((k105 : Nat) : Int))] ∧ St w s (pt b102 (.cells #[.int .i64 x85.Day, .int .i64 x85.At, .int .i64 x85.Km, .int .i64 x85.Age, .bool x85.Card, .slice a99 x85.Zones.length c100] 93 (0, 0)) :: pt b51 (.cells #[.bool x0.ByKm, .slice a0_0 x0.Bands.length c0_0, .int .i64 x0.Round, .slice a0_1 x0.Rules.length c0_1] 25 (0, 0)) :: R)) (m := x3.length) ⟨x3, 0, false, rfl, rfl, hq103, hE.pick _ ⟨rfl, rfl, rfl, rfl, rfl, rfl, rfl, rfl, rfl, rfl, rfl, rfl, trivial⟩, hS⟩ ?_
          clear hE hS a w hq103; rintro m111 a w ⟨rest107, k105, q114, rfl, hd108, hq103, hE, hS⟩
          refine W.gen fun K115 hK115 => ?_
          rcases rest107 with _ | ⟨x106, rest107⟩
          · have hlt109 := drop_nil hd108
            refine W.seq ?_
            refine W.region ?_
            refine WL.vS hS hE (runs_plain rfl) (Gives.p hE rfl) rfl ?_; clear hE a; intro a hE
            refine WL.nil ?_
            refine W.seq ?_
            refine W.condF hE rfl (decide_eq_false (by omega)) ?_
            subst hK115
            refine W.exit rfl ?_
            exact ⟨q114, Option.some.inj hq103, hE.pick _ ⟨rfl, rfl, rfl, rfl, rfl, rfl, rfl, rfl, rfl, trivial⟩, hS⟩
          · obtain ⟨hlt109, hx110, hd108⟩ := drop_cons hd108
            rw [Fishref2SumOf.loop3] at hq103
            refine W.seq ?_
            refine W.region ?_
            refine WL.vS hS hE (runs_plain rfl) (Gives.p hE rfl) rfl ?_; clear hE a; intro a hE
            refine WL.nil ?_
            refine W.seq ?_
            refine W.condT hE rfl (decide_eq_true (by omega)) ?_
            refine W.skip ?_
            refine W.seq ?_
            refine W.block ?_
            refine W.seq ?_
            refine W.region ?_
            obtain ⟨cs116, hl117, hR118, hat119⟩ := h3.at hx110
            subst hR118
            refine WL.vS hS hE (runs_plain rfl) (Gives.idx hE k105 rfl rfl sl28 rfl hlt109 (h3.aok hlt109)) rfl ?_; clear hE a; intro a hE
            refine WL.vS hS hE (runs_plain rfl) (Gives.loadA hE rfl (fun w h => hat119 w _ h) ty38) rfl ?_; clear hE a; intro a hE
            refine WL.alloc hE hS (runs_plain rfl) zr38 rfl ?_; clear hE hS a w; intro b120 a w hE hS
            refine WL.storeI hE hS 0 rfl (FareBuy.cells x106) (runs_plain rfl) rfl rfl rfl ty38 rfl rfl rfl rfl ?_; clear hE hS a w; intro a w hE hS
            refine WL.nil ?_
            obtain ⟨q122, hq121, hq103⟩ := bindS hq103
            refine W.cut (fun a w => ∃ (q125 : Bool), q125 = q122 ∧ Rep a 72 [(2, .slice a2 x2.length c2), (3, .slice a3 x3.length c3), (4, .pointer (some ⟨b51, 0, none⟩)), (9, .int .i64 q93), (13, .pointer (some ⟨b102, 0, none⟩)), (14, .bool q125), (34, .slice a1 x1.length c1), (35, .int .i64 ((x1).length : Int)), (36, .int .i64 ((k84 : Nat) : Int)), (40, .slice a3 x3.length c3), (41, .int .i64 ((x3).length : Int)), (42, .int .i64 ((k105 : Nat) : Int))] ∧ St w s (pt b120 (.cells (FareBuy.cells x106).toArray 38 (0, 0)) :: pt b102 (.cells #[.int .i64 x85.Day, .int .i64 x85.At, .int .i64 x85.Km, .int .i64 x85.Age, .bool x85.Card, .slice a99 x85.Zones.length c100] 93 (0, 0)) :: pt b51 (.cells #[.bool x0.ByKm, .slice a0_0 x0.Bands.length c0_0, .int .i64 x0.Round, .slice a0_1 x0.Rules.length c0_1] 25 (0, 0)) :: R)) ?_ ?_
            · refine W.gen fun K126 hK126 => ?_
              refine W.regionQ (C := fun w => St w s (pt b120 (.cells (FareBuy.cells x106).toArray 38 (0, 0)) :: pt b102 (.cells #[.int .i64 x85.Day, .int .i64 x85.At, .int .i64 x85.Km, .int .i64 x85.Age, .bool x85.Card, .slice a99 x85.Zones.length c100] 93 (0, 0)) :: pt b51 (.cells #[.bool x0.ByKm, .slice a0_0 x0.Bands.length c0_0, .int .i64 x0.Round, .slice a0_1 x0.Rules.length c0_1] 25 (0, 0)) :: R)) mixed (by kernel_rfl) hS.drew ?_
              refine QL.v hE (runs_plain rfl) (Gives.p hE rfl) rfl ?_; clear hE a; intro a hE
              refine QL.v hE (runs_plain rfl) (Gives.p hE rfl) rfl ?_; clear hE a; intro a hE
              rcases Bool.eq_false_or_eq_true q114 with hg127 | hg127
              · replace hq121 := iteT hg127 hq121
                refine QL.no hE (runs_not hE rfl rfl rfl (by rw [hg127]; decide)) rfl ?_; clear hE a; intro a hE
                refine QL.no hE (runs_not hE rfl rfl rfl (by rw [hg127]; decide)) rfl ?_; clear hE a; intro a hE
                refine QL.no hE (runs_not hE rfl rfl rfl (by rw [hg127]; decide)) rfl ?_; clear hE a; intro a hE
                refine QL.no hE (runs_not hE rfl rfl rfl (by rw [hg127]; decide)) rfl ?_; clear hE a; intro a hE
                refine QL.no hE (runs_not hE rfl rfl rfl (by rw [hg127]; decide)) rfl ?_; clear hE a; intro a hE
                refine QL.no hE (runs_not hE rfl rfl rfl (by rw [hg127]; decide)) rfl ?_; clear hE a; intro a hE
                refine QL.no hE (runs_not hE rfl rfl rfl (by rw [hg127]; decide)) rfl ?_; clear hE a; intro a hE
                refine QL.no hE (runs_not hE rfl rfl rfl (by rw [hg127]; decide)) rfl ?_; clear hE a; intro a hE
                refine QL.no hE (runs_not hE rfl rfl rfl (by rw [hg127]; decide)) rfl ?_; clear hE a; intro a hE
                refine QL.v hE (runs_plain rfl) (Gives.pickT hE rfl hg127 rfl) rfl ?_; clear hE a; intro a hE
                refine QL.v hE (runs_plain rfl) (Gives.p hE rfl) rfl ?_; clear hE a; intro a hE
                refine QL.nil ?_; clear hS w; intro w hS
                subst hK126
                exact ⟨true, Option.some.inj hq121, hE.pick _ ⟨rfl, rfl, rfl, rfl, rfl, rfl, rfl, rfl, rfl, rfl, rfl, rfl, trivial⟩, hS⟩
              · replace hq121 := iteF hg127 hq121
                refine QL.v hE (runs_if hE rfl rfl rfl hg127) (Gives.p hE rfl) rfl ?_; clear hE a; intro a hE
                refine QL.v hE (runs_if hE rfl rfl rfl hg127) (Gives.fld hE rfl fl38_1) rfl ?_; clear hE a; intro a hE
                refine QL.v hE (runs_if hE rfl rfl rfl hg127) (Gives.loadB hE 0 rfl rfl rfl ty3) rfl ?_; clear hE a; intro a hE
                obtain ⟨x128, hx129, hq121⟩ := bindS hq121
                obtain ⟨hi130, hlt131, hy132⟩ := gx_some hx129
                obtain ⟨cs133, hl134, hR135, hat136⟩ := h2.at hy132
                obtain ⟨a137, c138, rfl, h139⟩ := hR135
                refine QL.v hE (runs_if hE rfl rfl rfl hg127) (Gives.idx hE (x106.Pass).toNat rfl rfl sl27 hi130 hlt131 (h2.aok hlt131)) rfl ?_; clear hE a; intro a hE
                refine QL.v hE (runs_if hE rfl rfl rfl hg127) (Gives.loadA hE rfl (fun w h => hat136 w _ h) ty97) rfl ?_; clear hE a; intro a hE
                refine QL.v hE (runs_if hE rfl rfl rfl hg127) (Gives.fld hE rfl fl38_0) rfl ?_; clear hE a; intro a hE
                refine QL.v hE (runs_if hE rfl rfl rfl hg127) (Gives.loadB hE 0 rfl rfl rfl ty3) rfl ?_; clear hE a; intro a hE
                refine QL.v hE (runs_if hE rfl rfl rfl hg127) (Gives.loadBA hE 1 rfl rfl ty93) rfl ?_; clear hE a; intro a hE
                refine QL.fnq hE (fun w hS => Fishref2Covered_ok hS h139 h101 rfl) (runs_if hE rfl rfl rfl hg127) bd99 rfl rfl rfl ?_; clear hE a; intro a hE
                refine QL.v hE (runs_plain rfl) (Gives.pickF hE rfl hg127 rfl) rfl ?_; clear hE a; intro a hE
                refine QL.v hE (runs_plain rfl) (Gives.p hE rfl) rfl ?_; clear hE a; intro a hE
                refine QL.nil ?_; clear hS w; intro w hS
                subst hK126
                exact ⟨(Fishref2Covered x128 x106.Day x85), Option.some.inj hq121, hE.pick _ ⟨rfl, rfl, rfl, rfl, rfl, rfl, rfl, rfl, rfl, rfl, rfl, rfl, trivial⟩, hS⟩
            · clear hE hS a w; rintro a w ⟨q125, rfl, hE, hS⟩
              refine W.region ?_
              refine WL.vS hS hE (runs_plain rfl) (Gives.inc hE rfl (by have := h3.small; omega)) rfl ?_; clear hE a; intro a hE
              refine WL.vS hS hE (runs_plain rfl) (Gives.p hE rfl) rfl ?_; clear hE a; intro a hE
              refine WL.nil ?_
              replace hS := hS.tail
              subst hK115
              exact ⟨rest107.length, Nat.lt_succ_self _, rest107, k105 + 1, q125, rfl, hd108, hq103, hE.pick _ ⟨rfl, rfl, rfl, rfl, rfl, rfl, rfl, rfl, rfl, rfl, rfl, rfl, trivial⟩, hS⟩
        · clear hE hS a w; rintro a w ⟨q114, rfl, hE, hS⟩
          refine W.seq ?_
          refine W.region ?_
          refine WL.vS hS hE (runs_plain rfl) (Gives.p hE rfl) rfl ?_; clear hE a; intro a hE
          refine WL.vS hS hE (runs_plain rfl) (Gives.p hE rfl) rfl ?_; clear hE a; intro a hE
          refine WL.nil ?_
          obtain ⟨q141, hq140, hq82⟩ := bindS hq82
          refine W.cut (fun a w => ∃ (q144 : Int), q144 = q141 ∧ Rep a 72 [(2, .slice a2 x2.length c2), (3, .slice a3 x3.length c3), (4, .pointer (some ⟨b51, 0, none⟩)), (9, .int .i64 q144), (34, .slice a1 x1.length c1), (35, .int .i64 ((x1).length : Int)), (36, .int .i64 ((k84 : Nat) : Int))] ∧ St w s (pt b102 (.cells #[.int .i64 x85.Day, .int .i64 x85.At, .int .i64 x85.Km, .int .i64 x85.Age, .bool x85.Card, .slice a99 x85.Zones.length c100] 93 (0, 0)) :: pt b51 (.cells #[.bool x0.ByKm, .slice a0_0 x0.Bands.length c0_0, .int .i64 x0.Round, .slice a0_1 x0.Rules.length c0_1] 25 (0, 0)) :: R)) ?_ ?_
          · refine W.gen fun K145 hK145 => ?_
            refine W.cond hE rfl (fun hc146 => ?_) (fun hc146 => ?_)
            · replace hq140 := iteT hc146 hq140
              refine W.seq ?_
              refine W.region ?_
              refine WL.vS hS hE (runs_plain rfl) (Gives.loadBA hE 1 rfl rfl ty25) rfl ?_; clear hE a; intro a hE
              refine WL.vS hS hE (runs_plain rfl) (Gives.loadBA hE 0 rfl rfl ty93) rfl ?_; clear hE a; intro a hE
              obtain ⟨q147, hq148, hq140⟩ := bindS hq140
              have hc_ := Fishref2PriceOf_ok hS h0_0 h0_1 h101 hq148
              refine WL.fnq hE (hc_) (runs_plain rfl) bd100 rfl rfl rfl ?_
              clear hE hS hc_; rintro e w ⟨a149, c150, n151, cs152, rfl, h153, rfl, hS⟩; refine ⟨_, rfl, ?_⟩; clear a; intro a hE
              refine WL.vS hS hE (runs_plain rfl) (Gives.p hE rfl) rfl ?_; clear hE a; intro a hE
              refine WL.vS hS hE (runs_plain rfl) (Gives.p hE rfl) rfl ?_; clear hE a; intro a hE
              refine WL.vS hS hE (runs_plain rfl) (Gives.p hE rfl) rfl ?_; clear hE a; intro a hE
              refine WL.vS hS hE (runs_plain rfl) (Gives.p hE rfl) rfl ?_; clear hE a; intro a hE
              refine WL.vS hS hE (runs_plain rfl) (Gives.p hE rfl) rfl ?_; clear hE a; intro a hE
              refine WL.nil ?_
              refine W.region ?_
              refine WL.vS hS hE (runs_plain rfl) (Gives.p hE rfl) rfl ?_; clear hE a; intro a hE
              refine WL.vS hS hE (runs_plain rfl) (Gives.p hE rfl) rfl ?_; clear hE a; intro a hE
              refine WL.vS hS hE (runs_plain rfl) (Gives.p hE rfl) rfl ?_; clear hE a; intro a hE
              refine WL.vS hS hE (runs_plain rfl) (Gives.p hE rfl) rfl ?_; clear hE a; intro a hE
              refine WL.nil ?_
              replace hS := hS.tail
              subst hK145
              exact ⟨w64 (q93 + q147.1), Option.some.inj hq140, hE.pick _ ⟨rfl, rfl, rfl, rfl, rfl, rfl, rfl, trivial⟩, hS⟩
            · replace hq140 := iteF hc146 hq140
              refine W.skip ?_
              subst hK145
              exact ⟨q93, Option.some.inj hq140, hE.pick _ ⟨rfl, rfl, rfl, rfl, rfl, rfl, rfl, trivial⟩, hS⟩
          · clear hE hS a w; rintro a w ⟨q144, rfl, hE, hS⟩
            refine W.region ?_
            refine WL.vS hS hE (runs_plain rfl) (Gives.inc hE rfl (by have := h1.small; omega)) rfl ?_; clear hE a; intro a hE
            refine WL.vS hS hE (runs_plain rfl) (Gives.p hE rfl) rfl ?_; clear hE a; intro a hE
            refine WL.nil ?_
            replace hS := hS.tail
            subst hK94
            exact ⟨rest86.length, Nat.lt_succ_self _, rest86, k84 + 1, q144, rfl, hd87, hq82, hE.pick _ ⟨rfl, rfl, rfl, rfl, rfl, rfl, rfl, trivial⟩, hS⟩
    · clear hE hS a w; rintro a w ⟨q93, rfl, hE, hS⟩
      refine W.seq ?_
      refine W.region ?_
      refine WL.vS hS hE (runs_plain rfl) (Gives.p hE rfl) rfl ?_; clear hE a; intro a hE
      refine WL.vS hS hE (runs_plain rfl) (Gives.p hE rfl) rfl ?_; clear hE a; intro a hE
      refine WL.nil ?_
      refine W.ret ?_
      refine finG (fn := Try.f63) (rs := [.tmp 8]) (vs := [_]) hE rfl ⟨rfl, trivial⟩ ?_
      obtain rfl := Option.some.inj hr
      replace hS := hS.tail
      exact ⟨rfl, hS⟩
set_option maxHeartbeats 8000000 in
theorem Fishref2compareBuys_ok  {w : World} {s : Sg} {R : List HP} {x0 : FareBuy} {x1 : FareBuy} (hS : St w s (R))  {r : Int} (hr : Fishref2compareBuys x0 x1 = r) :
    Calls Try.prog 64 [.agg (FareBuy.cells x0).toArray, .agg (FareBuy.cells x1).toArray].toArray w (fun e w => e = .returned (.int .i64 r) ∧ St w s (R)) := by
  refine enter Try.func64 rfl rfl rfl fun a hE => ?_
  rw [Fishref2compareBuys] at hr
  refine W.seq ?_
  refine W.region ?_
  refine WL.box hE hS (runs_plain rfl) rfl rfl rfl ?_; clear hE hS a w; intro b51 a w hE hS
  refine WL.box hE hS (runs_plain rfl) rfl rfl rfl ?_; clear hE hS a w; intro b52 a w hE hS
  refine WL.vS hS hE (runs_plain rfl) (Gives.p hE rfl) rfl ?_; clear hE a; intro a hE
  refine WL.nil ?_
  refine W.seq ?_
  refine W.seq ?_
  refine W.region ?_
  refine WL.vS hS hE (runs_plain rfl) (Gives.fld hE rfl fl38_0) rfl ?_; clear hE a; intro a hE
  refine WL.vS hS hE (runs_plain rfl) (Gives.loadB hE 1 rfl rfl rfl ty3) rfl ?_; clear hE a; intro a hE
  refine WL.vS hS hE (runs_plain rfl) (Gives.fld hE rfl fl38_0) rfl ?_; clear hE a; intro a hE
  refine WL.vS hS hE (runs_plain rfl) (Gives.loadB hE 0 rfl rfl rfl ty3) rfl ?_; clear hE a; intro a hE
  refine WL.vS hS hE (runs_plain rfl) (Gives.p hE rfl) rfl ?_; clear hE a; intro a hE
  refine WL.nil ?_
  refine W.cond hE rfl (fun hc53 => ?_) (fun hc53 => ?_)
  · replace hr := iteT hc53 hr
    refine W.seq ?_
    refine W.region ?_
    refine WL.vS hS hE (runs_plain rfl) (Gives.fld hE rfl fl38_0) rfl ?_; clear hE a; intro a hE
    refine WL.vS hS hE (runs_plain rfl) (Gives.loadB hE 1 rfl rfl rfl ty3) rfl ?_; clear hE a; intro a hE
    refine WL.vS hS hE (runs_plain rfl) (Gives.fld hE rfl fl38_0) rfl ?_; clear hE a; intro a hE
    refine WL.vS hS hE (runs_plain rfl) (Gives.loadB hE 0 rfl rfl rfl ty3) rfl ?_; clear hE a; intro a hE
    refine WL.vS hS hE (runs_plain rfl) (Gives.p hE rfl) rfl ?_; clear hE a; intro a hE
    refine WL.vS hS hE (runs_plain rfl) (Gives.p hE rfl) rfl ?_; clear hE a; intro a hE
    refine WL.nil ?_
    refine W.ret ?_
    refine finG (fn := Try.f64) (rs := [.tmp 4]) (vs := [_]) hE rfl ⟨rfl, trivial⟩ ?_
    subst hr
    replace hS := hS.tail
    replace hS := hS.tail
    exact ⟨rfl, hS⟩
  · replace hr := iteF hc53 hr
    refine W.skip ?_
    refine W.seq ?_
    refine W.region ?_
    refine WL.vS hS hE (runs_plain rfl) (Gives.fld hE rfl fl38_1) rfl ?_; clear hE a; intro a hE
    refine WL.vS hS hE (runs_plain rfl) (Gives.loadB hE 1 rfl rfl rfl ty3) rfl ?_; clear hE a; intro a hE
    refine WL.vS hS hE (runs_plain rfl) (Gives.fld hE rfl fl38_1) rfl ?_; clear hE a; intro a hE
    refine WL.vS hS hE (runs_plain rfl) (Gives.loadB hE 0 rfl rfl rfl ty3) rfl ?_; clear hE a; intro a hE
    refine WL.vS hS hE (runs_plain rfl) (Gives.p hE rfl) rfl ?_; clear hE a; intro a hE
    refine WL.vS hS hE (runs_plain rfl) (Gives.p hE rfl) rfl ?_; clear hE a; intro a hE
    refine WL.nil ?_
    refine W.ret ?_
    refine finG (fn := Try.f64) (rs := [.tmp 4]) (vs := [_]) hE rfl ⟨rfl, trivial⟩ ?_
    subst hr
    replace hS := hS.tail
    replace hS := hS.tail
    exact ⟨rfl, hS⟩
set_option maxHeartbeats 8000000 in
theorem SlicesCompareFuncLfareBuy_v2_ok  {w : World} {s : Sg} {R : List HP} {x0 : List FareBuy} {a0 : Option Addr} {c0 : Nat} {x1 : List FareBuy} {a1 : Option Addr} {c1 : Nat} (hS : St w s (R)) (h0 : Sl 2 RFareBuy s a0 c0 x0) (h1 : Sl 2 RFareBuy s a1 c1 x1) {r : Int} (hr : SlicesCompareFuncLfareBuy_v2 x0 x1 = some r) :
    Calls Try.prog 57 [.slice a0 x0.length c0, .slice a1 x1.length c1, .func (.func 64) #[] #[]].toArray w (fun e w => e = .returned (.int .i64 r) ∧ St w s (R)) := by
  refine enter Try.func57 rfl rfl rfl fun a hE => ?_
  rw [SlicesCompareFuncLfareBuy_v2] at hr
  refine W.seq ?_
  refine W.region ?_
  refine WL.vS hS hE (runs_plain rfl) (Gives.p hE rfl) rfl ?_; clear hE a; intro a hE
  refine WL.nil ?_
  refine W.seq ?_
  refine W.seq ?_
  refine W.region ?_
  refine WL.vS hS hE (runs_plain rfl) (Gives.p hE rfl) rfl ?_; clear hE a; intro a hE
  refine WL.vS hS hE (runs_plain rfl) (Gives.len hE rfl sl28) rfl ?_; clear hE a; intro a hE
  refine WL.vS hS hE (runs_plain rfl) (Gives.p hE rfl) rfl ?_; clear hE a; intro a hE
  refine WL.nil ?_
  obtain ⟨q52, hq51, hr⟩ := bindS hr
  refine W.cut (fun a w => (.next ()) = q52 ∧ Rep a 39 [(0, .slice a0 x0.length c0), (1, .slice a1 x1.length c1)] ∧ St w s (R)) ?_ ?_
  · refine W.block ?_
    refine W.loop (fun m a w => ∃ (rest55 : List FareBuy) (k53 : Nat), rest55.length = m ∧ x0.drop k53 = rest55 ∧ SlicesCompareFuncLfareBuy_v2.loop1 x1 rest55 k53 = some q52 ∧ Rep a 39 [(0, .slice a0 x0.length c0), (1, .slice a1 x1.length c1), (2, .func (.func 64) #[] #[]), (11, .slice a0 x0.length c0), (12, .int .i64 ((x0).length : Int)), (13, .int .i64 ((k53 : Nat) : Int))] ∧ St w s (R)) (m := x0.length) ⟨x0, 0, rfl, rfl, hq51, hE.pick _ ⟨rfl, rfl, rfl, rfl, rfl, rfl, trivial⟩, hS⟩ ?_
    clear hE hS a w hq51; rintro m59 a w ⟨rest55, k53, rfl, hd56, hq51, hE, hS⟩
    refine W.gen fun K62 hK62 => ?_
    rcases rest55 with _ | ⟨x54, rest55⟩
    · have hlt57 := drop_nil hd56
      refine W.seq ?_
      refine W.region ?_
      refine WL.vS hS hE (runs_plain rfl) (Gives.p hE rfl) rfl ?_; clear hE a; intro a hE
      refine WL.nil ?_
      refine W.seq ?_
      refine W.condF hE rfl (decide_eq_false (by omega)) ?_
      subst hK62
      refine W.exit rfl ?_
      exact ⟨Option.some.inj hq51, hE.pick _ ⟨rfl, rfl, trivial⟩, hS⟩
    · obtain ⟨hlt57, hx58, hd56⟩ := drop_cons hd56
      rw [SlicesCompareFuncLfareBuy_v2.loop1] at hq51
      refine W.seq ?_
      refine W.region ?_
      refine WL.vS hS hE (runs_plain rfl) (Gives.p hE rfl) rfl ?_; clear hE a; intro a hE
      refine WL.nil ?_
      refine W.seq ?_
      refine W.condT hE rfl (decide_eq_true (by omega)) ?_
      refine W.skip ?_
      refine W.seq ?_
      refine W.block ?_
      refine W.seq ?_
      refine W.region ?_
      refine WL.vS hS hE (runs_plain rfl) (Gives.p hE rfl) rfl ?_; clear hE a; intro a hE
      obtain ⟨cs63, hl64, hR65, hat66⟩ := h0.at hx58
      subst hR65
      refine WL.vS hS hE (runs_plain rfl) (Gives.idx hE k53 rfl rfl sl28 rfl hlt57 (h0.aok hlt57)) rfl ?_; clear hE a; intro a hE
      refine WL.vS hS hE (runs_plain rfl) (Gives.loadA hE rfl (fun w h => hat66 w _ h) ty38) rfl ?_; clear hE a; intro a hE
      refine WL.alloc hE hS (runs_plain rfl) zr38 rfl ?_; clear hE hS a w; intro b67 a w hE hS
      refine WL.vS hS hE (runs_plain rfl) (Gives.p hE rfl) rfl ?_; clear hE a; intro a hE
      refine WL.storeI hE hS 0 rfl (FareBuy.cells x54) (runs_plain rfl) rfl rfl rfl ty38 rfl rfl rfl rfl ?_; clear hE hS a w; intro a w hE hS
      refine WL.nil ?_
      refine W.seq ?_
      refine W.seq ?_
      refine W.region ?_
      refine WL.vS hS hE (runs_plain rfl) (Gives.p hE rfl) rfl ?_; clear hE a; intro a hE
      refine WL.vS hS hE (runs_plain rfl) (Gives.p hE rfl) rfl ?_; clear hE a; intro a hE
      refine WL.vS hS hE (runs_plain rfl) (Gives.len hE rfl sl28) rfl ?_; clear hE a; intro a hE
      refine WL.vS hS hE (runs_plain rfl) (Gives.p hE rfl) rfl ?_; clear hE a; intro a hE
      refine WL.nil ?_
      refine W.cond hE rfl (fun hc68 => ?_) (fun hc68 => ?_)
      · replace hq51 := iteT hc68 hq51
        refine W.seq ?_
        refine W.region ?_
        refine WL.vS hS hE (runs_plain rfl) (Gives.p hE rfl) rfl ?_; clear hE a; intro a hE
        refine WL.nil ?_
        refine W.ret ?_
        subst hK62
        rw [← Option.some.inj hq51] at hr
        dsimp only at hr
        refine finG (fn := Try.f57) (rs := [.tmp 6]) (vs := [_]) hE rfl ⟨rfl, trivial⟩ ?_
        obtain rfl := Option.some.inj hr
        replace hS := hS.tail
        exact ⟨rfl, hS⟩
      · replace hq51 := iteF hc68 hq51
        refine W.skip ?_
        refine W.seq ?_
        refine W.region ?_
        refine WL.vS hS hE (runs_plain rfl) (Gives.p hE rfl) rfl ?_; clear hE a; intro a hE
        refine WL.vS hS hE (runs_plain rfl) (Gives.p hE rfl) rfl ?_; clear hE a; intro a hE
        obtain ⟨x69, hx70, hq51⟩ := bindS hq51
        obtain ⟨hi71, hlt72, hy73⟩ := gx_some hx70
        obtain ⟨cs74, hl75, hR76, hat77⟩ := h1.at hy73
        subst hR76
        refine WL.vS hS hE (runs_plain rfl) (Gives.idx hE (((k53 : Nat) : Int)).toNat rfl rfl sl28 hi71 hlt72 (h1.aok hlt72)) rfl ?_; clear hE a; intro a hE
        refine WL.vS hS hE (runs_plain rfl) (Gives.loadA hE rfl (fun w h => hat77 w _ h) ty38) rfl ?_; clear hE a; intro a hE
        refine WL.alloc hE hS (runs_plain rfl) zr38 rfl ?_; clear hE hS a w; intro b78 a w hE hS
        refine WL.storeI hE hS 0 rfl (FareBuy.cells x69) (runs_plain rfl) rfl rfl rfl ty38 rfl rfl rfl rfl ?_; clear hE hS a w; intro a w hE hS
        refine WL.nil ?_
        refine W.seq ?_
        refine W.region ?_
        refine WL.vS hS hE (runs_plain rfl) (Gives.p hE rfl) rfl ?_; clear hE a; intro a hE
        refine WL.vS hS hE (runs_plain rfl) (Gives.loadBA hE 1 rfl rfl ty38) rfl ?_; clear hE a; intro a hE
        refine WL.vS hS hE (runs_plain rfl) (Gives.loadBA hE 0 rfl rfl ty38) rfl ?_; clear hE a; intro a hE
        refine WL.fnw hE (Fishref2compareBuys_ok hS  rfl) rfl (runs_plain rfl) bd64 rfl rfl rfl ?_
        clear hE hS; rintro e w ⟨rfl, hS⟩; refine ⟨_, rfl, ?_⟩; clear a; intro a hE
        refine WL.vS hS hE (runs_plain rfl) (Gives.p hE rfl) rfl ?_; clear hE a; intro a hE
        refine WL.nil ?_
        refine W.seq ?_
        refine W.region ?_
        refine WL.vS hS hE (runs_plain rfl) (Gives.p hE rfl) rfl ?_; clear hE a; intro a hE
        refine WL.vS hS hE (runs_plain rfl) (Gives.p hE rfl) rfl ?_; clear hE a; intro a hE
        refine WL.nil ?_
        refine W.cond hE rfl (fun hc79 => ?_) (fun hc79 => ?_)
        · replace hq51 := iteT hc79 hq51
          refine W.seq ?_
          refine W.region ?_
          refine WL.vS hS hE (runs_plain rfl) (Gives.p hE rfl) rfl ?_; clear hE a; intro a hE
          refine WL.vS hS hE (runs_plain rfl) (Gives.p hE rfl) rfl ?_; clear hE a; intro a hE
          refine WL.nil ?_
          refine W.ret ?_
          subst hK62
          rw [← Option.some.inj hq51] at hr
          dsimp only at hr
          refine finG (fn := Try.f57) (rs := [.tmp 6]) (vs := [_]) hE rfl ⟨rfl, trivial⟩ ?_
          obtain rfl := Option.some.inj hr
          replace hS := hS.tail
          replace hS := hS.tail
          exact ⟨rfl, hS⟩
        · replace hq51 := iteF hc79 hq51
          refine W.skip ?_
          refine W.region ?_
          refine WL.vS hS hE (runs_plain rfl) (Gives.inc hE rfl (by have := h0.small; omega)) rfl ?_; clear hE a; intro a hE
          refine WL.vS hS hE (runs_plain rfl) (Gives.p hE rfl) rfl ?_; clear hE a; intro a hE
          refine WL.nil ?_
          replace hS := hS.tail
          replace hS := hS.tail
          subst hK62
          exact ⟨rest55.length, Nat.lt_succ_self _, rest55, k53 + 1, rfl, hd56, hq51, hE.pick _ ⟨rfl, rfl, rfl, rfl, rfl, rfl, trivial⟩, hS⟩
  · clear hE hS a w; rintro a w ⟨rfl, hE, hS⟩
    dsimp only at hr
    refine W.seq ?_
    refine W.seq ?_
    refine W.region ?_
    refine WL.vS hS hE (runs_plain rfl) (Gives.p hE rfl) rfl ?_; clear hE a; intro a hE
    refine WL.vS hS hE (runs_plain rfl) (Gives.len hE rfl sl28) rfl ?_; clear hE a; intro a hE
    refine WL.vS hS hE (runs_plain rfl) (Gives.p hE rfl) rfl ?_; clear hE a; intro a hE
    refine WL.vS hS hE (runs_plain rfl) (Gives.len hE rfl sl28) rfl ?_; clear hE a; intro a hE
    refine WL.vS hS hE (runs_plain rfl) (Gives.p hE rfl) rfl ?_; clear hE a; intro a hE
    refine WL.nil ?_
    refine W.cond hE rfl (fun hc80 => ?_) (fun hc80 => ?_)
    · replace hr := iteT hc80 hr
      refine W.seq ?_
      refine W.region ?_
      refine WL.vS hS hE (runs_plain rfl) (Gives.p hE rfl) rfl ?_; clear hE a; intro a hE
      refine WL.nil ?_
      refine W.ret ?_
      refine finG (fn := Try.f57) (rs := [.tmp 6]) (vs := [_]) hE rfl ⟨rfl, trivial⟩ ?_
      obtain rfl := Option.some.inj hr
      exact ⟨rfl, hS⟩
    · replace hr := iteF hc80 hr
      refine W.skip ?_
      refine W.seq ?_
      refine W.region ?_
      refine WL.vS hS hE (runs_plain rfl) (Gives.p hE rfl) rfl ?_; clear hE a; intro a hE
      refine WL.nil ?_
      refine W.ret ?_
      refine finG (fn := Try.f57) (rs := [.tmp 6]) (vs := [_]) hE rfl ⟨rfl, trivial⟩ ?_
      obtain rfl := Option.some.inj hr
      exact ⟨rfl, hS⟩
set_option maxHeartbeats 8000000 in
theorem Fishref2CheapestOf_ok {fu : Nat}  {w : World} {s : Sg} {R : List HP} {x0 : FareTariff} {a0_0 : Option Addr} {c0_0 : Nat} {a0_1 : Option Addr} {c0_1 : Nat} {x1 : List FareTrip} {a1 : Option Addr} {c1 : Nat} {x2 : List FarePass} {a2 : Option Addr} {c2 : Nat} (hS : St w s (R)) (h0_0 : Sl 2 RFareBand s a0_0 c0_0 x0.Bands) (h0_1 : Sl 7 RFareRule s a0_1 c0_1 x0.Rules) (h1 : Sl 6 RFareTrip s a1 c1 x1) (h2 : Sl 3 RFarePass s a2 c2 x2) {r : Int × (List FareBuy)} (hr : Fishref2CheapestOf fu x0 x1 x2 = some r) :
    Calls Try.prog 13 [.agg [.bool x0.ByKm, .slice a0_0 x0.Bands.length c0_0, .int .i64 x0.Round, .slice a0_1 x0.Rules.length c0_1].toArray, .slice a1 x1.length c1, .slice a2 x2.length c2].toArray w (fun e w => ∃ (a1 : Option Addr) (c1 : Nat) (t : Sg), e = .returned (.tuple #[.int .i64 r.1, .slice a1 r.2.length c1]) ∧ s.Le t ∧ Sl 2 RFareBuy t a1 c1 r.2 ∧ St w t (R)) := by
  refine enter Try.func13 rfl rfl rfl fun a hE => ?_
  rw [Fishref2CheapestOf] at hr
  refine W.seq ?_
  refine W.region ?_
  refine WL.box hE hS (runs_plain rfl) rfl rfl rfl ?_; clear hE hS a w; intro b51 a w hE hS
  refine WL.vS hS hE (runs_plain rfl) (Gives.p hE rfl) rfl ?_; clear hE a; intro a hE
  refine WL.vS hS hE (runs_plain rfl) (Gives.p hE rfl) rfl ?_; clear hE a; intro a hE
  refine WL.nil ?_
  refine W.seq ?_
  refine W.region ?_
  refine WL.vS hS hE (runs_plain rfl) (Gives.p hE rfl) rfl ?_; clear hE a; intro a hE
  refine WL.nil ?_
  refine W.seq ?_
  refine W.region ?_
  refine WL.vS hS hE (runs_plain rfl) (Gives.p hE rfl) rfl ?_; clear hE a; intro a hE
  refine WL.nil ?_
  refine W.seq ?_
  refine W.region ?_
  refine WL.vS hS hE (runs_plain rfl) (Gives.p hE rfl) rfl ?_; clear hE a; intro a hE
  refine WL.vS hS hE (runs_plain rfl) (Gives.len hE rfl sl27) rfl ?_; clear hE a; intro a hE
  refine WL.vS hS hE (runs_plain rfl) (Gives.p hE rfl) rfl ?_; clear hE a; intro a hE
  refine WL.vS hS hE (runs_plain rfl) (Gives.p hE rfl) rfl ?_; clear hE a; intro a hE
  refine WL.nil ?_
  refine W.seq ?_
  refine W.seq ?_
  refine W.region ?_
  refine WL.vS hS hE (runs_plain rfl) (Gives.p hE rfl) rfl ?_; clear hE a; intro a hE
  obtain ⟨_, hx52, hr⟩ := bindS hr
  refine WL.vS hS hE (runs_plain rfl) (Gives.shl hE rfl rfl (nn_some hx52)) rfl ?_; clear hE a; intro a hE
  refine WL.vS hS hE (runs_plain rfl) (Gives.p hE rfl) rfl ?_; clear hE a; intro a hE
  refine WL.nil ?_
  obtain ⟨q65, hq64, hr⟩ := bindS hr
  refine W.cut (fun a w => ∃ (q70 : List FareBuy), ∃ (q74 : Int), ∃ (q75 : Int), ∃ (a71 : Option Addr), ∃ (c72 : Nat), ∃ (s68 : Sg), s.Le s68 ∧ (q70, q74, q75) = q65 ∧ Sl 2 RFareBuy s68 a71 c72 q70 ∧ Rep a 87 [(8, .slice a71 q70.length c72), (9, .int .i64 q74)] ∧ St w s68 (pt b51 (.cells #[.bool x0.ByKm, .slice a0_0 x0.Bands.length c0_0, .int .i64 x0.Round, .slice a0_1 x0.Rules.length c0_1] 25 (0, 0)) :: R)) ?_ ?_
  · refine W.block ?_
    refine W.loop (fun m a w => ∃ (n66 : Nat), ∃ (q70 : List FareBuy), ∃ (q74 : Int), ∃ (q75 : Int), ∃ (a71 : Option Addr), ∃ (c72 : Nat), ∃ (s68 : Sg), n66 = m ∧ s.Le s68 ∧ Fishref2CheapestOf.loop2 x0 x1 x2 fu n66 q70 q74 q75 = some q65 ∧ Sl 2 RFareBuy s68 a71 c72 q70 ∧ Rep a 87 [(1, .slice a1 x1.length c1), (2, .slice a2 x2.length c2), (3, .pointer (some ⟨b51, 0, none⟩)), (8, .slice a71 q70.length c72), (9, .int .i64 q74), (10, .int .i64 (w64 (7 * ((x2).length : Int)))), (19, .int .i64 (IntKind.wrap .i64 (1 * (2 ^ (min (Int.toNat (w64 (7 * ((x2).length : Int)))) (IntKind.bits .i64)))))), (20, .int .i64 q75)] ∧ St w s68 (pt b51 (.cells #[.bool x0.ByKm, .slice a0_0 x0.Bands.length c0_0, .int .i64 x0.Round, .slice a0_1 x0.Rules.length c0_1] 25 (0, 0)) :: R)) (m := fu) ⟨fu, [], (-1), 0, none, 0, s, rfl, (Sg.Le.refl _), hq64, Sl.nil, hE.pick _ ⟨rfl, rfl, rfl, rfl, rfl, rfl, rfl, rfl, trivial⟩, hS⟩ ?_
    clear hE hS a w hq64; rintro m67 a w ⟨n66, q70, q74, q75, a71, c72, s68, rfl, hle69, hq64, h73, hE, hS⟩
    refine W.gen fun K76 hK76 => ?_
    replace h0_0 := Sl.mono RFareBand.mono hle69 h0_0
    replace h0_1 := Sl.mono RFareRule.mono hle69 h0_1
    replace h1 := Sl.mono RFareTrip.mono hle69 h1
    replace h2 := Sl.mono RFarePass.mono hle69 h2
    rcases n66 with _ | n66
    · rw [Fishref2CheapestOf.loop2] at hq64; exact absurd hq64 (by simp)
    rw [Fishref2CheapestOf.loop2] at hq64
    refine W.seq ?_
    refine W.region ?_
    refine WL.vS hS hE (runs_plain rfl) (Gives.p hE rfl) rfl ?_; clear hE a; intro a hE
    refine WL.nil ?_
    refine W.seq ?_
    refine W.cond hE rfl (fun hc77 => ?_) (fun hc77 => ?_)
    · replace hq64 := iteT hc77 hq64
      refine W.skip ?_
      refine W.seq ?_
      refine W.block ?_
      refine W.seq ?_
      refine W.region ?_
      refine WL.vS hS hE (runs_plain rfl) (Gives.p hE rfl) rfl ?_; clear hE a; intro a hE
      refine WL.vS hS hE (runs_plain rfl) (Gives.p hE rfl) rfl ?_; clear hE a; intro a hE
      refine WL.nil ?_
      refine W.seq ?_
      refine W.region ?_
      replace hS := hS.vecNil 38 2
      refine WL.vS hS hE (runs_plain rfl) (Gives.p hE rfl) rfl ?_; clear hE a; intro a hE
      refine WL.nil ?_
      refine W.seq ?_
      refine W.seq ?_
      refine W.region ?_
      refine WL.vS hS hE (runs_plain rfl) (Gives.p hE rfl) rfl ?_; clear hE a; intro a hE
      refine WL.vS hS hE (runs_plain rfl) (Gives.p hE rfl) rfl ?_; clear hE a; intro a hE
      refine WL.nil ?_
      obtain ⟨q91, hq90, hq64⟩ := bindS hq64
      refine W.cut (fun a w => ∃ (q96 : List FareBuy), ∃ (q103 : Int), ∃ (a97 : Option Addr), ∃ (c98 : Nat), ∃ (n100 : Nat), ∃ (cs101 : List Value), (q96, q103) = q91 ∧ Ev 2 RFareBuy s68 cs101 q96 ∧ q96.length = n100 ∧ Rep a 87 [(1, .slice a1 x1.length c1), (2, .slice a2 x2.length c2), (3, .pointer (some ⟨b51, 0, none⟩)), (8, .slice a71 q70.length c72), (9, .int .i64 q74), (10, .int .i64 (w64 (7 * ((x2).length : Int)))), (12, .slice a97 n100 c98), (19, .int .i64 (IntKind.wrap .i64 (1 * (2 ^ (min (Int.toNat (w64 (7 * ((x2).length : Int)))) (IntKind.bits .i64)))))), (20, .int .i64 q75)] ∧ St w s68 (vecC 38 2 a97 c98 n100 cs101 :: pt b51 (.cells #[.bool x0.ByKm, .slice a0_0 x0.Bands.length c0_0, .int .i64 x0.Round, .slice a0_1 x0.Rules.length c0_1] 25 (0, 0)) :: R)) ?_ ?_
      · refine W.block ?_
        refine W.loop (fun m a w => ∃ (n92 : Nat), ∃ (q96 : List FareBuy), ∃ (q103 : Int), ∃ (a97 : Option Addr), ∃ (c98 : Nat), ∃ (n100 : Nat), ∃ (cs101 : List Value), n92 = m ∧ Fishref2CheapestOf.loop4 x2 q75 n92 q96 q103 = some q91 ∧ Ev 2 RFareBuy s68 cs101 q96 ∧ q96.length = n100 ∧ Rep a 87 [(1, .slice a1 x1.length c1), (2, .slice a2 x2.length c2), (3, .pointer (some ⟨b51, 0, none⟩)), (8, .slice a71 q70.length c72), (9, .int .i64 q74), (10, .int .i64 (w64 (7 * ((x2).length : Int)))), (11, .int .i64 q75), (12, .slice a97 n100 c98), (19, .int .i64 (IntKind.wrap .i64 (1 * (2 ^ (min (Int.toNat (w64 (7 * ((x2).length : Int)))) (IntKind.bits .i64)))))), (20, .int .i64 q75), (23, .int .i64 (w64 (7 * ((x2).length : Int)))), (24, .int .i64 q103)] ∧ St w s68 (vecC 38 2 a97 c98 n100 cs101 :: pt b51 (.cells #[.bool x0.ByKm, .slice a0_0 x0.Bands.length c0_0, .int .i64 x0.Round, .slice a0_1 x0.Rules.length c0_1] 25 (0, 0)) :: R)) (m := fu) ⟨fu, [], 0, none, 0, 0, [], rfl, hq90, (Ev.nil), (rfl), hE.pick _ ⟨rfl, rfl, rfl, rfl, rfl, rfl, rfl, rfl, rfl, rfl, rfl, rfl, trivial⟩, hS⟩ ?_
        clear hE hS a w hq90; rintro m93 a w ⟨n92, q96, q103, a97, c98, n100, cs101, rfl, hq90, h99, rfl, hE, hS⟩
        refine W.gen fun K104 hK104 => ?_
        rcases n92 with _ | n92
        · rw [Fishref2CheapestOf.loop4] at hq90; exact absurd hq90 (by simp)
        rw [Fishref2CheapestOf.loop4] at hq90
        refine W.seq ?_
        refine W.region ?_
        refine WL.vS hS hE (runs_plain rfl) (Gives.p hE rfl) rfl ?_; clear hE a; intro a hE
        refine WL.nil ?_
        refine W.seq ?_
        refine W.cond hE rfl (fun hc105 => ?_) (fun hc105 => ?_)
        · replace hq90 := iteT hc105 hq90
          refine W.skip ?_
          refine W.seq ?_
          refine W.block ?_
          refine W.seq ?_
          refine W.region ?_
          refine WL.vS hS hE (runs_plain rfl) (Gives.p hE rfl) rfl ?_; clear hE a; intro a hE
          refine WL.vS hS hE (runs_plain rfl) (Gives.p hE rfl) rfl ?_; clear hE a; intro a hE
          refine WL.nil ?_
          refine W.seq ?_
          refine W.region ?_
          refine WL.vS hS hE (runs_plain rfl) (Gives.p hE rfl) rfl ?_; clear hE a; intro a hE
          refine WL.vS hS hE (runs_plain rfl) (Gives.p hE rfl) rfl ?_; clear hE a; intro a hE
          obtain ⟨_, hx106, hq90⟩ := bindS hq90
          refine WL.vS hS hE (runs_plain rfl) (Gives.shr hE rfl rfl (nn_some hx106)) rfl ?_; clear hE a; intro a hE
          refine WL.vS hS hE (runs_plain rfl) (Gives.p hE rfl) rfl ?_; clear hE a; intro a hE
          refine WL.vS hS hE (runs_plain rfl) (Gives.p hE rfl) rfl ?_; clear hE a; intro a hE
          refine WL.nil ?_
          obtain ⟨q108, hq107, hq90⟩ := bindS hq90
          refine W.cut (fun a w => ∃ (q111 : List FareBuy), ∃ (a112 : Option Addr), ∃ (c113 : Nat), ∃ (n115 : Nat), ∃ (cs116 : List Value), q111 = q108 ∧ Ev 2 RFareBuy s68 cs116 q111 ∧ q111.length = n115 ∧ Rep a 87 [(1, .slice a1 x1.length c1), (2, .slice a2 x2.length c2), (3, .pointer (some ⟨b51, 0, none⟩)), (8, .slice a71 q70.length c72), (9, .int .i64 q74), (10, .int .i64 (w64 (7 * ((x2).length : Int)))), (11, .int .i64 q75), (12, .slice a112 n115 c113), (19, .int .i64 (IntKind.wrap .i64 (1 * (2 ^ (min (Int.toNat (w64 (7 * ((x2).length : Int)))) (IntKind.bits .i64)))))), (20, .int .i64 q75), (23, .int .i64 (w64 (7 * ((x2).length : Int)))), (24, .int .i64 q103)] ∧ St w s68 (vecC 38 2 a112 c113 n115 cs116 :: pt b51 (.cells #[.bool x0.ByKm, .slice a0_0 x0.Bands.length c0_0, .int .i64 x0.Round, .slice a0_1 x0.Rules.length c0_1] 25 (0, 0)) :: R)) ?_ ?_
          · refine W.gen fun K118 hK118 => ?_
            refine W.cond hE rfl (fun hc119 => ?_) (fun hc119 => ?_)
            · replace hq107 := iteT hc119 hq107
              refine W.gen fun K120 hK120 => ?_
              refine W.regionE (sel (fun w => St w s68 (vecC 38 2 a97 c98 q96.length cs101 :: pt b51 (.cells #[.bool x0.ByKm, .slice a0_0 x0.Bands.length c0_0, .int .i64 x0.Round, .slice a0_1 x0.Rules.length c0_1] 25 (0, 0)) :: R)) (fun w => St w s68 (pt b51 (.cells #[.bool x0.ByKm, .slice a0_0 x0.Bands.length c0_0, .int .i64 x0.Round, .slice a0_1 x0.Rules.length c0_1] 25 (0, 0)) :: R))) (fun b i => cond b ([0, 1, 2, 3, 4, 5, 6, 7, 8, 9, 10, 12].contains i) ([0, 1, 2, 3, 4, 5, 6, 7, 8, 9, 10, 11, 12].contains i)) mixed ?_
              replace hS := hS.drew
              refine Rg.takeP (i := 0) hE rfl (by kernel_rfl) (runs_plain rfl) (Gives.p hE rfl) rfl (tw_sel (fun _ => hS) (fun _ => (hS.tail))) ?_; clear hE a; intro a hE
              refine Rg.takeP (i := 1) hE rfl (by kernel_rfl) (runs_plain rfl) (Gives.p hE rfl) rfl (tw_sel (fun _ => hS) (fun _ => (hS.tail))) ?_; clear hE a; intro a hE
              refine Rg.takeP (i := 2) hE rfl (by kernel_rfl) (runs_plain rfl) (Gives.p hE rfl) rfl (tw_sel (fun _ => hS) (fun _ => (hS.tail))) ?_; clear hE a; intro a hE
              refine Rg.takeP (i := 3) hE rfl (by kernel_rfl) (runs_plain rfl) (Gives.len hE rfl sl27) rfl (tw_sel (fun _ => hS) (fun _ => (hS.tail))) ?_; clear hE a; intro a hE
              obtain ⟨x121, hx122, hq107⟩ := bindS hq107
              refine Rg.takeP (i := 4) hE rfl (by kernel_rfl) (runs_plain rfl) (Gives.dv hE rfl rfl hx122) rfl (tw_sel (fun _ => hS) (fun _ => (hS.tail))) ?_; clear hE a; intro a hE
              refine Rg.takeP (i := 5) hE rfl (by kernel_rfl) (runs_plain rfl) (Gives.p hE rfl) rfl (tw_sel (fun _ => hS) (fun _ => (hS.tail))) ?_; clear hE a; intro a hE
              refine Rg.takeP (i := 6) hE rfl (by kernel_rfl) (runs_plain rfl) (Gives.p hE rfl) rfl (tw_sel (fun _ => hS) (fun _ => (hS.tail))) ?_; clear hE a; intro a hE
              refine Rg.takeP (i := 7) hE rfl (by kernel_rfl) (runs_plain rfl) (Gives.len hE rfl sl27) rfl (tw_sel (fun _ => hS) (fun _ => (hS.tail))) ?_; clear hE a; intro a hE
              obtain ⟨x123, hx124, hq107⟩ := bindS hq107
              refine Rg.takeP (i := 8) hE rfl (by kernel_rfl) (runs_plain rfl) (Gives.rm hE rfl rfl hx124) rfl (tw_sel (fun _ => hS) (fun _ => (hS.tail))) ?_; clear hE a; intro a hE
              refine Rg.takeP (i := 9) hE rfl (by kernel_rfl) (runs_plain rfl) (Gives.build hE (vs := [(0, .int .i64 x121), (1, .int .i64 x123)]) [.int .i64 x121, .int .i64 x123] rfl (by kernel_rfl)) rfl (tw_sel (fun _ => hS) (fun _ => (hS.tail))) ?_; clear hE a; intro a hE
              refine Rg.one (i := 10) true true rfl (by kernel_rfl) (by kernel_rfl) (by kernel_rfl) ?_
              refine WL.lit hE hS (e := 38) (es := 2) (vs := [(0, .agg [.int .i64 x121, .int .i64 x123].toArray)]) (cs := [.int .i64 x121, .int .i64 x123]) (runs_plain rfl) rfl (by kernel_rfl) rfl ?_; clear hE hS a w; intro b125 a w hE hS
              refine WL.nil ?_
              refine ⟨⟨fun _ => (hS.tail), fun _ => ((hS.tail).tail)⟩, ?_⟩
              refine Rg.one (i := 11) false true rfl (by kernel_rfl) (by kernel_rfl) (by kernel_rfl) ?_
              obtain ⟨x126, hx127, hq107⟩ := bindS hq107
              refine WL.appD hE hS 0 (m := 1) (runs_plain rfl) rfl rfl rfl ap28 rfl h99 rfl (xs := [(FareBuy.mk x121 x123)]) (Ev.cons (c1 := [.int .i64 x121, .int .i64 x123]) rfl rfl (Ev.nil)) rfl rfl hx127 rfl ?_; clear hE hS a w; intro a128 c129 cs130 a w h131 hE hS
              refine WL.nil ?_
              refine ⟨⟨fun h => absurd h (by decide), fun _ => (hS.tail)⟩, ?_⟩
              refine Rg.takeP (i := 12) hE rfl (by kernel_rfl) (runs_plain rfl) (Gives.p hE rfl) rfl (tw_sel (fun h => absurd h (by decide)) (fun _ => (hS.tail))) ?_; clear hE a; intro a hE
              refine Rg.done (by kernel_rfl) ?_
              subst hK120
              subst hK118
              exact ⟨x126, a128, c129, x126.length, cs130, Option.some.inj hq107, h131, (rfl), hE.pick _ ⟨rfl, rfl, rfl, rfl, rfl, rfl, rfl, rfl, rfl, rfl, rfl, rfl, trivial⟩, hS⟩
            · replace hq107 := iteF hc119 hq107
              refine W.skip ?_
              subst hK118
              exact ⟨q96, a97, c98, q96.length, cs101, Option.some.inj hq107, h99, rfl, hE.pick _ ⟨rfl, rfl, rfl, rfl, rfl, rfl, rfl, rfl, rfl, rfl, rfl, rfl, trivial⟩, hS⟩
          · clear hE hS a w; rintro a w ⟨q111, a112, c113, n115, cs116, rfl, h114, rfl, hE, hS⟩
            refine W.region ?_
            refine WL.vS hS hE (runs_plain rfl) (Gives.p hE rfl) rfl ?_; clear hE a; intro a hE
            refine WL.vS hS hE (runs_plain rfl) (Gives.p hE rfl) rfl ?_; clear hE a; intro a hE
            refine WL.nil ?_
            subst hK104
            exact ⟨n92, Nat.lt_succ_self _, n92, q111, (w64 (q103 + 1)), a112, c113, q111.length, cs116, rfl, hq90, h114, rfl, hE.pick _ ⟨rfl, rfl, rfl, rfl, rfl, rfl, rfl, rfl, rfl, rfl, rfl, rfl, trivial⟩, hS⟩
        · replace hq90 := iteF hc105 hq90
          subst hK104
          refine W.exit rfl ?_
          exact ⟨q96, q103, a97, c98, q96.length, cs101, Option.some.inj hq90, h99, rfl, hE.pick _ ⟨rfl, rfl, rfl, rfl, rfl, rfl, rfl, rfl, rfl, trivial⟩, hS⟩
      · clear hE hS a w; rintro a w ⟨q96, q103, a97, c98, n100, cs101, rfl, h99, rfl, hE, hS⟩
        dsimp only at hq64
        refine W.seq ?_
        refine W.region ?_
        refine WL.vS hS hE (runs_plain rfl) (Gives.loadBA hE 1 rfl rfl ty25) rfl ?_; clear hE a; intro a hE
        refine WL.vS hS hE (runs_plain rfl) (Gives.p hE rfl) rfl ?_; clear hE a; intro a hE
        refine WL.vS hS hE (runs_plain rfl) (Gives.p hE rfl) rfl ?_; clear hE a; intro a hE
        refine WL.vS hS hE (runs_plain rfl) (Gives.p hE rfl) rfl ?_; clear hE a; intro a hE
        obtain ⟨q132, hq133, hq64⟩ := bindS hq64
        have hF := hS.lendV RFareBuy.mono 0 rfl h99 rfl; clear hS; obtain ⟨t134, hle135, hS, hs136, bk137⟩ := hF
        have hc_ := Fishref2SumOf_ok hS (Sl.mono RFareBand.mono hle135 h0_0) (Sl.mono RFareRule.mono hle135 h0_1) (Sl.mono RFareTrip.mono hle135 h1) (Sl.mono RFarePass.mono hle135 h2) hs136 hq133
        refine WL.fnq hE (hc_) (runs_plain rfl) bd63 rfl rfl rfl ?_
        clear hE hS hc_; rintro e w ⟨rfl, hS⟩; refine ⟨_, rfl, ?_⟩; clear a; intro a hE
        replace hS := bk137 _ _ hS
        refine WL.vS hS hE (runs_plain rfl) (Gives.p hE rfl) rfl ?_; clear hE a; intro a hE
        refine WL.nil ?_
        refine W.seq ?_
        obtain ⟨q139, hq138, hq64⟩ := bindS hq64
        refine W.cut (fun a w => ∃ (q142 : Bool), q142 = q139 ∧ Rep a 87 [(1, .slice a1 x1.length c1), (2, .slice a2 x2.length c2), (3, .pointer (some ⟨b51, 0, none⟩)), (8, .slice a71 q70.length c72), (9, .int .i64 q74), (10, .int .i64 (w64 (7 * ((x2).length : Int)))), (12, .slice a97 q96.length c98), (14, .int .i64 q132), (19, .int .i64 (IntKind.wrap .i64 (1 * (2 ^ (min (Int.toNat (w64 (7 * ((x2).length : Int)))) (IntKind.bits .i64)))))), (20, .int .i64 q75), (81, .bool q142)] ∧ St w s68 (vecC 38 2 a97 c98 q96.length cs101 :: pt b51 (.cells #[.bool x0.ByKm, .slice a0_0 x0.Bands.length c0_0, .int .i64 x0.Round, .slice a0_1 x0.Rules.length c0_1] 25 (0, 0)) :: R)) ?_ ?_
        · refine W.gen fun K143 hK143 => ?_
          refine W.region ?_
          refine WL.vS hS hE (runs_plain rfl) (Gives.p hE rfl) rfl ?_; clear hE a; intro a hE
          refine WL.vS hS hE (runs_plain rfl) (Gives.p hE rfl) rfl ?_; clear hE a; intro a hE
          refine WL.vS hS hE (runs_plain rfl) (Gives.p hE rfl) rfl ?_; clear hE a; intro a hE
          rcases Bool.eq_false_or_eq_true (decide (q74 < 0)) with hg144 | hg144
          · replace hq138 := iteT hg144 hq138
            refine WL.no hE (runs_not hE rfl rfl rfl (by rw [hg144]; decide)) rfl ?_; clear hE a; intro a hE
            refine WL.no hE (runs_not hE rfl rfl rfl (by rw [hg144]; decide)) rfl ?_; clear hE a; intro a hE
            refine WL.no hE (runs_not hE rfl rfl rfl (by rw [hg144]; decide)) rfl ?_; clear hE a; intro a hE
            refine WL.vS hS hE (runs_plain rfl) (Gives.pickT hE rfl hg144 rfl) rfl ?_; clear hE a; intro a hE
            refine WL.vS hS hE (runs_plain rfl) (Gives.p hE rfl) rfl ?_; clear hE a; intro a hE
            refine WL.no hE (runs_not hE rfl rfl rfl (by decide)) rfl ?_; clear hE a; intro a hE
            refine WL.no hE (runs_not hE rfl rfl rfl (by decide)) rfl ?_; clear hE a; intro a hE
            refine WL.no hE (runs_not hE rfl rfl rfl (by decide)) rfl ?_; clear hE a; intro a hE
            refine WL.no hE (runs_not hE rfl rfl rfl (by decide)) rfl ?_; clear hE a; intro a hE
            refine WL.no hE (runs_undef hE rfl rfl rfl) rfl ?_; clear hE a; intro a hE
            refine WL.no hE (runs_undef hE rfl rfl rfl) rfl ?_; clear hE a; intro a hE
            refine WL.no hE (runs_undef hE rfl rfl rfl) rfl ?_; clear hE a; intro a hE
            refine WL.no hE (runs_undef hE rfl rfl rfl) rfl ?_; clear hE a; intro a hE
            refine WL.no hE (runs_undef hE rfl rfl rfl) rfl ?_; clear hE a; intro a hE
            refine WL.no hE (runs_undef hE rfl rfl rfl) rfl ?_; clear hE a; intro a hE
            refine WL.no hE (runs_undef hE rfl rfl rfl) rfl ?_; clear hE a; intro a hE
            refine WL.no hE (runs_undef hE rfl rfl rfl) rfl ?_; clear hE a; intro a hE
            refine WL.no hE (runs_undef hE rfl rfl rfl) rfl ?_; clear hE a; intro a hE
            refine WL.no hE (runs_undef hE rfl rfl rfl) rfl ?_; clear hE a; intro a hE
            refine WL.no hE (runs_undef hE rfl rfl rfl) rfl ?_; clear hE a; intro a hE
            refine WL.no hE (runs_undef hE rfl rfl rfl) rfl ?_; clear hE a; intro a hE
            refine WL.no hE (runs_undef hE rfl rfl rfl) rfl ?_; clear hE a; intro a hE
            refine WL.no hE (runs_undef hE rfl rfl rfl) rfl ?_; clear hE a; intro a hE
            refine WL.no hE (runs_undef hE rfl rfl rfl) rfl ?_; clear hE a; intro a hE
            refine WL.no hE (runs_undef hE rfl rfl rfl) rfl ?_; clear hE a; intro a hE
            refine WL.no hE (runs_undef hE rfl rfl rfl) rfl ?_; clear hE a; intro a hE
            refine WL.no hE (runs_undef hE rfl rfl rfl) rfl ?_; clear hE a; intro a hE
            refine WL.no hE (runs_not hE rfl rfl rfl (by decide)) rfl ?_; clear hE a; intro a hE
            refine WL.vS hS hE (runs_plain rfl) (Gives.pickT hE rfl rfl rfl) rfl ?_; clear hE a; intro a hE
            refine WL.nil ?_
            subst hK143
            exact ⟨true, Option.some.inj hq138, hE.pick _ ⟨rfl, rfl, rfl, rfl, rfl, rfl, rfl, rfl, rfl, rfl, rfl, trivial⟩, hS⟩
          · replace hq138 := iteF hg144 hq138
            refine WL.vS hS hE (runs_if hE rfl rfl rfl hg144) (Gives.p hE rfl) rfl ?_; clear hE a; intro a hE
            refine WL.vS hS hE (runs_if hE rfl rfl rfl hg144) (Gives.p hE rfl) rfl ?_; clear hE a; intro a hE
            refine WL.vS hS hE (runs_if hE rfl rfl rfl hg144) (Gives.p hE rfl) rfl ?_; clear hE a; intro a hE
            refine WL.vS hS hE (runs_plain rfl) (Gives.pickF hE rfl hg144 rfl) rfl ?_; clear hE a; intro a hE
            refine WL.vS hS hE (runs_plain rfl) (Gives.p hE rfl) rfl ?_; clear hE a; intro a hE
            rcases Bool.eq_false_or_eq_true (decide (q132 < q74)) with hg145 | hg145
            · replace hq138 := iteT hg145 hq138
              refine WL.no hE (runs_not hE rfl rfl rfl (by rw [hg145]; decide)) rfl ?_; clear hE a; intro a hE
              refine WL.no hE (runs_not hE rfl rfl rfl (by rw [hg145]; decide)) rfl ?_; clear hE a; intro a hE
              refine WL.no hE (runs_not hE rfl rfl rfl (by rw [hg145]; decide)) rfl ?_; clear hE a; intro a hE
              refine WL.no hE (runs_not hE rfl rfl rfl (by rw [hg145]; decide)) rfl ?_; clear hE a; intro a hE
              refine WL.no hE (runs_undef hE rfl rfl rfl) rfl ?_; clear hE a; intro a hE
              refine WL.no hE (runs_undef hE rfl rfl rfl) rfl ?_; clear hE a; intro a hE
              refine WL.no hE (runs_undef hE rfl rfl rfl) rfl ?_; clear hE a; intro a hE
              refine WL.no hE (runs_undef hE rfl rfl rfl) rfl ?_; clear hE a; intro a hE
              refine WL.no hE (runs_undef hE rfl rfl rfl) rfl ?_; clear hE a; intro a hE
              refine WL.no hE (runs_undef hE rfl rfl rfl) rfl ?_; clear hE a; intro a hE
              refine WL.no hE (runs_undef hE rfl rfl rfl) rfl ?_; clear hE a; intro a hE
              refine WL.no hE (runs_undef hE rfl rfl rfl) rfl ?_; clear hE a; intro a hE
              refine WL.no hE (runs_undef hE rfl rfl rfl) rfl ?_; clear hE a; intro a hE
              refine WL.no hE (runs_undef hE rfl rfl rfl) rfl ?_; clear hE a; intro a hE
              refine WL.no hE (runs_undef hE rfl rfl rfl) rfl ?_; clear hE a; intro a hE
              refine WL.no hE (runs_undef hE rfl rfl rfl) rfl ?_; clear hE a; intro a hE
              refine WL.no hE (runs_undef hE rfl rfl rfl) rfl ?_; clear hE a; intro a hE
              refine WL.no hE (runs_undef hE rfl rfl rfl) rfl ?_; clear hE a; intro a hE
              refine WL.no hE (runs_undef hE rfl rfl rfl) rfl ?_; clear hE a; intro a hE
              refine WL.no hE (runs_undef hE rfl rfl rfl) rfl ?_; clear hE a; intro a hE
              refine WL.no hE (runs_undef hE rfl rfl rfl) rfl ?_; clear hE a; intro a hE
              refine WL.no hE (runs_undef hE rfl rfl rfl) rfl ?_; clear hE a; intro a hE
              refine WL.no hE (runs_not hE rfl rfl rfl (by rw [hg145]; decide)) rfl ?_; clear hE a; intro a hE
              refine WL.vS hS hE (runs_plain rfl) (Gives.pickT hE rfl hg145 rfl) rfl ?_; clear hE a; intro a hE
              refine WL.nil ?_
              subst hK143
              exact ⟨true, Option.some.inj hq138, hE.pick _ ⟨rfl, rfl, rfl, rfl, rfl, rfl, rfl, rfl, rfl, rfl, rfl, trivial⟩, hS⟩
            · replace hq138 := iteF hg145 hq138
              refine WL.vS hS hE (runs_if hE rfl rfl rfl hg145) (Gives.p hE rfl) rfl ?_; clear hE a; intro a hE
              refine WL.vS hS hE (runs_if hE rfl rfl rfl hg145) (Gives.p hE rfl) rfl ?_; clear hE a; intro a hE
              refine WL.vS hS hE (runs_if hE rfl rfl rfl hg145) (Gives.p hE rfl) rfl ?_; clear hE a; intro a hE
              refine WL.vS hS hE (runs_if hE rfl rfl rfl hg145) (Gives.p hE rfl) rfl ?_; clear hE a; intro a hE
              rcases Bool.eq_false_or_eq_true (q132 == q74) with hg146 | hg146
              · replace hq138 := iteT hg146 hq138
                refine WL.vS hS hE (runs_if hE rfl rfl rfl hg146) (Gives.p hE rfl) rfl ?_; clear hE a; intro a hE
                refine WL.vS hS hE (runs_if hE rfl rfl rfl hg146) (Gives.len hE rfl sl28) rfl ?_; clear hE a; intro a hE
                refine WL.vS hS hE (runs_if hE rfl rfl rfl hg146) (Gives.p hE rfl) rfl ?_; clear hE a; intro a hE
                refine WL.vS hS hE (runs_if hE rfl rfl rfl hg146) (Gives.len hE rfl sl28) rfl ?_; clear hE a; intro a hE
                refine WL.vS hS hE (runs_if hE rfl rfl rfl hg146) (Gives.p hE rfl) rfl ?_; clear hE a; intro a hE
                refine WL.vS hS hE (runs_if hE rfl rfl rfl hg146) (Gives.p hE rfl) rfl ?_; clear hE a; intro a hE
                rcases Bool.eq_false_or_eq_true (decide (((q96.length : Nat) : Int) < ((q70).length : Int))) with hg147 | hg147
                · replace hq138 := iteT hg147 hq138
                  refine WL.no hE (runs_not hE rfl rfl rfl (by rw [hg147]; decide)) rfl ?_; clear hE a; intro a hE
                  refine WL.no hE (runs_not hE rfl rfl rfl (by rw [hg147]; decide)) rfl ?_; clear hE a; intro a hE
                  refine WL.no hE (runs_not hE rfl rfl rfl (by rw [hg147]; decide)) rfl ?_; clear hE a; intro a hE
                  refine WL.no hE (runs_not hE rfl rfl rfl (by rw [hg147]; decide)) rfl ?_; clear hE a; intro a hE
                  refine WL.no hE (runs_not hE rfl rfl rfl (by rw [hg147]; decide)) rfl ?_; clear hE a; intro a hE
                  refine WL.no hE (runs_not hE rfl rfl rfl (by rw [hg147]; decide)) rfl ?_; clear hE a; intro a hE
                  refine WL.no hE (runs_undef hE rfl rfl rfl) rfl ?_; clear hE a; intro a hE
                  refine WL.no hE (runs_undef hE rfl rfl rfl) rfl ?_; clear hE a; intro a hE
                  refine WL.no hE (runs_undef hE rfl rfl rfl) rfl ?_; clear hE a; intro a hE
                  refine WL.no hE (runs_undef hE rfl rfl rfl) rfl ?_; clear hE a; intro a hE
                  refine WL.no hE (runs_not hE rfl rfl rfl (by rw [hg147]; decide)) rfl ?_; clear hE a; intro a hE
                  refine WL.vS hS hE (runs_if hE rfl rfl rfl hg146) (Gives.pickT hE rfl hg147 rfl) rfl ?_; clear hE a; intro a hE
                  refine WL.vS hS hE (runs_if hE rfl rfl rfl hg145) (Gives.pickT hE rfl hg146 rfl) rfl ?_; clear hE a; intro a hE
                  refine WL.vS hS hE (runs_plain rfl) (Gives.pickF hE rfl hg145 rfl) rfl ?_; clear hE a; intro a hE
                  refine WL.nil ?_
                  subst hK143
                  exact ⟨true, Option.some.inj hq138, hE.pick _ ⟨rfl, rfl, rfl, rfl, rfl, rfl, rfl, rfl, rfl, rfl, rfl, trivial⟩, hS⟩
                · replace hq138 := iteF hg147 hq138
                  refine WL.vS hS hE (runs_if hE rfl rfl rfl hg147) (Gives.p hE rfl) rfl ?_; clear hE a; intro a hE
                  refine WL.vS hS hE (runs_if hE rfl rfl rfl hg147) (Gives.len hE rfl sl28) rfl ?_; clear hE a; intro a hE
                  refine WL.vS hS hE (runs_if hE rfl rfl rfl hg147) (Gives.p hE rfl) rfl ?_; clear hE a; intro a hE
                  refine WL.vS hS hE (runs_if hE rfl rfl rfl hg147) (Gives.len hE rfl sl28) rfl ?_; clear hE a; intro a hE
                  refine WL.vS hS hE (runs_if hE rfl rfl rfl hg147) (Gives.p hE rfl) rfl ?_; clear hE a; intro a hE
                  refine WL.vS hS hE (runs_if hE rfl rfl rfl hg147) (Gives.p hE rfl) rfl ?_; clear hE a; intro a hE
                  rcases Bool.eq_false_or_eq_true (((q96.length : Nat) : Int) == ((q70).length : Int)) with hg148 | hg148
                  · replace hq138 := iteT hg148 hq138
                    refine WL.vS hS hE (runs_if hE rfl rfl rfl hg148) (Gives.p hE rfl) rfl ?_; clear hE a; intro a hE
                    refine WL.vS hS hE (runs_if hE rfl rfl rfl hg148) (Gives.p hE rfl) rfl ?_; clear hE a; intro a hE
                    obtain ⟨q149, hq150, hq138⟩ := bindS hq138
                    have hF := hS.lendV RFareBuy.mono 0 rfl h99 rfl; clear hS; obtain ⟨t151, hle152, hS, hs153, bk154⟩ := hF
                    have hc_ := SlicesCompareFuncLfareBuy_v2_ok hS hs153 (Sl.mono RFareBuy.mono hle152 h73) hq150
                    refine WL.fnq hE (hc_) (runs_if hE rfl rfl rfl hg148) bd57 rfl rfl rfl ?_
                    clear hE hS hc_; rintro e w ⟨rfl, hS⟩; refine ⟨_, rfl, ?_⟩; clear a; intro a hE
                    replace hS := bk154 _ _ hS
                    refine WL.vS hS hE (runs_if hE rfl rfl rfl hg148) (Gives.p hE rfl) rfl ?_; clear hE a; intro a hE
                    refine WL.vS hS hE (runs_if hE rfl rfl rfl hg147) (Gives.pickT hE rfl hg148 rfl) rfl ?_; clear hE a; intro a hE
                    refine WL.vS hS hE (runs_if hE rfl rfl rfl hg146) (Gives.pickF hE rfl hg147 rfl) rfl ?_; clear hE a; intro a hE
                    refine WL.vS hS hE (runs_if hE rfl rfl rfl hg145) (Gives.pickT hE rfl hg146 rfl) rfl ?_; clear hE a; intro a hE
                    refine WL.vS hS hE (runs_plain rfl) (Gives.pickF hE rfl hg145 rfl) rfl ?_; clear hE a; intro a hE
                    refine WL.nil ?_
                    subst hK143
                    exact ⟨decide (q149 < 0), Option.some.inj hq138, hE.pick _ ⟨rfl, rfl, rfl, rfl, rfl, rfl, rfl, rfl, rfl, rfl, rfl, trivial⟩, hS⟩
                  · replace hq138 := iteF hg148 hq138
                    refine WL.no hE (runs_not hE rfl rfl rfl (by rw [hg148]; decide)) rfl ?_; clear hE a; intro a hE
                    refine WL.no hE (runs_not hE rfl rfl rfl (by rw [hg148]; decide)) rfl ?_; clear hE a; intro a hE
                    refine WL.no hE (runs_not hE rfl rfl rfl (by rw [hg148]; decide)) rfl ?_; clear hE a; intro a hE
                    refine WL.no hE (runs_not hE rfl rfl rfl (by rw [hg148]; decide)) rfl ?_; clear hE a; intro a hE
                    refine WL.vS hS hE (runs_if hE rfl rfl rfl hg147) (Gives.pickF hE rfl hg148 rfl) rfl ?_; clear hE a; intro a hE
                    refine WL.vS hS hE (runs_if hE rfl rfl rfl hg146) (Gives.pickF hE rfl hg147 rfl) rfl ?_; clear hE a; intro a hE
                    refine WL.vS hS hE (runs_if hE rfl rfl rfl hg145) (Gives.pickT hE rfl hg146 rfl) rfl ?_; clear hE a; intro a hE
                    refine WL.vS hS hE (runs_plain rfl) (Gives.pickF hE rfl hg145 rfl) rfl ?_; clear hE a; intro a hE
                    refine WL.nil ?_
                    subst hK143
                    exact ⟨false, Option.some.inj hq138, hE.pick _ ⟨rfl, rfl, rfl, rfl, rfl, rfl, rfl, rfl, rfl, rfl, rfl, trivial⟩, hS⟩
              · replace hq138 := iteF hg146 hq138
                refine WL.no hE (runs_not hE rfl rfl rfl (by rw [hg146]; decide)) rfl ?_; clear hE a; intro a hE
                refine WL.no hE (runs_not hE rfl rfl rfl (by rw [hg146]; decide)) rfl ?_; clear hE a; intro a hE
                refine WL.no hE (runs_not hE rfl rfl rfl (by rw [hg146]; decide)) rfl ?_; clear hE a; intro a hE
                refine WL.no hE (runs_not hE rfl rfl rfl (by rw [hg146]; decide)) rfl ?_; clear hE a; intro a hE
                refine WL.no hE (runs_not hE rfl rfl rfl (by rw [hg146]; decide)) rfl ?_; clear hE a; intro a hE
                refine WL.no hE (runs_not hE rfl rfl rfl (by rw [hg146]; decide)) rfl ?_; clear hE a; intro a hE
                refine WL.no hE (runs_undef hE rfl rfl rfl) rfl ?_; clear hE a; intro a hE
                refine WL.no hE (runs_undef hE rfl rfl rfl) rfl ?_; clear hE a; intro a hE
                refine WL.no hE (runs_undef hE rfl rfl rfl) rfl ?_; clear hE a; intro a hE
                refine WL.no hE (runs_undef hE rfl rfl rfl) rfl ?_; clear hE a; intro a hE
                refine WL.no hE (runs_undef hE rfl rfl rfl) rfl ?_; clear hE a; intro a hE
                refine WL.no hE (runs_undef hE rfl rfl rfl) rfl ?_; clear hE a; intro a hE
                refine WL.no hE (runs_undef hE rfl rfl rfl) rfl ?_; clear hE a; intro a hE
                refine WL.no hE (runs_undef hE rfl rfl rfl) rfl ?_; clear hE a; intro a hE
                refine WL.no hE (runs_undef hE rfl rfl rfl) rfl ?_; clear hE a; intro a hE
                refine WL.no hE (runs_undef hE rfl rfl rfl) rfl ?_; clear hE a; intro a hE
                refine WL.no hE (runs_undef hE rfl rfl rfl) rfl ?_; clear hE a; intro a hE
                refine WL.no hE (runs_not hE rfl rfl rfl (by rw [hg146]; decide)) rfl ?_; clear hE a; intro a hE
                refine WL.vS hS hE (runs_if hE rfl rfl rfl hg145) (Gives.pickF hE rfl hg146 rfl) rfl ?_; clear hE a; intro a hE
                refine WL.vS hS hE (runs_plain rfl) (Gives.pickF hE rfl hg145 rfl) rfl ?_; clear hE a; intro a hE
                refine WL.nil ?_
                subst hK143
                exact ⟨false, Option.some.inj hq138, hE.pick _ ⟨rfl, rfl, rfl, rfl, rfl, rfl, rfl, rfl, rfl, rfl, rfl, trivial⟩, hS⟩
        · clear hE hS a w; rintro a w ⟨q142, rfl, hE, hS⟩
          obtain ⟨q156, hq155, hq64⟩ := bndS hq64
          refine W.cut (fun a w => ∃ (q159 : List FareBuy), ∃ (q163 : Int), ∃ (a160 : Option Addr), ∃ (c161 : Nat), ∃ (s157 : Sg), s68.Le s157 ∧ (q159, q163) = q156 ∧ Sl 2 RFareBuy s157 a160 c161 q159 ∧ Rep a 87 [(1, .slice a1 x1.length c1), (2, .slice a2 x2.length c2), (3, .pointer (some ⟨b51, 0, none⟩)), (8, .slice a160 q159.length c161), (9, .int .i64 q163), (10, .int .i64 (w64 (7 * ((x2).length : Int)))), (19, .int .i64 (IntKind.wrap .i64 (1 * (2 ^ (min (Int.toNat (w64 (7 * ((x2).length : Int)))) (IntKind.bits .i64)))))), (20, .int .i64 q75)] ∧ St w s157 (pt b51 (.cells #[.bool x0.ByKm, .slice a0_0 x0.Bands.length c0_0, .int .i64 x0.Round, .slice a0_1 x0.Rules.length c0_1] 25 (0, 0)) :: R)) ?_ ?_
          · refine W.gen fun K164 hK164 => ?_
            refine W.cond hE rfl (fun hc165 => ?_) (fun hc165 => ?_)
            · replace hq155 := iteT hc165 hq155
              refine W.region ?_
              refine WL.vS hS hE (runs_plain rfl) (Gives.p hE rfl) rfl ?_; clear hE a; intro a hE
              refine WL.vS hS hE (runs_plain rfl) (Gives.p hE rfl) rfl ?_; clear hE a; intro a hE
              refine WL.vS hS hE (runs_plain rfl) (Gives.p hE rfl) rfl ?_; clear hE a; intro a hE
              refine WL.vS hS hE (runs_plain rfl) (Gives.p hE rfl) rfl ?_; clear hE a; intro a hE
              refine WL.nil ?_
              have hF := hS.fixD RFareBuy.mono 0 rfl h99 rfl; clear hS; obtain ⟨s166, hle167, hS, h168⟩ := hF
              replace h1 := Sl.mono RFareTrip.mono hle167 h1
              replace h2 := Sl.mono RFarePass.mono hle167 h2
              replace h0_0 := Sl.mono RFareBand.mono hle167 h0_0
              replace h0_1 := Sl.mono RFareRule.mono hle167 h0_1
              subst hK164
              exact ⟨q96, q132, a97, c98, s166, hle167, hq155, h168, hE.pick _ ⟨rfl, rfl, rfl, rfl, rfl, rfl, rfl, rfl, trivial⟩, hS⟩
            · replace hq155 := iteF hc165 hq155
              refine W.skip ?_
              replace hS := hS.tail
              subst hK164
              exact ⟨q70, q74, a71, c72, s68, (Sg.Le.refl _), hq155, h73, hE.pick _ ⟨rfl, rfl, rfl, rfl, rfl, rfl, rfl, rfl, trivial⟩, hS⟩
          · clear hE hS a w; rintro a w ⟨q159, q163, a160, c161, s157, hle158, rfl, h162, hE, hS⟩
            dsimp only at hq64
            replace h1 := Sl.mono RFareTrip.mono hle158 h1
            replace h2 := Sl.mono RFarePass.mono hle158 h2
            replace h73 := Sl.mono RFareBuy.mono hle158 h73
            replace h0_0 := Sl.mono RFareBand.mono hle158 h0_0
            replace h0_1 := Sl.mono RFareRule.mono hle158 h0_1
            refine W.region ?_
            refine WL.vS hS hE (runs_plain rfl) (Gives.p hE rfl) rfl ?_; clear hE a; intro a hE
            refine WL.vS hS hE (runs_plain rfl) (Gives.p hE rfl) rfl ?_; clear hE a; intro a hE
            refine WL.nil ?_
            subst hK76
            exact ⟨n66, Nat.lt_succ_self _, n66, q159, q163, (w64 (q75 + 1)), a160, c161, s157, rfl, (Sg.Le.trans hle69 hle158), hq64, h162, hE.pick _ ⟨rfl, rfl, rfl, rfl, rfl, rfl, rfl, rfl, trivial⟩, hS⟩
    · replace hq64 := iteF hc77 hq64
      subst hK76
      refine W.exit rfl ?_
      exact ⟨q70, q74, q75, a71, c72, s68, hle69, Option.some.inj hq64, h73, hE.pick _ ⟨rfl, rfl, trivial⟩, hS⟩
  · clear hE hS a w; rintro a w ⟨q70, q74, q75, a71, c72, s68, hle69, rfl, h73, hE, hS⟩
    dsimp only at hr
    replace h0_0 := Sl.mono RFareBand.mono hle69 h0_0
    replace h0_1 := Sl.mono RFareRule.mono hle69 h0_1
    replace h1 := Sl.mono RFareTrip.mono hle69 h1
    replace h2 := Sl.mono RFarePass.mono hle69 h2
    refine W.seq ?_
    refine W.region ?_
    refine WL.vS hS hE (runs_plain rfl) (Gives.p hE rfl) rfl ?_; clear hE a; intro a hE
    refine WL.vS hS hE (runs_plain rfl) (Gives.p hE rfl) rfl ?_; clear hE a; intro a hE
    refine WL.vS hS hE (runs_plain rfl) (Gives.p hE rfl) rfl ?_; clear hE a; intro a hE
    refine WL.vS hS hE (runs_plain rfl) (Gives.p hE rfl) rfl ?_; clear hE a; intro a hE
    refine WL.nil ?_
    refine W.ret ?_
    refine finG (fn := Try.f13) (rs := [.tmp 6, .tmp 7]) (vs := [_, _]) hE rfl ⟨rfl, rfl, trivial⟩ ?_
    obtain rfl := Option.some.inj hr
    replace hS := hS.tail
    exact ⟨a71, c72, s68, rfl, hle69, h73, hS⟩
set_option maxHeartbeats 8000000 in
theorem SlicesEqualLfareBuy_ok  {w : World} {s : Sg} {R : List HP} {x0 : List FareBuy} {a0 : Option Addr} {c0 : Nat} {x1 : List FareBuy} {a1 : Option Addr} {c1 : Nat} (hS : St w s (R)) (h0 : Sl 2 RFareBuy s a0 c0 x0) (h1 : Sl 2 RFareBuy s a1 c1 x1) {r : Bool} (hr : SlicesEqualLfareBuy x0 x1 = some r) :
    Calls Try.prog 14 [.slice a0 x0.length c0, .slice a1 x1.length c1].toArray w (fun e w => e = .returned (.bool r) ∧ St w s (R)) := by
  refine enter Try.func14 rfl rfl rfl fun a hE => ?_
  rw [SlicesEqualLfareBuy] at hr
  refine W.seq ?_
  refine W.region ?_
  refine WL.vS hS hE (runs_plain rfl) (Gives.p hE rfl) rfl ?_; clear hE a; intro a hE
  refine WL.nil ?_
  refine W.seq ?_
  refine W.seq ?_
  refine W.region ?_
  refine WL.vS hS hE (runs_plain rfl) (Gives.p hE rfl) rfl ?_; clear hE a; intro a hE
  refine WL.vS hS hE (runs_plain rfl) (Gives.len hE rfl sl28) rfl ?_; clear hE a; intro a hE
  refine WL.vS hS hE (runs_plain rfl) (Gives.p hE rfl) rfl ?_; clear hE a; intro a hE
  refine WL.vS hS hE (runs_plain rfl) (Gives.len hE rfl sl28) rfl ?_; clear hE a; intro a hE
  refine WL.vS hS hE (runs_plain rfl) (Gives.p hE rfl) rfl ?_; clear hE a; intro a hE
  refine WL.nil ?_
  refine W.cond hE rfl (fun hc51 => ?_) (fun hc51 => ?_)
  · replace hr := iteT hc51 hr
    refine W.seq ?_
    refine W.region ?_
    refine WL.vS hS hE (runs_plain rfl) (Gives.p hE rfl) rfl ?_; clear hE a; intro a hE
    refine WL.nil ?_
    refine W.ret ?_
    refine finG (fn := Try.f14) (rs := [.tmp 4]) (vs := [_]) hE rfl ⟨rfl, trivial⟩ ?_
    obtain rfl := Option.some.inj hr
    exact ⟨rfl, hS⟩
  · replace hr := iteF hc51 hr
    refine W.skip ?_
    refine W.seq ?_
    refine W.seq ?_
    refine W.region ?_
    refine WL.vS hS hE (runs_plain rfl) (Gives.p hE rfl) rfl ?_; clear hE a; intro a hE
    refine WL.vS hS hE (runs_plain rfl) (Gives.len hE rfl sl28) rfl ?_; clear hE a; intro a hE
    refine WL.vS hS hE (runs_plain rfl) (Gives.p hE rfl) rfl ?_; clear hE a; intro a hE
    refine WL.nil ?_
    obtain ⟨q53, hq52, hr⟩ := bindS hr
    refine W.cut (fun a w => (.next ()) = q53 ∧ Rep a 26 [] ∧ St w s (R)) ?_ ?_
    · refine W.block ?_
      refine W.loop (fun m a w => ∃ (rest56 : List FareBuy) (k54 : Nat), rest56.length = m ∧ x0.drop k54 = rest56 ∧ SlicesEqualLfareBuy.loop1 x1 rest56 k54 = some q53 ∧ Rep a 26 [(0, .slice a0 x0.length c0), (1, .slice a1 x1.length c1), (12, .int .i64 ((x0).length : Int)), (13, .int .i64 ((k54 : Nat) : Int))] ∧ St w s (R)) (m := x0.length) ⟨x0, 0, rfl, rfl, hq52, hE.pick _ ⟨rfl, rfl, rfl, rfl, trivial⟩, hS⟩ ?_
      clear hE hS a w hq52; rintro m60 a w ⟨rest56, k54, rfl, hd57, hq52, hE, hS⟩
      refine W.gen fun K63 hK63 => ?_
      rcases rest56 with _ | ⟨x55, rest56⟩
      · have hlt58 := drop_nil hd57
        refine W.seq ?_
        refine W.region ?_
        refine WL.vS hS hE (runs_plain rfl) (Gives.p hE rfl) rfl ?_; clear hE a; intro a hE
        refine WL.nil ?_
        refine W.seq ?_
        refine W.condF hE rfl (decide_eq_false (by omega)) ?_
        subst hK63
        refine W.exit rfl ?_
        exact ⟨Option.some.inj hq52, hE.pick _ trivial, hS⟩
      · obtain ⟨hlt58, hx59, hd57⟩ := drop_cons hd57
        rw [SlicesEqualLfareBuy.loop1] at hq52
        refine W.seq ?_
        refine W.region ?_
        refine WL.vS hS hE (runs_plain rfl) (Gives.p hE rfl) rfl ?_; clear hE a; intro a hE
        refine WL.nil ?_
        refine W.seq ?_
        refine W.condT hE rfl (decide_eq_true (by omega)) ?_
        refine W.skip ?_
        refine W.seq ?_
        refine W.block ?_
        refine W.seq ?_
        refine W.region ?_
        refine WL.vS hS hE (runs_plain rfl) (Gives.p hE rfl) rfl ?_; clear hE a; intro a hE
        refine WL.vS hS hE (runs_plain rfl) (Gives.p hE rfl) rfl ?_; clear hE a; intro a hE
        refine WL.nil ?_
        refine W.seq ?_
        refine W.regionQ (C := fun w => St w s (R)) mixed (by kernel_rfl) hS.drew ?_
        refine QL.v hE (runs_plain rfl) (Gives.p hE rfl) rfl ?_; clear hE a; intro a hE
        refine QL.v hE (runs_plain rfl) (Gives.p hE rfl) rfl ?_; clear hE a; intro a hE
        obtain ⟨cs64, hl65, hR66, hat67⟩ := h0.at hx59
        subst hR66
        refine QL.v hE (runs_plain rfl) (Gives.idx hE k54 rfl rfl sl28 rfl hlt58 (h0.aok hlt58)) rfl ?_; clear hE a; intro a hE
        refine QL.v hE (runs_plain rfl) (Gives.loadA hE rfl (fun w h => hat67 w _ h) ty38) rfl ?_; clear hE a; intro a hE
        refine QL.v hE (runs_plain rfl) (Gives.p hE rfl) rfl ?_; clear hE a; intro a hE
        refine QL.v hE (runs_plain rfl) (Gives.p hE rfl) rfl ?_; clear hE a; intro a hE
        obtain ⟨x68, hx69, hq52⟩ := bindS hq52
        obtain ⟨hi70, hlt71, hy72⟩ := gx_some hx69
        obtain ⟨cs73, hl74, hR75, hat76⟩ := h1.at hy72
        subst hR75
        refine QL.v hE (runs_plain rfl) (Gives.idx hE (((k54 : Nat) : Int)).toNat rfl rfl sl28 hi70 hlt71 (h1.aok hlt71)) rfl ?_; clear hE a; intro a hE
        refine QL.v hE (runs_plain rfl) (Gives.loadA hE rfl (fun w h => hat76 w _ h) ty38) rfl ?_; clear hE a; intro a hE
        refine QL.v hE (runs_plain rfl) (show Gives _ _ _ _ (Value.bool (!((x55.Day == x68.Day) && (x55.Pass == x68.Pass)))) from Gives.neS hE [.i .i64, .i .i64] [.i .i64 x55.Day, .i .i64 x55.Pass] [.i .i64 x68.Day, .i .i64 x68.Pass] rfl rfl se38 rfl rfl rfl rfl) rfl ?_; clear hE a; intro a hE
        refine QL.nil ?_; clear hS w; intro w hS
        refine W.cond hE rfl (fun hc77 => ?_) (fun hc77 => ?_)
        · replace hq52 := iteT hc77 hq52
          refine W.seq ?_
          refine W.region ?_
          refine WL.vS hS hE (runs_plain rfl) (Gives.p hE rfl) rfl ?_; clear hE a; intro a hE
          refine WL.nil ?_
          refine W.ret ?_
          subst hK63
          rw [← Option.some.inj hq52] at hr
          dsimp only at hr
          refine finG (fn := Try.f14) (rs := [.tmp 4]) (vs := [_]) hE rfl ⟨rfl, trivial⟩ ?_
          obtain rfl := Option.some.inj hr
          exact ⟨rfl, hS⟩
        · replace hq52 := iteF hc77 hq52
          refine W.skip ?_
          refine W.region ?_
          refine WL.vS hS hE (runs_plain rfl) (Gives.inc hE rfl (by have := h0.small; omega)) rfl ?_; clear hE a; intro a hE
          refine WL.vS hS hE (runs_plain rfl) (Gives.p hE rfl) rfl ?_; clear hE a; intro a hE
          refine WL.nil ?_
          subst hK63
          exact ⟨rest56.length, Nat.lt_succ_self _, rest56, k54 + 1, rfl, hd57, hq52, hE.pick _ ⟨rfl, rfl, rfl, rfl, trivial⟩, hS⟩
    · clear hE hS a w; rintro a w ⟨rfl, hE, hS⟩
      dsimp only at hr
      refine W.seq ?_
      refine W.region ?_
      refine WL.vS hS hE (runs_plain rfl) (Gives.p hE rfl) rfl ?_; clear hE a; intro a hE
      refine WL.nil ?_
      refine W.ret ?_
      refine finG (fn := Try.f14) (rs := [.tmp 4]) (vs := [_]) hE rfl ⟨rfl, trivial⟩ ?_
      obtain rfl := Option.some.inj hr
      exact ⟨rfl, hS⟩
set_option maxHeartbeats 8000000 in
theorem Fishlaw2FareCheapest_ok {fu : Nat}  {w : World} {s : Sg} {R : List HP} {x0 : FareTariff} {a0_0 : Option Addr} {c0_0 : Nat} {a0_1 : Option Addr} {c0_1 : Nat} {x1 : List FareTrip} {a1 : Option Addr} {c1 : Nat} {x2 : List FarePass} {a2 : Option Addr} {c2 : Nat} (hS : St w s (R)) (h0_0 : Sl 2 RFareBand s a0_0 c0_0 x0.Bands) (h0_1 : Sl 7 RFareRule s a0_1 c0_1 x0.Rules) (h1 : Sl 6 RFareTrip s a1 c1 x1) (h2 : Sl 3 RFarePass s a2 c2 x2) {r : Bool} (hr : Fishlaw2FareCheapest fu x0 x1 x2 = some r) :
    Calls Try.prog 3 [.agg [.bool x0.ByKm, .slice a0_0 x0.Bands.length c0_0, .int .i64 x0.Round, .slice a0_1 x0.Rules.length c0_1].toArray, .slice a1 x1.length c1, .slice a2 x2.length c2].toArray w (fun e w => e = .returned (.bool r) ∧ St w s (R)) := by
  refine enter Try.func3 rfl rfl rfl fun a hE => ?_
  rw [Fishlaw2FareCheapest] at hr
  refine W.seq ?_
  refine W.region ?_
  refine WL.box hE hS (runs_plain rfl) rfl rfl rfl ?_; clear hE hS a w; intro b51 a w hE hS
  refine WL.vS hS hE (runs_plain rfl) (Gives.p hE rfl) rfl ?_; clear hE a; intro a hE
  refine WL.nil ?_
  refine W.seq ?_
  refine W.region ?_
  refine WL.vS hS hE (runs_plain rfl) (Gives.loadBA hE 0 rfl rfl ty25) rfl ?_; clear hE a; intro a hE
  refine WL.vS hS hE (runs_plain rfl) (Gives.p hE rfl) rfl ?_; clear hE a; intro a hE
  refine WL.vS hS hE (runs_plain rfl) (Gives.p hE rfl) rfl ?_; clear hE a; intro a hE
  obtain ⟨q52, hq53, hr⟩ := bindS hr
  have hc_ := FareCheapest_ok hS h0_0 h0_1 h1 h2 hq53
  refine WL.fnq hE (hc_) (runs_plain rfl) bd10 rfl rfl rfl ?_
  clear hE hS hc_; rintro e w ⟨a54, c55, s57, rfl, hle58, h56, hS⟩; refine ⟨_, rfl, ?_⟩; clear a; intro a hE
  replace h0_0 := Sl.mono RFareBand.mono hle58 h0_0
  replace h0_1 := Sl.mono RFareRule.mono hle58 h0_1
  replace h1 := Sl.mono RFareTrip.mono hle58 h1
  replace h2 := Sl.mono RFarePass.mono hle58 h2
  refine WL.vS hS hE (runs_plain rfl) (Gives.p hE rfl) rfl ?_; clear hE a; intro a hE
  refine WL.vS hS hE (runs_plain rfl) (Gives.p hE rfl) rfl ?_; clear hE a; intro a hE
  refine WL.vS hS hE (runs_plain rfl) (Gives.p hE rfl) rfl ?_; clear hE a; intro a hE
  refine WL.vS hS hE (runs_plain rfl) (Gives.p hE rfl) rfl ?_; clear hE a; intro a hE
  refine WL.vS hS hE (runs_plain rfl) (Gives.p hE rfl) rfl ?_; clear hE a; intro a hE
  refine WL.vS hS hE (runs_plain rfl) (Gives.p hE rfl) rfl ?_; clear hE a; intro a hE
  refine WL.vS hS hE (runs_plain rfl) (Gives.p hE rfl) rfl ?_; clear hE a; intro a hE
  refine WL.nil ?_
  refine W.seq ?_
  refine W.seq ?_
  refine W.region ?_
  refine WL.vS hS hE (runs_plain rfl) (Gives.loadBA hE 0 rfl rfl ty25) rfl ?_; clear hE a; intro a hE
  refine WL.vS hS hE (runs_plain rfl) (Gives.p hE rfl) rfl ?_; clear hE a; intro a hE
  refine WL.vS hS hE (runs_plain rfl) (Gives.p hE rfl) rfl ?_; clear hE a; intro a hE
  obtain ⟨q59, hq60, hr⟩ := bindS hr
  have hc_ := Fishref2CheapestFault_ok hS h0_0 h0_1 h1 h2 hq60
  refine WL.fnq hE (hc_) (runs_plain rfl) bd11 rfl rfl rfl ?_
  clear hE hS hc_; rintro e w ⟨rfl, hS⟩; refine ⟨_, rfl, ?_⟩; clear a; intro a hE
  refine WL.vS hS hE (runs_plain rfl) (Gives.p hE rfl) rfl ?_; clear hE a; intro a hE
  refine WL.nil ?_
  refine W.seq ?_
  refine W.region ?_
  refine WL.vS hS hE (runs_plain rfl) (Gives.p hE rfl) rfl ?_; clear hE a; intro a hE
  refine WL.vS hS hE (runs_plain rfl) (Gives.p hE rfl) rfl ?_; clear hE a; intro a hE
  refine WL.nil ?_
  refine W.cond hE rfl (fun hc61 => ?_) (fun hc61 => ?_)
  · replace hr := iteT hc61 hr
    refine W.seq ?_
    obtain ⟨q63, hq62, hr⟩ := bindS hr
    refine W.cut (fun a w => ∃ (q66 : Bool), q66 = q63 ∧ Rep a 64 [(6, .bool q66)] ∧ St w s57 (pt b51 (.cells #[.bool x0.ByKm, .slice a0_0 x0.Bands.length c0_0, .int .i64 x0.Round, .slice a0_1 x0.Rules.length c0_1] 25 (0, 0)) :: R)) ?_ ?_
    · refine W.gen fun K67 hK67 => ?_
      refine W.region ?_
      obtain ⟨q68, hq69, hq62⟩ := bindS hq62
      have hc_ := Fishlaw2fares_ok hS  hq69
      refine WL.fnq hE (hc_) (runs_plain rfl) bd12 rfl rfl rfl ?_
      clear hE hS hc_; rintro e w ⟨rfl, hS⟩; refine ⟨_, rfl, ?_⟩; clear a; intro a hE
      refine WL.vS hS hE (runs_plain rfl) (Gives.p hE rfl) rfl ?_; clear hE a; intro a hE
      rcases Bool.eq_false_or_eq_true q68 with hg70 | hg70
      · replace hq62 := iteT hg70 hq62
        refine WL.vS hS hE (runs_if hE rfl rfl rfl hg70) (Gives.p hE rfl) rfl ?_; clear hE a; intro a hE
        refine WL.vS hS hE (runs_if hE rfl rfl rfl hg70) (Gives.p hE rfl) rfl ?_; clear hE a; intro a hE
        refine WL.vS hS hE (runs_if hE rfl rfl rfl hg70) (Gives.p hE rfl) rfl ?_; clear hE a; intro a hE
        refine WL.vS hS hE (runs_plain rfl) (Gives.pickT hE rfl hg70 rfl) rfl ?_; clear hE a; intro a hE
        refine WL.vS hS hE (runs_plain rfl) (Gives.p hE rfl) rfl ?_; clear hE a; intro a hE
        rcases Bool.eq_false_or_eq_true (q52.2.2 == q59) with hg71 | hg71
        · replace hq62 := iteT hg71 hq62
          refine WL.vS hS hE (runs_if hE rfl rfl rfl hg71) (Gives.p hE rfl) rfl ?_; clear hE a; intro a hE
          refine WL.vS hS hE (runs_if hE rfl rfl rfl hg71) (Gives.p hE rfl) rfl ?_; clear hE a; intro a hE
          refine WL.vS hS hE (runs_plain rfl) (Gives.pickT hE rfl hg71 rfl) rfl ?_; clear hE a; intro a hE
          refine WL.vS hS hE (runs_plain rfl) (Gives.p hE rfl) rfl ?_; clear hE a; intro a hE
          rcases Bool.eq_false_or_eq_true (q52.1 == 0) with hg72 | hg72
          · replace hq62 := iteT hg72 hq62
            refine WL.vS hS hE (runs_if hE rfl rfl rfl hg72) (Gives.p hE rfl) rfl ?_; clear hE a; intro a hE
            refine WL.vS hS hE (runs_if hE rfl rfl rfl hg72) (Gives.len hE rfl sl28) rfl ?_; clear hE a; intro a hE
            refine WL.vS hS hE (runs_if hE rfl rfl rfl hg72) (Gives.p hE rfl) rfl ?_; clear hE a; intro a hE
            refine WL.vS hS hE (runs_plain rfl) (Gives.pickT hE rfl hg72 rfl) rfl ?_; clear hE a; intro a hE
            refine WL.vS hS hE (runs_plain rfl) (Gives.p hE rfl) rfl ?_; clear hE a; intro a hE
            refine WL.nil ?_
            subst hK67
            exact ⟨(((q52.2.1).length : Int) == 0), Option.some.inj hq62, hE.pick _ ⟨rfl, trivial⟩, hS⟩
          · replace hq62 := iteF hg72 hq62
            refine WL.no hE (runs_not hE rfl rfl rfl (by rw [hg72]; decide)) rfl ?_; clear hE a; intro a hE
            refine WL.no hE (runs_not hE rfl rfl rfl (by rw [hg72]; decide)) rfl ?_; clear hE a; intro a hE
            refine WL.no hE (runs_not hE rfl rfl rfl (by rw [hg72]; decide)) rfl ?_; clear hE a; intro a hE
            refine WL.vS hS hE (runs_plain rfl) (Gives.pickF hE rfl hg72 rfl) rfl ?_; clear hE a; intro a hE
            refine WL.vS hS hE (runs_plain rfl) (Gives.p hE rfl) rfl ?_; clear hE a; intro a hE
            refine WL.nil ?_
            subst hK67
            exact ⟨false, Option.some.inj hq62, hE.pick _ ⟨rfl, trivial⟩, hS⟩
        · replace hq62 := iteF hg71 hq62
          refine WL.no hE (runs_not hE rfl rfl rfl (by rw [hg71]; decide)) rfl ?_; clear hE a; intro a hE
          refine WL.no hE (runs_not hE rfl rfl rfl (by rw [hg71]; decide)) rfl ?_; clear hE a; intro a hE
          refine WL.vS hS hE (runs_plain rfl) (Gives.pickF hE rfl hg71 rfl) rfl ?_; clear hE a; intro a hE
          refine WL.vS hS hE (runs_plain rfl) (Gives.p hE rfl) rfl ?_; clear hE a; intro a hE
          refine WL.no hE (runs_not hE rfl rfl rfl (by decide)) rfl ?_; clear hE a; intro a hE
          refine WL.no hE (runs_not hE rfl rfl rfl (by decide)) rfl ?_; clear hE a; intro a hE
          refine WL.no hE (runs_not hE rfl rfl rfl (by decide)) rfl ?_; clear hE a; intro a hE
          refine WL.vS hS hE (runs_plain rfl) (Gives.pickF hE rfl rfl rfl) rfl ?_; clear hE a; intro a hE
          refine WL.vS hS hE (runs_plain rfl) (Gives.p hE rfl) rfl ?_; clear hE a; intro a hE
          refine WL.nil ?_
          subst hK67
          exact ⟨false, Option.some.inj hq62, hE.pick _ ⟨rfl, trivial⟩, hS⟩
      · replace hq62 := iteF hg70 hq62
        refine WL.no hE (runs_not hE rfl rfl rfl (by rw [hg70]; decide)) rfl ?_; clear hE a; intro a hE
        refine WL.no hE (runs_not hE rfl rfl rfl (by rw [hg70]; decide)) rfl ?_; clear hE a; intro a hE
        refine WL.no hE (runs_not hE rfl rfl rfl (by rw [hg70]; decide)) rfl ?_; clear hE a; intro a hE
        refine WL.vS hS hE (runs_plain rfl) (Gives.pickF hE rfl hg70 rfl) rfl ?_; clear hE a; intro a hE
        refine WL.vS hS hE (runs_plain rfl) (Gives.p hE rfl) rfl ?_; clear hE a; intro a hE
        refine WL.no hE (runs_not hE rfl rfl rfl (by decide)) rfl ?_; clear hE a; intro a hE
        refine WL.no hE (runs_not hE rfl rfl rfl (by decide)) rfl ?_; clear hE a; intro a hE
        refine WL.vS hS hE (runs_plain rfl) (Gives.pickF hE rfl rfl rfl) rfl ?_; clear hE a; intro a hE
        refine WL.vS hS hE (runs_plain rfl) (Gives.p hE rfl) rfl ?_; clear hE a; intro a hE
        refine WL.no hE (runs_not hE rfl rfl rfl (by decide)) rfl ?_; clear hE a; intro a hE
        refine WL.no hE (runs_not hE rfl rfl rfl (by decide)) rfl ?_; clear hE a; intro a hE
        refine WL.no hE (runs_not hE rfl rfl rfl (by decide)) rfl ?_; clear hE a; intro a hE
        refine WL.vS hS hE (runs_plain rfl) (Gives.pickF hE rfl rfl rfl) rfl ?_; clear hE a; intro a hE
        refine WL.vS hS hE (runs_plain rfl) (Gives.p hE rfl) rfl ?_; clear hE a; intro a hE
        refine WL.nil ?_
        subst hK67
        exact ⟨false, Option.some.inj hq62, hE.pick _ ⟨rfl, trivial⟩, hS⟩
    · clear hE hS a w; rintro a w ⟨q66, rfl, hE, hS⟩
      refine W.ret ?_
      refine finG (fn := Try.f3) (rs := [.tmp 6]) (vs := [_]) hE rfl ⟨rfl, trivial⟩ ?_
      obtain rfl := Option.some.inj hr
      replace hS := hS.tail
      exact ⟨rfl, (hS.down hle58)⟩
  · replace hr := iteF hc61 hr
    refine W.skip ?_
    refine W.seq ?_
    refine W.region ?_
    refine WL.vS hS hE (runs_plain rfl) (Gives.loadBA hE 0 rfl rfl ty25) rfl ?_; clear hE a; intro a hE
    refine WL.vS hS hE (runs_plain rfl) (Gives.p hE rfl) rfl ?_; clear hE a; intro a hE
    refine WL.vS hS hE (runs_plain rfl) (Gives.p hE rfl) rfl ?_; clear hE a; intro a hE
    obtain ⟨q73, hq74, hr⟩ := bindS hr
    have hc_ := Fishref2CheapestOf_ok hS h0_0 h0_1 h1 h2 hq74
    refine WL.fnq hE (hc_) (runs_plain rfl) bd13 rfl rfl rfl ?_
    clear hE hS hc_; rintro e w ⟨a75, c76, s78, rfl, hle79, h77, hS⟩; refine ⟨_, rfl, ?_⟩; clear a; intro a hE
    replace h0_0 := Sl.mono RFareBand.mono hle79 h0_0
    replace h0_1 := Sl.mono RFareRule.mono hle79 h0_1
    replace h1 := Sl.mono RFareTrip.mono hle79 h1
    replace h2 := Sl.mono RFarePass.mono hle79 h2
    replace h56 := Sl.mono RFareBuy.mono hle79 h56
    refine WL.vS hS hE (runs_plain rfl) (Gives.p hE rfl) rfl ?_; clear hE a; intro a hE
    refine WL.vS hS hE (runs_plain rfl) (Gives.p hE rfl) rfl ?_; clear hE a; intro a hE
    refine WL.vS hS hE (runs_plain rfl) (Gives.p hE rfl) rfl ?_; clear hE a; intro a hE
    refine WL.vS hS hE (runs_plain rfl) (Gives.p hE rfl) rfl ?_; clear hE a; intro a hE
    refine WL.vS hS hE (runs_plain rfl) (Gives.p hE rfl) rfl ?_; clear hE a; intro a hE
    refine WL.nil ?_
    refine W.seq ?_
    obtain ⟨q81, hq80, hr⟩ := bindS hr
    refine W.cut (fun a w => ∃ (q84 : Bool), q84 = q81 ∧ Rep a 64 [(6, .bool q84)] ∧ St w s78 (pt b51 (.cells #[.bool x0.ByKm, .slice a0_0 x0.Bands.length c0_0, .int .i64 x0.Round, .slice a0_1 x0.Rules.length c0_1] 25 (0, 0)) :: R)) ?_ ?_
    · refine W.gen fun K85 hK85 => ?_
      refine W.region ?_
      obtain ⟨q86, hq87, hq80⟩ := bindS hq80
      have hc_ := Fishlaw2fares_ok hS  hq87
      refine WL.fnq hE (hc_) (runs_plain rfl) bd12 rfl rfl rfl ?_
      clear hE hS hc_; rintro e w ⟨rfl, hS⟩; refine ⟨_, rfl, ?_⟩; clear a; intro a hE
      refine WL.vS hS hE (runs_plain rfl) (Gives.p hE rfl) rfl ?_; clear hE a; intro a hE
      rcases Bool.eq_false_or_eq_true q86 with hg88 | hg88
      · replace hq80 := iteT hg88 hq80
        refine WL.vS hS hE (runs_if hE rfl rfl rfl hg88) (Gives.p hE rfl) rfl ?_; clear hE a; intro a hE
        refine WL.vS hS hE (runs_if hE rfl rfl rfl hg88) (Gives.p hE rfl) rfl ?_; clear hE a; intro a hE
        refine WL.vS hS hE (runs_plain rfl) (Gives.pickT hE rfl hg88 rfl) rfl ?_; clear hE a; intro a hE
        refine WL.vS hS hE (runs_plain rfl) (Gives.p hE rfl) rfl ?_; clear hE a; intro a hE
        rcases Bool.eq_false_or_eq_true (q52.2.2 == 0) with hg89 | hg89
        · replace hq80 := iteT hg89 hq80
          refine WL.vS hS hE (runs_if hE rfl rfl rfl hg89) (Gives.p hE rfl) rfl ?_; clear hE a; intro a hE
          refine WL.vS hS hE (runs_if hE rfl rfl rfl hg89) (Gives.p hE rfl) rfl ?_; clear hE a; intro a hE
          refine WL.vS hS hE (runs_if hE rfl rfl rfl hg89) (Gives.p hE rfl) rfl ?_; clear hE a; intro a hE
          refine WL.vS hS hE (runs_plain rfl) (Gives.pickT hE rfl hg89 rfl) rfl ?_; clear hE a; intro a hE
          refine WL.vS hS hE (runs_plain rfl) (Gives.p hE rfl) rfl ?_; clear hE a; intro a hE
          rcases Bool.eq_false_or_eq_true (q52.1 == q73.1) with hg90 | hg90
          · replace hq80 := iteT hg90 hq80
            refine WL.vS hS hE (runs_if hE rfl rfl rfl hg90) (Gives.p hE rfl) rfl ?_; clear hE a; intro a hE
            refine WL.vS hS hE (runs_if hE rfl rfl rfl hg90) (Gives.p hE rfl) rfl ?_; clear hE a; intro a hE
            obtain ⟨q91, hq92, hq80⟩ := bindS hq80
            have hc_ := SlicesEqualLfareBuy_ok hS h56 h77 hq92
            refine WL.fnq hE (hc_) (runs_if hE rfl rfl rfl hg90) bd14 rfl rfl rfl ?_
            clear hE hS hc_; rintro e w ⟨rfl, hS⟩; refine ⟨_, rfl, ?_⟩; clear a; intro a hE
            refine WL.vS hS hE (runs_plain rfl) (Gives.pickT hE rfl hg90 rfl) rfl ?_; clear hE a; intro a hE
            refine WL.vS hS hE (runs_plain rfl) (Gives.p hE rfl) rfl ?_; clear hE a; intro a hE
            refine WL.nil ?_
            subst hK85
            exact ⟨q91, Option.some.inj hq80, hE.pick _ ⟨rfl, trivial⟩, hS⟩
          · replace hq80 := iteF hg90 hq80
            refine WL.no hE (runs_not hE rfl rfl rfl (by rw [hg90]; decide)) rfl ?_; clear hE a; intro a hE
            refine WL.no hE (runs_not hE rfl rfl rfl (by rw [hg90]; decide)) rfl ?_; clear hE a; intro a hE
            refine WL.no hE (runs_not hE rfl rfl rfl (by rw [hg90]; decide)) rfl ?_; clear hE a; intro a hE
            refine WL.vS hS hE (runs_plain rfl) (Gives.pickF hE rfl hg90 rfl) rfl ?_; clear hE a; intro a hE
            refine WL.vS hS hE (runs_plain rfl) (Gives.p hE rfl) rfl ?_; clear hE a; intro a hE
            refine WL.nil ?_
            subst hK85
            exact ⟨false, Option.some.inj hq80, hE.pick _ ⟨rfl, trivial⟩, hS⟩
        · replace hq80 := iteF hg89 hq80
          refine WL.no hE (runs_not hE rfl rfl rfl (by rw [hg89]; decide)) rfl ?_; clear hE a; intro a hE
          refine WL.no hE (runs_not hE rfl rfl rfl (by rw [hg89]; decide)) rfl ?_; clear hE a; intro a hE
          refine WL.no hE (runs_not hE rfl rfl rfl (by rw [hg89]; decide)) rfl ?_; clear hE a; intro a hE
          refine WL.vS hS hE (runs_plain rfl) (Gives.pickF hE rfl hg89 rfl) rfl ?_; clear hE a; intro a hE
          refine WL.vS hS hE (runs_plain rfl) (Gives.p hE rfl) rfl ?_; clear hE a; intro a hE
          refine WL.no hE (runs_not hE rfl rfl rfl (by decide)) rfl ?_; clear hE a; intro a hE
          refine WL.no hE (runs_not hE rfl rfl rfl (by decide)) rfl ?_; clear hE a; intro a hE
          refine WL.no hE (runs_not hE rfl rfl rfl (by decide)) rfl ?_; clear hE a; intro a hE
          refine WL.vS hS hE (runs_plain rfl) (Gives.pickF hE rfl rfl rfl) rfl ?_; clear hE a; intro a hE
          refine WL.vS hS hE (runs_plain rfl) (Gives.p hE rfl) rfl ?_; clear hE a; intro a hE
          refine WL.nil ?_
          subst hK85
          exact ⟨false, Option.some.inj hq80, hE.pick _ ⟨rfl, trivial⟩, hS⟩
      · replace hq80 := iteF hg88 hq80
        refine WL.no hE (runs_not hE rfl rfl rfl (by rw [hg88]; decide)) rfl ?_; clear hE a; intro a hE
        refine WL.no hE (runs_not hE rfl rfl rfl (by rw [hg88]; decide)) rfl ?_; clear hE a; intro a hE
        refine WL.vS hS hE (runs_plain rfl) (Gives.pickF hE rfl hg88 rfl) rfl ?_; clear hE a; intro a hE
        refine WL.vS hS hE (runs_plain rfl) (Gives.p hE rfl) rfl ?_; clear hE a; intro a hE
        refine WL.no hE (runs_not hE rfl rfl rfl (by decide)) rfl ?_; clear hE a; intro a hE
        refine WL.no hE (runs_not hE rfl rfl rfl (by decide)) rfl ?_; clear hE a; intro a hE
        refine WL.no hE (runs_not hE rfl rfl rfl (by decide)) rfl ?_; clear hE a; intro a hE
        refine WL.vS hS hE (runs_plain rfl) (Gives.pickF hE rfl rfl rfl) rfl ?_; clear hE a; intro a hE
        refine WL.vS hS hE (runs_plain rfl) (Gives.p hE rfl) rfl ?_; clear hE a; intro a hE
        refine WL.no hE (runs_not hE rfl rfl rfl (by decide)) rfl ?_; clear hE a; intro a hE
        refine WL.no hE (runs_not hE rfl rfl rfl (by decide)) rfl ?_; clear hE a; intro a hE
        refine WL.no hE (runs_not hE rfl rfl rfl (by decide)) rfl ?_; clear hE a; intro a hE
        refine WL.vS hS hE (runs_plain rfl) (Gives.pickF hE rfl rfl rfl) rfl ?_; clear hE a; intro a hE
        refine WL.vS hS hE (runs_plain rfl) (Gives.p hE rfl) rfl ?_; clear hE a; intro a hE
        refine WL.nil ?_
        subst hK85
        exact ⟨false, Option.some.inj hq80, hE.pick _ ⟨rfl, trivial⟩, hS⟩
    · clear hE hS a w; rintro a w ⟨q84, rfl, hE, hS⟩
      refine W.ret ?_
      refine finG (fn := Try.f3) (rs := [.tmp 6]) (vs := [_]) hE rfl ⟨rfl, trivial⟩ ?_
      obtain rfl := Option.some.inj hr
      replace hS := hS.tail
      exact ⟨rfl, (hS.down (Sg.Le.trans hle58 hle79))⟩
end Go.Proofs.Ytdioaeeaifahnaa
