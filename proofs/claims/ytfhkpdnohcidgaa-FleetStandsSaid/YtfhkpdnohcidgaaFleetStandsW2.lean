/- The walks of the functions that FleetStands reaches: each call comes to what its mirror says. The conditions are those of each contract. -/
import Derived.Test.YtfhkpdnohcidgaaProg
import Derived.Test.YtfhkpdnohcidgaaFleetStandsM
import Derived.Test.YtfhkpdnohcidgaaFpAllS
import Derived.Test.YtfhkpdnohcidgaaFleetStandsS
import Derived.Test.YtfhkpdnohcidgaaFpMapS
import Derived.Test.YtfhkpdnohcidgaaFpCalm
import Derived.Test.YtfhkpdnohcidgaaFpOrd
import Derived.Test.YtfhkpdnohcidgaaFpRow
import Derived.Test.YtfhkpdnohcidgaaFleetStandsW1
namespace Go.Proofs.Ytfhkpdnohcidgaa
open Go Go.Fp
set_option maxHeartbeats 8000000 in
theorem FleetStandIns_ok {fu : Nat}  {w : World} {s : Sg} {R : List HP} {x0 : List FleetShift} {a0 : Option Addr} {c0 : Nat} {x1 : List (List Int)} {a1 : Option Addr} {c1 : Nat} {x2 : FleetLimits} {x3 : List FleetAbsence} {a3 : Option Addr} {c3 : Nat} (hS : St w s (R)) (h0 : Sl 3 RFleetShift s a0 c0 x0) (h1 : Sl 1 (RL 1 (RI .i64)) s a1 c1 x1) (h3 : Sl 2 RFleetAbsence s a3 c3 x3) {r : (List (List Int)) × (List Int) × Int} (hr : FleetStandIns fu x0 x1 x2 x3 = some r) :
    Calls Try.prog 33 [.slice a0 x0.length c0, .slice a1 x1.length c1, .agg (FleetLimits.cells x2).toArray, .slice a3 x3.length c3].toArray w (fun e w => ∃ (a0 : Option Addr) (c0 : Nat) (a1 : Option Addr) (c1 : Nat) (t : Sg), e = .returned (.tuple #[.slice a0 r.1.length c0, .slice a1 r.2.1.length c1, .int .i64 r.2.2]) ∧ s.Le t ∧ Sl 1 (RL 1 (RI .i64)) t a0 c0 r.1 ∧ Sl 1 (RI .i64) t a1 c1 r.2.1 ∧ St w t (R)) := by
  refine enter Try.func33 rfl rfl rfl fun a hE => ?_
  rw [FleetStandIns] at hr
  refine W.seq ?_
  refine W.region ?_
  refine WL.box hE hS (runs_plain rfl) rfl rfl rfl ?_; clear hE hS a w; intro b51 a w hE hS
  refine WL.box hE hS (runs_plain rfl) rfl rfl rfl ?_; clear hE hS a w; intro b52 a w hE hS
  refine WL.vS hS hE (runs_plain rfl) (Gives.p hE rfl) rfl ?_; clear hE a; intro a hE
  refine WL.vS hS hE (runs_plain rfl) (Gives.p hE rfl) rfl ?_; clear hE a; intro a hE
  refine WL.vS hS hE (runs_plain rfl) (Gives.p hE rfl) rfl ?_; clear hE a; intro a hE
  refine WL.nil ?_
  refine W.seq ?_
  refine W.region ?_
  refine WL.vS hS hE (runs_plain rfl) (Gives.loadB hE 1 rfl rfl rfl ty22) rfl ?_; clear hE a; intro a hE
  refine WL.vS hS hE (runs_plain rfl) (Gives.p hE rfl) rfl ?_; clear hE a; intro a hE
  refine WL.vS hS hE (runs_plain rfl) (Gives.loadBA hE 0 rfl rfl ty24) rfl ?_; clear hE a; intro a hE
  obtain ⟨q53, hq54, hr⟩ := bindS hr
  have hc_ := FleetJudgeRoster_ok hS h0 h1 hq54
  refine WL.fnq hE (hc_) (runs_plain rfl) bd87 rfl rfl rfl ?_
  clear hE hS hc_; rintro e w ⟨rfl, hS⟩; refine ⟨_, rfl, ?_⟩; clear a; intro a hE
  refine WL.vS hS hE (runs_plain rfl) (Gives.p hE rfl) rfl ?_; clear hE a; intro a hE
  refine WL.vS hS hE (runs_plain rfl) (Gives.p hE rfl) rfl ?_; clear hE a; intro a hE
  refine WL.vS hS hE (runs_plain rfl) (Gives.p hE rfl) rfl ?_; clear hE a; intro a hE
  refine WL.vS hS hE (runs_plain rfl) (Gives.p hE rfl) rfl ?_; clear hE a; intro a hE
  refine WL.vS hS hE (runs_plain rfl) (Gives.p hE rfl) rfl ?_; clear hE a; intro a hE
  refine WL.nil ?_
  refine W.seq ?_
  refine W.block ?_
  refine W.seq ?_
  refine W.region ?_
  refine WL.vS hS hE (runs_plain rfl) (Gives.p hE rfl) rfl ?_; clear hE a; intro a hE
  refine WL.vS hS hE (runs_plain rfl) (Gives.p hE rfl) rfl ?_; clear hE a; intro a hE
  refine WL.vS hS hE (runs_plain rfl) (Gives.p hE rfl) rfl ?_; clear hE a; intro a hE
  refine WL.nil ?_
  refine W.cond hE rfl (fun hc55 => ?_) (fun hc55 => ?_)
  · replace hr := iteT hc55 hr
    refine W.seq ?_
    refine W.region ?_
    refine WL.vS hS hE (runs_plain rfl) (Gives.p hE rfl) rfl ?_; clear hE a; intro a hE
    refine WL.vS hS hE (runs_plain rfl) (Gives.p hE rfl) rfl ?_; clear hE a; intro a hE
    refine WL.vS hS hE (runs_plain rfl) (Gives.p hE rfl) rfl ?_; clear hE a; intro a hE
    refine WL.vS hS hE (runs_plain rfl) (Gives.p hE rfl) rfl ?_; clear hE a; intro a hE
    refine WL.nil ?_
    refine W.ret ?_
    refine finG (fn := Try.f33) (rs := [.tmp 8, .tmp 9, .tmp 10]) (vs := [_, _, _]) hE rfl ⟨rfl, rfl, rfl, trivial⟩ ?_
    obtain rfl := Option.some.inj hr
    replace hS := hS.tail
    replace hS := hS.tail
    exact ⟨none, 0, none, 0, s, rfl, (Sg.Le.refl _), Sl.nil, Sl.nil, hS⟩
  · replace hr := iteF hc55 hr
    refine W.seq ?_
    refine W.region ?_
    refine WL.vS hS hE (runs_plain rfl) (Gives.p hE rfl) rfl ?_; clear hE a; intro a hE
    refine WL.vS hS hE (runs_plain rfl) (Gives.p hE rfl) rfl ?_; clear hE a; intro a hE
    refine WL.vS hS hE (runs_plain rfl) (Gives.p hE rfl) rfl ?_; clear hE a; intro a hE
    refine WL.nil ?_
    refine W.cond hE rfl (fun hc56 => ?_) (fun hc56 => ?_)
    · replace hr := iteT hc56 hr
      refine W.seq ?_
      refine W.region ?_
      refine WL.vS hS hE (runs_plain rfl) (Gives.p hE rfl) rfl ?_; clear hE a; intro a hE
      refine WL.vS hS hE (runs_plain rfl) (Gives.p hE rfl) rfl ?_; clear hE a; intro a hE
      refine WL.vS hS hE (runs_plain rfl) (Gives.p hE rfl) rfl ?_; clear hE a; intro a hE
      refine WL.nil ?_
      refine W.ret ?_
      refine finG (fn := Try.f33) (rs := [.tmp 8, .tmp 9, .tmp 10]) (vs := [_, _, _]) hE rfl ⟨rfl, rfl, rfl, trivial⟩ ?_
      obtain rfl := Option.some.inj hr
      replace hS := hS.tail
      replace hS := hS.tail
      exact ⟨none, 0, none, 0, s, rfl, (Sg.Le.refl _), Sl.nil, Sl.nil, hS⟩
    · replace hr := iteF hc56 hr
      refine W.skip ?_
      refine W.seq ?_
      refine W.region ?_
      refine WL.mkMap (fk := keyFleetAbsence.f) (fv := Value.bool) hE hS (runs_plain rfl) rfl ?_; clear hE hS a w; intro b57 a w hE hS
      refine WL.alloc hE hS (runs_plain rfl) zr121 rfl ?_; clear hE hS a w; intro b58 a w hE hS
      refine WL.storeI hE hS 0 rfl [.map (some b57)] (runs_plain rfl) rfl rfl rfl ty121 rfl rfl rfl rfl ?_; clear hE hS a w; intro a w hE hS
      refine WL.nil ?_
      refine W.seq ?_
      refine W.seq ?_
      refine W.region ?_
      refine WL.vS hS hE (runs_plain rfl) (Gives.p hE rfl) rfl ?_; clear hE a; intro a hE
      refine WL.vS hS hE (runs_plain rfl) (Gives.len hE rfl sl59) rfl ?_; clear hE a; intro a hE
      refine WL.vS hS hE (runs_plain rfl) (Gives.p hE rfl) rfl ?_; clear hE a; intro a hE
      refine WL.nil ?_
      obtain ⟨q60, hq59, hr⟩ := bndS hr
      refine W.cut (fun a w => ∃ (q70 : List (FleetAbsence × Bool)), (.next q70) = q60 ∧ Rep a 127 [(1, .slice a1 x1.length c1), (4, .pointer (some ⟨b51, 0, none⟩)), (6, .pointer (some ⟨b52, 0, none⟩)), (13, .pointer (some ⟨b58, 0, none⟩))] ∧ St w s (pt b58 (.cells #[.map (some b57)] 121 (0, 0)) :: mapC keyFleetAbsence.f Value.bool b57 q70 :: pt b52 (.cells (FleetLimits.cells x2).toArray 24 (0, 0)) :: pt b51 (.cells #[.slice a0 x0.length c0] 22 (0, 0)) :: R)) ?_ ?_
      · refine W.block ?_
        refine W.loop (fun m a w => ∃ (rest63 : List FleetAbsence) (k61 : Nat), ∃ (q70 : List (FleetAbsence × Bool)), rest63.length = m ∧ x3.drop k61 = rest63 ∧ FleetStandIns.loop1 x1 rest63 q70 = q60 ∧ Rep a 127 [(1, .slice a1 x1.length c1), (4, .pointer (some ⟨b51, 0, none⟩)), (6, .pointer (some ⟨b52, 0, none⟩)), (13, .pointer (some ⟨b58, 0, none⟩)), (44, .slice a3 x3.length c3), (45, .int .i64 ((x3).length : Int)), (46, .int .i64 ((k61 : Nat) : Int))] ∧ St w s (pt b58 (.cells #[.map (some b57)] 121 (0, 0)) :: mapC keyFleetAbsence.f Value.bool b57 q70 :: pt b52 (.cells (FleetLimits.cells x2).toArray 24 (0, 0)) :: pt b51 (.cells #[.slice a0 x0.length c0] 22 (0, 0)) :: R)) (m := x3.length) ⟨x3, 0, [], rfl, rfl, hq59, hE.pick _ ⟨rfl, rfl, rfl, rfl, rfl, rfl, rfl, trivial⟩, hS⟩ ?_
        clear hE hS a w hq59; rintro m67 a w ⟨rest63, k61, q70, rfl, hd64, hq59, hE, hS⟩
        refine W.gen fun K71 hK71 => ?_
        rcases rest63 with _ | ⟨x62, rest63⟩
        · have hlt65 := drop_nil hd64
          refine W.seq ?_
          refine W.region ?_
          refine WL.vS hS hE (runs_plain rfl) (Gives.p hE rfl) rfl ?_; clear hE a; intro a hE
          refine WL.nil ?_
          refine W.seq ?_
          refine W.condF hE rfl (decide_eq_false (by omega)) ?_
          subst hK71
          refine W.exit rfl ?_
          exact ⟨q70, hq59, hE.pick _ ⟨rfl, rfl, rfl, rfl, trivial⟩, hS⟩
        · obtain ⟨hlt65, hx66, hd64⟩ := drop_cons hd64
          rw [FleetStandIns.loop1] at hq59
          refine W.seq ?_
          refine W.region ?_
          refine WL.vS hS hE (runs_plain rfl) (Gives.p hE rfl) rfl ?_; clear hE a; intro a hE
          refine WL.nil ?_
          refine W.seq ?_
          refine W.condT hE rfl (decide_eq_true (by omega)) ?_
          refine W.skip ?_
          refine W.seq ?_
          refine W.block ?_
          refine W.seq ?_
          refine W.region ?_
          obtain ⟨cs72, hl73, hR74, hat75⟩ := h3.at hx66
          subst hR74
          refine WL.vS hS hE (runs_plain rfl) (Gives.idx hE k61 rfl rfl sl59 rfl hlt65 (h3.aok hlt65)) rfl ?_; clear hE a; intro a hE
          refine WL.vS hS hE (runs_plain rfl) (Gives.loadA hE rfl (fun w h => hat75 w _ h) ty123) rfl ?_; clear hE a; intro a hE
          refine WL.alloc hE hS (runs_plain rfl) zr123 rfl ?_; clear hE hS a w; intro b76 a w hE hS
          refine WL.storeI hE hS 0 rfl (FleetAbsence.cells x62) (runs_plain rfl) rfl rfl rfl ty123 rfl rfl rfl rfl ?_; clear hE hS a w; intro a w hE hS
          refine WL.nil ?_
          refine W.seq ?_
          refine W.seq ?_
          obtain ⟨q78, hq77, hq59⟩ := bndS hq59
          refine W.cut (fun a w => ∃ (q81 : Bool), q81 = q78 ∧ Rep a 127 [(1, .slice a1 x1.length c1), (4, .pointer (some ⟨b51, 0, none⟩)), (6, .pointer (some ⟨b52, 0, none⟩)), (13, .pointer (some ⟨b58, 0, none⟩)), (15, .pointer (some ⟨b76, 0, none⟩)), (44, .slice a3 x3.length c3), (45, .int .i64 ((x3).length : Int)), (46, .int .i64 ((k61 : Nat) : Int)), (62, .bool q81)] ∧ St w s (pt b76 (.cells (FleetAbsence.cells x62).toArray 123 (0, 0)) :: pt b58 (.cells #[.map (some b57)] 121 (0, 0)) :: mapC keyFleetAbsence.f Value.bool b57 q70 :: pt b52 (.cells (FleetLimits.cells x2).toArray 24 (0, 0)) :: pt b51 (.cells #[.slice a0 x0.length c0] 22 (0, 0)) :: R)) ?_ ?_
          · refine W.gen fun K82 hK82 => ?_
            refine W.region ?_
            refine WL.vS hS hE (runs_plain rfl) (Gives.fld hE rfl fl123_0) rfl ?_; clear hE a; intro a hE
            refine WL.vS hS hE (runs_plain rfl) (Gives.loadB hE 0 rfl rfl rfl ty3) rfl ?_; clear hE a; intro a hE
            refine WL.vS hS hE (runs_plain rfl) (Gives.p hE rfl) rfl ?_; clear hE a; intro a hE
            refine WL.vS hS hE (runs_plain rfl) (Gives.len hE rfl sl25) rfl ?_; clear hE a; intro a hE
            refine WL.vS hS hE (runs_plain rfl) (Gives.p hE rfl) rfl ?_; clear hE a; intro a hE
            refine WL.fnq hE (Fleetwithin_ok hS  rfl (r := Fleetwithin x62.Driver 0 (w64 (((x1).length : Int) - 1)))) (runs_plain rfl) bd37 rfl rfl rfl ?_
            clear hE hS; rintro e w ⟨rfl, hS⟩; refine ⟨_, rfl, ?_⟩; clear a; intro a hE
            refine WL.vS hS hE (runs_plain rfl) (Gives.p hE rfl) rfl ?_; clear hE a; intro a hE
            refine WL.vS hS hE (runs_plain rfl) (Gives.p hE rfl) rfl ?_; clear hE a; intro a hE
            rcases Bool.eq_false_or_eq_true (!(Fleetwithin x62.Driver 0 (w64 (((x1).length : Int) - 1)))) with hg83 | hg83
            · replace hq77 := iteT hg83 hq77
              refine WL.no hE (runs_not hE rfl rfl rfl (by rw [hg83]; decide)) rfl ?_; clear hE a; intro a hE
              refine WL.no hE (runs_not hE rfl rfl rfl (by rw [hg83]; decide)) rfl ?_; clear hE a; intro a hE
              refine WL.no hE (runs_not hE rfl rfl rfl (by rw [hg83]; decide)) rfl ?_; clear hE a; intro a hE
              refine WL.no hE (runs_not hE rfl rfl rfl (by rw [hg83]; decide)) rfl ?_; clear hE a; intro a hE
              refine WL.vS hS hE (runs_plain rfl) (Gives.pickT hE rfl hg83 rfl) rfl ?_; clear hE a; intro a hE
              refine WL.nil ?_
              subst hK82
              exact ⟨true, hq77, hE.pick _ ⟨rfl, rfl, rfl, rfl, rfl, rfl, rfl, rfl, rfl, trivial⟩, hS⟩
            · replace hq77 := iteF hg83 hq77
              refine WL.vS hS hE (runs_if hE rfl rfl rfl hg83) (Gives.fld hE rfl fl123_1) rfl ?_; clear hE a; intro a hE
              refine WL.vS hS hE (runs_if hE rfl rfl rfl hg83) (Gives.loadB hE 0 rfl rfl rfl ty3) rfl ?_; clear hE a; intro a hE
              refine WL.fnq hE (Fleetwithin_ok hS  rfl (r := Fleetwithin x62.Day 0 6)) (runs_if hE rfl rfl rfl hg83) bd37 rfl rfl rfl ?_
              clear hE hS; rintro e w ⟨rfl, hS⟩; refine ⟨_, rfl, ?_⟩; clear a; intro a hE
              refine WL.vS hS hE (runs_if hE rfl rfl rfl hg83) (Gives.p hE rfl) rfl ?_; clear hE a; intro a hE
              refine WL.vS hS hE (runs_plain rfl) (Gives.pickF hE rfl hg83 rfl) rfl ?_; clear hE a; intro a hE
              refine WL.nil ?_
              subst hK82
              exact ⟨!(Fleetwithin x62.Day 0 6), hq77, hE.pick _ ⟨rfl, rfl, rfl, rfl, rfl, rfl, rfl, rfl, rfl, trivial⟩, hS⟩
          · clear hE hS a w; rintro a w ⟨q81, rfl, hE, hS⟩
            refine W.cond hE rfl (fun hc84 => ?_) (fun hc84 => ?_)
            · replace hq59 := iteT hc84 hq59
              refine W.seq ?_
              refine W.region ?_
              refine WL.vS hS hE (runs_plain rfl) (Gives.p hE rfl) rfl ?_; clear hE a; intro a hE
              refine WL.vS hS hE (runs_plain rfl) (Gives.p hE rfl) rfl ?_; clear hE a; intro a hE
              refine WL.vS hS hE (runs_plain rfl) (Gives.p hE rfl) rfl ?_; clear hE a; intro a hE
              refine WL.nil ?_
              refine W.ret ?_
              subst hK71
              rw [← hq59] at hr
              dsimp only at hr
              refine finG (fn := Try.f33) (rs := [.tmp 8, .tmp 9, .tmp 10]) (vs := [_, _, _]) hE rfl ⟨rfl, rfl, rfl, trivial⟩ ?_
              obtain rfl := Option.some.inj hr
              replace hS := hS.tail
              replace hS := hS.tail
              replace hS := hS.tail
              replace hS := hS.tail
              replace hS := hS.tail
              exact ⟨none, 0, none, 0, s, rfl, (Sg.Le.refl _), Sl.nil, Sl.nil, hS⟩
            · replace hq59 := iteF hc84 hq59
              refine W.skip ?_
              refine W.region ?_
              refine WL.vS hS hE (runs_plain rfl) (Gives.loadB hE 1 rfl rfl rfl ty121) rfl ?_; clear hE a; intro a hE
              refine WL.vS hS hE (runs_plain rfl) (Gives.loadBA hE 0 rfl rfl ty123) rfl ?_; clear hE a; intro a hE
              refine WL.mapSetS keyFleetAbsence hE hS 2 (k := x62) (v := true) (.inl rfl) (runs_plain rfl) rfl rfl rfl rfl mp121 rfl ?_; clear hE hS a w; intro a w hE hS
              refine WL.nil ?_
              refine W.region ?_
              refine WL.vS hS hE (runs_plain rfl) (Gives.inc hE rfl (by have := h3.small; omega)) rfl ?_; clear hE a; intro a hE
              refine WL.vS hS hE (runs_plain rfl) (Gives.p hE rfl) rfl ?_; clear hE a; intro a hE
              refine WL.nil ?_
              replace hS := hS.tail
              subst hK71
              exact ⟨rest63.length, Nat.lt_succ_self _, rest63, k61 + 1, (mput q70 x62 true), rfl, hd64, hq59, hE.pick _ ⟨rfl, rfl, rfl, rfl, rfl, rfl, rfl, trivial⟩, hS⟩
      · clear hE hS a w; rintro a w ⟨q70, rfl, hE, hS⟩
        dsimp only at hr
        refine W.seq ?_
        refine W.region ?_
        refine WL.vS hS hE (runs_plain rfl) (Gives.p hE rfl) rfl ?_; clear hE a; intro a hE
        refine WL.vS hS hE (runs_plain rfl) (Gives.len hE rfl sl25) rfl ?_; clear hE a; intro a hE
        obtain ⟨x85, hx86, hr⟩ := bindS hr
        refine WL.mkND (Rr := RI .i64) (Ti := 3) (es := 1) hE hS (runs_plain rfl) rfl rfl ap25 zr44 hx86 rfl ?_; clear hE hS a w; intro b87 ds88 a w h89 hE hS
        refine WL.alloc hE hS (runs_plain rfl) zr25 rfl ?_; clear hE hS a w; intro b91 a w hE hS
        refine WL.storeI hE hS 0 rfl [.slice (some ⟨b87, 0, none⟩) x85.length x85.length] (runs_plain rfl) rfl rfl rfl ty25 rfl rfl rfl rfl ?_; clear hE hS a w; intro a w hE hS
        refine WL.nil ?_
        refine W.seq ?_
        refine W.region ?_
        refine WL.alloc hE hS (runs_plain rfl) zr44 rfl ?_; clear hE hS a w; intro b92 a w hE hS
        refine WL.nil ?_
        refine W.seq ?_
        refine W.region ?_
        refine WL.mkMap (fk := keyI.f) (fv := (Value.int .i64)) hE hS (runs_plain rfl) rfl ?_; clear hE hS a w; intro b93 a w hE hS
        refine WL.alloc hE hS (runs_plain rfl) zr124 rfl ?_; clear hE hS a w; intro b94 a w hE hS
        refine WL.storeI hE hS 0 rfl [.map (some b93)] (runs_plain rfl) rfl rfl rfl ty124 rfl rfl rfl rfl ?_; clear hE hS a w; intro a w hE hS
        refine WL.nil ?_
        refine W.seq ?_
        refine W.seq ?_
        refine W.region ?_
        refine WL.vS hS hE (runs_plain rfl) (Gives.p hE rfl) rfl ?_; clear hE a; intro a hE
        refine WL.vS hS hE (runs_plain rfl) (Gives.len hE rfl sl25) rfl ?_; clear hE a; intro a hE
        refine WL.vS hS hE (runs_plain rfl) (Gives.p hE rfl) rfl ?_; clear hE a; intro a hE
        refine WL.nil ?_
        replace hS := hS.vecNil 3 1
        obtain ⟨q97, hq96, hr⟩ := bindS hr
        refine W.cut (fun a w => ∃ (q107 : List (List Int)), ∃ (q114 : List Int), ∃ (q121 : List (Int × Int)), ∃ (ds111 : List In), ∃ (a115 : Option Addr), ∃ (c116 : Nat), ∃ (n118 : Nat), ∃ (cs119 : List Value), (q107, q114, q121) = q97 ∧ NEv 1 (RI .i64) s ds111 q107 ∧ q107.length = x85.length ∧ Ev 1 (RI .i64) s cs119 q114 ∧ q114.length = n118 ∧ Rep a 127 [(4, .pointer (some ⟨b51, 0, none⟩)), (6, .pointer (some ⟨b52, 0, none⟩)), (13, .pointer (some ⟨b58, 0, none⟩)), (16, .pointer (some ⟨b91, 0, none⟩)), (17, .pointer (some ⟨b92, 0, none⟩)), (18, .pointer (some ⟨b94, 0, none⟩))] ∧ St w s (vecC 3 1 a115 c116 n118 cs119 :: pt b94 (.cells #[.map (some b93)] 124 (0, 0)) :: mapC keyI.f (Value.int .i64) b93 q121 :: pt b92 (.cells #[.slice a115 n118 c116] 44 (0, 0)) :: pt b91 (.cells #[.slice (some ⟨b87, 0, none⟩) x85.length x85.length] 25 (0, 0)) :: nestC 44 3 1 (some ⟨b87, 0, none⟩) x85.length x85.length ds111 :: pt b58 (.cells #[.map (some b57)] 121 (0, 0)) :: mapC keyFleetAbsence.f Value.bool b57 q70 :: pt b52 (.cells (FleetLimits.cells x2).toArray 24 (0, 0)) :: pt b51 (.cells #[.slice a0 x0.length c0] 22 (0, 0)) :: R)) ?_ ?_
        · refine W.block ?_
          refine W.loop (fun m a w => ∃ (rest100 : List (List Int)) (k98 : Nat), ∃ (q107 : List (List Int)), ∃ (q114 : List Int), ∃ (q121 : List (Int × Int)), ∃ (ds111 : List In), ∃ (a115 : Option Addr), ∃ (c116 : Nat), ∃ (n118 : Nat), ∃ (cs119 : List Value), rest100.length = m ∧ x1.drop k98 = rest100 ∧ FleetStandIns.loop2 x0 q70 rest100 k98 q107 q114 q121 = some q97 ∧ NEv 1 (RI .i64) s ds111 q107 ∧ q107.length = x85.length ∧ Ev 1 (RI .i64) s cs119 q114 ∧ q114.length = n118 ∧ Rep a 127 [(4, .pointer (some ⟨b51, 0, none⟩)), (6, .pointer (some ⟨b52, 0, none⟩)), (13, .pointer (some ⟨b58, 0, none⟩)), (16, .pointer (some ⟨b91, 0, none⟩)), (17, .pointer (some ⟨b92, 0, none⟩)), (18, .pointer (some ⟨b94, 0, none⟩)), (70, .slice a1 x1.length c1), (71, .int .i64 ((x1).length : Int)), (72, .int .i64 ((k98 : Nat) : Int))] ∧ St w s (vecC 3 1 a115 c116 n118 cs119 :: pt b94 (.cells #[.map (some b93)] 124 (0, 0)) :: mapC keyI.f (Value.int .i64) b93 q121 :: pt b92 (.cells #[.slice a115 n118 c116] 44 (0, 0)) :: pt b91 (.cells #[.slice (some ⟨b87, 0, none⟩) x85.length x85.length] 25 (0, 0)) :: nestC 44 3 1 (some ⟨b87, 0, none⟩) x85.length x85.length ds111 :: pt b58 (.cells #[.map (some b57)] 121 (0, 0)) :: mapC keyFleetAbsence.f Value.bool b57 q70 :: pt b52 (.cells (FleetLimits.cells x2).toArray 24 (0, 0)) :: pt b51 (.cells #[.slice a0 x0.length c0] 22 (0, 0)) :: R)) (m := x1.length) ⟨x1, 0, x85, [], [], ds88, none, 0, 0, [], rfl, rfl, hq96, h89, (rfl), (Ev.nil), (rfl), hE.pick _ ⟨rfl, rfl, rfl, rfl, rfl, rfl, rfl, rfl, rfl, trivial⟩, hS⟩ ?_
          clear hE hS a w hq96; rintro m104 a w ⟨rest100, k98, q107, q114, q121, ds111, a115, c116, n118, cs119, rfl, hd101, hq96, h112, hn113, h117, rfl, hE, hS⟩
          refine W.gen fun K122 hK122 => ?_
          rcases rest100 with _ | ⟨x99, rest100⟩
          · have hlt102 := drop_nil hd101
            refine W.seq ?_
            refine W.region ?_
            refine WL.vS hS hE (runs_plain rfl) (Gives.p hE rfl) rfl ?_; clear hE a; intro a hE
            refine WL.nil ?_
            refine W.seq ?_
            refine W.condF hE rfl (decide_eq_false (by omega)) ?_
            subst hK122
            refine W.exit rfl ?_
            exact ⟨q107, q114, q121, ds111, a115, c116, q114.length, cs119, Option.some.inj hq96, h112, hn113, h117, rfl, hE.pick _ ⟨rfl, rfl, rfl, rfl, rfl, rfl, trivial⟩, hS⟩
          · obtain ⟨hlt102, hx103, hd101⟩ := drop_cons hd101
            rw [FleetStandIns.loop2] at hq96
            refine W.seq ?_
            refine W.region ?_
            refine WL.vS hS hE (runs_plain rfl) (Gives.p hE rfl) rfl ?_; clear hE a; intro a hE
            refine WL.nil ?_
            refine W.seq ?_
            refine W.condT hE rfl (decide_eq_true (by omega)) ?_
            refine W.skip ?_
            refine W.seq ?_
            refine W.block ?_
            refine W.seq ?_
            refine W.region ?_
            refine WL.vS hS hE (runs_plain rfl) (Gives.p hE rfl) rfl ?_; clear hE a; intro a hE
            obtain ⟨cs123, hl124, hR125, hat126⟩ := h1.at hx103
            obtain ⟨a127, c128, rfl, h129⟩ := hR125
            refine WL.vS hS hE (runs_plain rfl) (Gives.idx hE k98 rfl rfl sl25 rfl hlt102 (h1.aok hlt102)) rfl ?_; clear hE a; intro a hE
            refine WL.vS hS hE (runs_plain rfl) (Gives.load1 hE rfl (fun w h => hat126 w _ h) ty44) rfl ?_; clear hE a; intro a hE
            refine WL.vS hS hE (runs_plain rfl) (Gives.p hE rfl) rfl ?_; clear hE a; intro a hE
            refine WL.vS hS hE (runs_plain rfl) (Gives.p hE rfl) rfl ?_; clear hE a; intro a hE
            refine WL.nil ?_
            refine W.seq ?_
            refine W.region ?_
            refine WL.vS hS hE (runs_plain rfl) (Gives.p hE rfl) rfl ?_; clear hE a; intro a hE
            refine WL.vS hS hE (runs_plain rfl) (Gives.len hE rfl sl44) rfl ?_; clear hE a; intro a hE
            refine WL.vS hS hE (runs_plain rfl) (Gives.p hE rfl) rfl ?_; clear hE a; intro a hE
            refine WL.nil ?_
            obtain ⟨q131, hq130, hq96⟩ := bindS hq96
            refine W.cut (fun a w => ∃ (q141 : List (List Int)), ∃ (q148 : List Int), ∃ (q155 : List (Int × Int)), ∃ (ds145 : List In), ∃ (a149 : Option Addr), ∃ (c150 : Nat), ∃ (n152 : Nat), ∃ (cs153 : List Value), (q141, q148, q155) = q131 ∧ NEv 1 (RI .i64) s ds145 q141 ∧ q141.length = x85.length ∧ Ev 1 (RI .i64) s cs153 q148 ∧ q148.length = n152 ∧ Rep a 127 [(4, .pointer (some ⟨b51, 0, none⟩)), (6, .pointer (some ⟨b52, 0, none⟩)), (13, .pointer (some ⟨b58, 0, none⟩)), (16, .pointer (some ⟨b91, 0, none⟩)), (17, .pointer (some ⟨b92, 0, none⟩)), (18, .pointer (some ⟨b94, 0, none⟩)), (70, .slice a1 x1.length c1), (71, .int .i64 ((x1).length : Int)), (72, .int .i64 ((k98 : Nat) : Int))] ∧ St w s (vecC 3 1 a149 c150 n152 cs153 :: pt b94 (.cells #[.map (some b93)] 124 (0, 0)) :: mapC keyI.f (Value.int .i64) b93 q155 :: pt b92 (.cells #[.slice a149 n152 c150] 44 (0, 0)) :: pt b91 (.cells #[.slice (some ⟨b87, 0, none⟩) x85.length x85.length] 25 (0, 0)) :: nestC 44 3 1 (some ⟨b87, 0, none⟩) x85.length x85.length ds145 :: pt b58 (.cells #[.map (some b57)] 121 (0, 0)) :: mapC keyFleetAbsence.f Value.bool b57 q70 :: pt b52 (.cells (FleetLimits.cells x2).toArray 24 (0, 0)) :: pt b51 (.cells #[.slice a0 x0.length c0] 22 (0, 0)) :: R)) ?_ ?_
            · refine W.block ?_
              refine W.loop (fun m a w => ∃ (rest134 : List Int) (k132 : Nat), ∃ (q141 : List (List Int)), ∃ (q148 : List Int), ∃ (q155 : List (Int × Int)), ∃ (ds145 : List In), ∃ (a149 : Option Addr), ∃ (c150 : Nat), ∃ (n152 : Nat), ∃ (cs153 : List Value), rest134.length = m ∧ x99.drop k132 = rest134 ∧ FleetStandIns.loop3 x0 q70 k98 rest134 q141 q148 q155 = some q131 ∧ NEv 1 (RI .i64) s ds145 q141 ∧ q141.length = x85.length ∧ Ev 1 (RI .i64) s cs153 q148 ∧ q148.length = n152 ∧ Rep a 127 [(4, .pointer (some ⟨b51, 0, none⟩)), (6, .pointer (some ⟨b52, 0, none⟩)), (13, .pointer (some ⟨b58, 0, none⟩)), (16, .pointer (some ⟨b91, 0, none⟩)), (17, .pointer (some ⟨b92, 0, none⟩)), (18, .pointer (some ⟨b94, 0, none⟩)), (19, .int .i64 ((k98 : Nat) : Int)), (70, .slice a1 x1.length c1), (71, .int .i64 ((x1).length : Int)), (72, .int .i64 ((k98 : Nat) : Int)), (77, .slice a127 x99.length c128), (78, .int .i64 ((x99).length : Int)), (79, .int .i64 ((k132 : Nat) : Int))] ∧ St w s (vecC 3 1 a149 c150 n152 cs153 :: pt b94 (.cells #[.map (some b93)] 124 (0, 0)) :: mapC keyI.f (Value.int .i64) b93 q155 :: pt b92 (.cells #[.slice a149 n152 c150] 44 (0, 0)) :: pt b91 (.cells #[.slice (some ⟨b87, 0, none⟩) x85.length x85.length] 25 (0, 0)) :: nestC 44 3 1 (some ⟨b87, 0, none⟩) x85.length x85.length ds145 :: pt b58 (.cells #[.map (some b57)] 121 (0, 0)) :: mapC keyFleetAbsence.f Value.bool b57 q70 :: pt b52 (.cells (FleetLimits.cells x2).toArray 24 (0, 0)) :: pt b51 (.cells #[.slice a0 x0.length c0] 22 (0, 0)) :: R)) (m := x99.length) ⟨x99, 0, q107, q114, q121, ds111, a115, c116, q114.length, cs119, rfl, rfl, hq130, h112, hn113, h117, rfl, hE.pick _ ⟨rfl, rfl, rfl, rfl, rfl, rfl, rfl, rfl, rfl, rfl, rfl, rfl, rfl, trivial⟩, hS⟩ ?_
              clear hE hS a w hq130; rintro m138 a w ⟨rest134, k132, q141, q148, q155, ds145, a149, c150, n152, cs153, rfl, hd135, hq130, h146, hn147, h151, rfl, hE, hS⟩
              refine W.gen fun K156 hK156 => ?_
              rcases rest134 with _ | ⟨x133, rest134⟩
              · have hlt136 := drop_nil hd135
                refine W.seq ?_
                refine W.region ?_
                refine WL.vS hS hE (runs_plain rfl) (Gives.p hE rfl) rfl ?_; clear hE a; intro a hE
                refine WL.nil ?_
                refine W.seq ?_
                refine W.condF hE rfl (decide_eq_false (by omega)) ?_
                subst hK156
                refine W.exit rfl ?_
                exact ⟨q141, q148, q155, ds145, a149, c150, q148.length, cs153, Option.some.inj hq130, h146, hn147, h151, rfl, hE.pick _ ⟨rfl, rfl, rfl, rfl, rfl, rfl, rfl, rfl, rfl, trivial⟩, hS⟩
              · obtain ⟨hlt136, hx137, hd135⟩ := drop_cons hd135
                rw [FleetStandIns.loop3] at hq130
                refine W.seq ?_
                refine W.region ?_
                refine WL.vS hS hE (runs_plain rfl) (Gives.p hE rfl) rfl ?_; clear hE a; intro a hE
                refine WL.nil ?_
                refine W.seq ?_
                refine W.condT hE rfl (decide_eq_true (by omega)) ?_
                refine W.skip ?_
                refine W.seq ?_
                refine W.block ?_
                refine W.seq ?_
                refine W.region ?_
                obtain ⟨cs157, hl158, hR159, hat160⟩ := h129.at hx137
                subst hR159
                refine WL.vS hS hE (runs_plain rfl) (Gives.idx hE k132 rfl rfl sl44 rfl hlt136 (h129.aok hlt136)) rfl ?_; clear hE a; intro a hE
                refine WL.vS hS hE (runs_plain rfl) (Gives.load1 hE rfl (fun w h => hat160 w _ h) ty3) rfl ?_; clear hE a; intro a hE
                refine WL.vS hS hE (runs_plain rfl) (Gives.p hE rfl) rfl ?_; clear hE a; intro a hE
                refine WL.nil ?_
                refine W.seq ?_
                refine W.regionQ (C := fun w => St w s (vecC 3 1 a149 c150 q148.length cs153 :: pt b94 (.cells #[.map (some b93)] 124 (0, 0)) :: mapC keyI.f (Value.int .i64) b93 q155 :: pt b92 (.cells #[.slice a149 q148.length c150] 44 (0, 0)) :: pt b91 (.cells #[.slice (some ⟨b87, 0, none⟩) x85.length x85.length] 25 (0, 0)) :: nestC 44 3 1 (some ⟨b87, 0, none⟩) x85.length x85.length ds145 :: pt b58 (.cells #[.map (some b57)] 121 (0, 0)) :: mapC keyFleetAbsence.f Value.bool b57 q70 :: pt b52 (.cells (FleetLimits.cells x2).toArray 24 (0, 0)) :: pt b51 (.cells #[.slice a0 x0.length c0] 22 (0, 0)) :: R)) mixed (by kernel_rfl) hS.drew ?_
                refine QL.v hE (runs_plain rfl) (Gives.loadB hE 6 rfl rfl rfl ty121) rfl ?_; clear hE a; intro a hE
                refine QL.v hE (runs_plain rfl) (Gives.p hE rfl) rfl ?_; clear hE a; intro a hE
                refine QL.v hE (runs_plain rfl) (Gives.loadB hE 9 rfl rfl rfl ty22) rfl ?_; clear hE a; intro a hE
                refine QL.v hE (runs_plain rfl) (Gives.p hE rfl) rfl ?_; clear hE a; intro a hE
                obtain ⟨x161, hx162, hq130⟩ := bindS hq130
                obtain ⟨hi163, hlt164, hy165⟩ := gx_some hx162
                obtain ⟨cs166, hl167, hR168, hat169⟩ := h0.at hy165
                subst hR168
                refine QL.v hE (runs_plain rfl) (Gives.idx hE (x133).toNat rfl rfl sl22 hi163 hlt164 (h0.aok hlt164)) rfl ?_; clear hE a; intro a hE
                refine QL.v hE (runs_plain rfl) (Gives.fld hE rfl fl126_0) rfl ?_; clear hE a; intro a hE
                refine QL.v hE (runs_plain rfl) (Gives.load1 hE rfl (fun w h => (hat169 w _ h).one rfl) ty3) rfl ?_; clear hE a; intro a hE
                refine QL.v hE (runs_plain rfl) (Gives.build hE (vs := [(0, .int .i64 ((k98 : Nat) : Int)), (1, .int .i64 x161.Day)]) [.int .i64 ((k98 : Nat) : Int), .int .i64 x161.Day] rfl (by kernel_rfl)) rfl ?_; clear hE a; intro a hE
                refine QL.v hE (runs_plain rfl) (Gives.mapGetS keyFleetAbsence hE 7 (k := (FleetAbsence.mk ((k98 : Nat) : Int) x161.Day)) (z := false) rfl rfl rfl mp121 zm4) rfl ?_; clear hE a; intro a hE
                refine QL.nil ?_; clear hS w; intro w hS
                obtain ⟨q171, hq170, hq130⟩ := bindS hq130
                refine W.cut (fun a w => ∃ (q174 : List (List Int)), ∃ (q181 : List Int), ∃ (q188 : List (Int × Int)), ∃ (ds178 : List In), ∃ (a182 : Option Addr), ∃ (c183 : Nat), ∃ (n185 : Nat), ∃ (cs186 : List Value), (q174, q181, q188) = q171 ∧ NEv 1 (RI .i64) s ds178 q174 ∧ q174.length = x85.length ∧ Ev 1 (RI .i64) s cs186 q181 ∧ q181.length = n185 ∧ Rep a 127 [(4, .pointer (some ⟨b51, 0, none⟩)), (6, .pointer (some ⟨b52, 0, none⟩)), (13, .pointer (some ⟨b58, 0, none⟩)), (16, .pointer (some ⟨b91, 0, none⟩)), (17, .pointer (some ⟨b92, 0, none⟩)), (18, .pointer (some ⟨b94, 0, none⟩)), (19, .int .i64 ((k98 : Nat) : Int)), (70, .slice a1 x1.length c1), (71, .int .i64 ((x1).length : Int)), (72, .int .i64 ((k98 : Nat) : Int)), (77, .slice a127 x99.length c128), (78, .int .i64 ((x99).length : Int)), (79, .int .i64 ((k132 : Nat) : Int))] ∧ St w s (vecC 3 1 a182 c183 n185 cs186 :: pt b94 (.cells #[.map (some b93)] 124 (0, 0)) :: mapC keyI.f (Value.int .i64) b93 q188 :: pt b92 (.cells #[.slice a182 n185 c183] 44 (0, 0)) :: pt b91 (.cells #[.slice (some ⟨b87, 0, none⟩) x85.length x85.length] 25 (0, 0)) :: nestC 44 3 1 (some ⟨b87, 0, none⟩) x85.length x85.length ds178 :: pt b58 (.cells #[.map (some b57)] 121 (0, 0)) :: mapC keyFleetAbsence.f Value.bool b57 q70 :: pt b52 (.cells (FleetLimits.cells x2).toArray 24 (0, 0)) :: pt b51 (.cells #[.slice a0 x0.length c0] 22 (0, 0)) :: R)) ?_ ?_
                · refine W.gen fun K189 hK189 => ?_
                  refine W.cond hE rfl (fun hc190 => ?_) (fun hc190 => ?_)
                  · replace hq170 := iteT hc190 hq170
                    refine W.seq ?_
                    refine W.region ?_
                    refine WL.vS hS hE (runs_plain rfl) (Gives.loadB hE 3 rfl rfl rfl ty44) rfl ?_; clear hE a; intro a hE
                    refine WL.vS hS hE (runs_plain rfl) (Gives.p hE rfl) rfl ?_; clear hE a; intro a hE
                    refine WL.lit hE hS (e := 3) (es := 1) (vs := [(0, .int .i64 x133)]) (cs := [.int .i64 x133]) (runs_plain rfl) rfl (by kernel_rfl) rfl ?_; clear hE hS a w; intro b191 a w hE hS
                    obtain ⟨x192, hx193, hq170⟩ := bindS hq170
                    refine WL.appD hE hS 0 (m := 1) (runs_plain rfl) rfl rfl rfl ap44 rfl h151 rfl (xs := [x133]) (Ev.cons (c1 := [.int .i64 x133]) rfl rfl (Ev.nil)) rfl rfl hx193 rfl ?_; clear hE hS a w; intro a194 c195 cs196 a w h197 hE hS
                    refine WL.storeI hE hS 3 rfl [.slice a194 x192.length c195] (runs_plain rfl) rfl rfl rfl ty44 rfl rfl rfl rfl ?_; clear hE hS a w; intro a w hE hS
                    refine WL.nil ?_
                    refine W.region ?_
                    refine WL.vS hS hE (runs_plain rfl) (Gives.loadB hE 1 rfl rfl rfl ty124) rfl ?_; clear hE a; intro a hE
                    refine WL.vS hS hE (runs_plain rfl) (Gives.p hE rfl) rfl ?_; clear hE a; intro a hE
                    refine WL.vS hS hE (runs_plain rfl) (Gives.p hE rfl) rfl ?_; clear hE a; intro a hE
                    refine WL.mapSet keyI hE hS 2 (k := x133) (v := ((k98 : Nat) : Int)) (.inl rfl) (runs_plain rfl) rfl rfl rfl rfl mp124 rfl ?_; clear hE hS a w; intro a w hE hS
                    refine WL.nil ?_
                    subst hK189
                    exact ⟨q141, x192, (mput q155 x133 ((k98 : Nat) : Int)), ds145, a194, c195, x192.length, cs196, Option.some.inj hq170, h146, hn147, h197, (rfl), hE.pick _ ⟨rfl, rfl, rfl, rfl, rfl, rfl, rfl, rfl, rfl, rfl, rfl, rfl, rfl, trivial⟩, hS⟩
                  · replace hq170 := iteF hc190 hq170
                    refine W.gen fun K198 hK198 => ?_
                    refine W.regionE (sel (fun w => St w s (vecC 3 1 a149 c150 q148.length cs153 :: pt b94 (.cells #[.map (some b93)] 124 (0, 0)) :: mapC keyI.f (Value.int .i64) b93 q155 :: pt b92 (.cells #[.slice a149 q148.length c150] 44 (0, 0)) :: pt b91 (.cells #[.slice (some ⟨b87, 0, none⟩) x85.length x85.length] 25 (0, 0)) :: nestC 44 3 1 (some ⟨b87, 0, none⟩) x85.length x85.length ds145 :: pt b58 (.cells #[.map (some b57)] 121 (0, 0)) :: mapC keyFleetAbsence.f Value.bool b57 q70 :: pt b52 (.cells (FleetLimits.cells x2).toArray 24 (0, 0)) :: pt b51 (.cells #[.slice a0 x0.length c0] 22 (0, 0)) :: R)) (fun w => St w s (vecC 3 1 a149 c150 q148.length cs153 :: pt b94 (.cells #[.map (some b93)] 124 (0, 0)) :: mapC keyI.f (Value.int .i64) b93 q155 :: pt b92 (.cells #[.slice a149 q148.length c150] 44 (0, 0)) :: pt b91 (.cells #[.slice (some ⟨b87, 0, none⟩) x85.length x85.length] 25 (0, 0)) :: pt b58 (.cells #[.map (some b57)] 121 (0, 0)) :: mapC keyFleetAbsence.f Value.bool b57 q70 :: pt b52 (.cells (FleetLimits.cells x2).toArray 24 (0, 0)) :: pt b51 (.cells #[.slice a0 x0.length c0] 22 (0, 0)) :: R))) (fun b i => cond b ([0, 1, 2, 3, 4, 5, 6, 7, 9].contains i) ([0, 1, 2, 3, 4, 5, 6, 7, 8, 9, 10].contains i)) mixed ?_
                    replace hS := hS.drew
                    have hT := tw_sel (A := fun w => St w s (vecC 3 1 a149 c150 q148.length cs153 :: pt b94 (.cells #[.map (some b93)] 124 (0, 0)) :: mapC keyI.f (Value.int .i64) b93 q155 :: pt b92 (.cells #[.slice a149 q148.length c150] 44 (0, 0)) :: pt b91 (.cells #[.slice (some ⟨b87, 0, none⟩) x85.length x85.length] 25 (0, 0)) :: nestC 44 3 1 (some ⟨b87, 0, none⟩) x85.length x85.length ds145 :: pt b58 (.cells #[.map (some b57)] 121 (0, 0)) :: mapC keyFleetAbsence.f Value.bool b57 q70 :: pt b52 (.cells (FleetLimits.cells x2).toArray 24 (0, 0)) :: pt b51 (.cells #[.slice a0 x0.length c0] 22 (0, 0)) :: R)) (B := fun w => St w s (vecC 3 1 a149 c150 q148.length cs153 :: pt b94 (.cells #[.map (some b93)] 124 (0, 0)) :: mapC keyI.f (Value.int .i64) b93 q155 :: pt b92 (.cells #[.slice a149 q148.length c150] 44 (0, 0)) :: pt b91 (.cells #[.slice (some ⟨b87, 0, none⟩) x85.length x85.length] 25 (0, 0)) :: pt b58 (.cells #[.map (some b57)] 121 (0, 0)) :: mapC keyFleetAbsence.f Value.bool b57 q70 :: pt b52 (.cells (FleetLimits.cells x2).toArray 24 (0, 0)) :: pt b51 (.cells #[.slice a0 x0.length c0] 22 (0, 0)) :: R)) (w := _) (x := true) (y := true) (fun _ => hS) (fun _ => (hS.dropAt 5))
                    have hF := hS; replace hS := (hS.dropAt 5)
                    refine Rg.take (i := 0) false rfl hE rfl (by kernel_rfl) (runs_plain rfl) (Gives.loadB hE 4 rfl rfl rfl ty25) rfl hT ?_; clear hE a; intro a hE
                    replace hS := hF; clear hF hT
                    refine Rg.takeP (i := 1) hE rfl (by kernel_rfl) (runs_plain rfl) (Gives.p hE rfl) rfl (tw_sel (fun _ => hS) (fun _ => (hS.dropAt 5))) ?_; clear hE a; intro a hE
                    have hT := tw_sel (A := fun w => St w s (vecC 3 1 a149 c150 q148.length cs153 :: pt b94 (.cells #[.map (some b93)] 124 (0, 0)) :: mapC keyI.f (Value.int .i64) b93 q155 :: pt b92 (.cells #[.slice a149 q148.length c150] 44 (0, 0)) :: pt b91 (.cells #[.slice (some ⟨b87, 0, none⟩) x85.length x85.length] 25 (0, 0)) :: nestC 44 3 1 (some ⟨b87, 0, none⟩) x85.length x85.length ds145 :: pt b58 (.cells #[.map (some b57)] 121 (0, 0)) :: mapC keyFleetAbsence.f Value.bool b57 q70 :: pt b52 (.cells (FleetLimits.cells x2).toArray 24 (0, 0)) :: pt b51 (.cells #[.slice a0 x0.length c0] 22 (0, 0)) :: R)) (B := fun w => St w s (vecC 3 1 a149 c150 q148.length cs153 :: pt b94 (.cells #[.map (some b93)] 124 (0, 0)) :: mapC keyI.f (Value.int .i64) b93 q155 :: pt b92 (.cells #[.slice a149 q148.length c150] 44 (0, 0)) :: pt b91 (.cells #[.slice (some ⟨b87, 0, none⟩) x85.length x85.length] 25 (0, 0)) :: pt b58 (.cells #[.map (some b57)] 121 (0, 0)) :: mapC keyFleetAbsence.f Value.bool b57 q70 :: pt b52 (.cells (FleetLimits.cells x2).toArray 24 (0, 0)) :: pt b51 (.cells #[.slice a0 x0.length c0] 22 (0, 0)) :: R)) (w := _) (x := true) (y := true) (fun _ => hS) (fun _ => (hS.dropAt 5))
                    have hF := hS; replace hS := (hS.dropAt 5)
                    refine Rg.take (i := 2) false rfl hE rfl (by kernel_rfl) (runs_plain rfl) (Gives.loadB hE 4 rfl rfl rfl ty25) rfl hT ?_; clear hE a; intro a hE
                    replace hS := hF; clear hF hT
                    refine Rg.takeP (i := 3) hE rfl (by kernel_rfl) (runs_plain rfl) (Gives.p hE rfl) rfl (tw_sel (fun _ => hS) (fun _ => (hS.dropAt 5))) ?_; clear hE a; intro a hE
                    obtain ⟨x199, hx200, hq170⟩ := bindS hq170
                    obtain ⟨hi201, hlt202, hy203⟩ := gx_some hx200
                    obtain ⟨a204, c205, cs206, hd207, hev208⟩ := h146.at hy203
                    refine Rg.takeP (i := 4) hE rfl (by kernel_rfl) (runs_plain rfl) (Gives.idx hE ((((k98 : Nat) : Int)).toNat) rfl rfl sl25 hi201 (by have := hn147; omega) (hS.nAok 5 rfl (by have := hn147; omega : (((k98 : Nat) : Int)).toNat < x85.length))) rfl (tw_sel (fun _ => hS) (fun _ => (hS.dropAt 5))) ?_; clear hE a; intro a hE
                    have hT := tw_sel (A := fun w => St w s (vecC 3 1 a149 c150 q148.length cs153 :: pt b94 (.cells #[.map (some b93)] 124 (0, 0)) :: mapC keyI.f (Value.int .i64) b93 q155 :: pt b92 (.cells #[.slice a149 q148.length c150] 44 (0, 0)) :: pt b91 (.cells #[.slice (some ⟨b87, 0, none⟩) x85.length x85.length] 25 (0, 0)) :: nestC 44 3 1 (some ⟨b87, 0, none⟩) x85.length x85.length ds145 :: pt b58 (.cells #[.map (some b57)] 121 (0, 0)) :: mapC keyFleetAbsence.f Value.bool b57 q70 :: pt b52 (.cells (FleetLimits.cells x2).toArray 24 (0, 0)) :: pt b51 (.cells #[.slice a0 x0.length c0] 22 (0, 0)) :: R)) (B := fun w => St w s (vecC 3 1 a149 c150 q148.length cs153 :: pt b94 (.cells #[.map (some b93)] 124 (0, 0)) :: mapC keyI.f (Value.int .i64) b93 q155 :: pt b92 (.cells #[.slice a149 q148.length c150] 44 (0, 0)) :: pt b91 (.cells #[.slice (some ⟨b87, 0, none⟩) x85.length x85.length] 25 (0, 0)) :: pt b58 (.cells #[.map (some b57)] 121 (0, 0)) :: mapC keyFleetAbsence.f Value.bool b57 q70 :: pt b52 (.cells (FleetLimits.cells x2).toArray 24 (0, 0)) :: pt b51 (.cells #[.slice a0 x0.length c0] 22 (0, 0)) :: R)) (w := _) (x := true) (y := true) (fun _ => hS) (fun _ => (hS.dropAt 5))
                    have hF := hS; replace hS := hS
                    refine Rg.take (i := 5) true rfl hE rfl (by kernel_rfl) (runs_plain rfl) (Gives.load1 (v := .slice a204 x199.length c205) hE rfl (fun w h => St.nSees h 5 rfl hd207) ty44) rfl hT ?_; clear hE a; intro a hE
                    replace hS := hF; clear hF hT
                    refine Rg.takeP (i := 6) hE rfl (by kernel_rfl) (runs_plain rfl) (Gives.p hE rfl) rfl (tw_sel (fun _ => hS) (fun _ => (hS.dropAt 5))) ?_; clear hE a; intro a hE
                    refine Rg.one (i := 7) true true rfl (by kernel_rfl) (by kernel_rfl) (by kernel_rfl) ?_
                    refine WL.lit hE hS (e := 3) (es := 1) (vs := [(0, .int .i64 x133)]) (cs := [.int .i64 x133]) (runs_plain rfl) rfl (by kernel_rfl) rfl ?_; clear hE hS a w; intro b209 a w hE hS
                    refine WL.nil ?_
                    refine ⟨⟨fun _ => (hS.tail), fun _ => ((hS.tail).dropAt 5)⟩, ?_⟩
                    refine Rg.one (i := 8) false true rfl (by kernel_rfl) (by kernel_rfl) (by kernel_rfl) ?_
                    replace hS := hS.borrowM 6 rfl hd207
                    replace hS := hS.front 1 rfl
                    obtain ⟨x211, hx212, hq170⟩ := bindS hq170
                    refine WL.appD hE hS 0 (m := 1) (runs_plain rfl) rfl rfl rfl ap44 rfl hev208 (rfl) (xs := [x133]) (Ev.cons (c1 := [.int .i64 x133]) rfl rfl (Ev.nil)) rfl rfl hx212 rfl ?_; clear hE hS a w; intro a213 c214 cs215 a w h216 hE hS
                    refine WL.nil ?_
                    refine ⟨⟨fun h => absurd h (by decide), fun _ => ((hS.tail).dropAt 5)⟩, ?_⟩
                    obtain ⟨_, hx217, hq170⟩ := bindS hq170
                    obtain ⟨h218, h219⟩ := ix_some hx217
                    refine Rg.takeP (i := 9) hE rfl (by kernel_rfl) (runs_plain rfl) (Gives.idx hE ((((k98 : Nat) : Int)).toNat) rfl rfl sl25 h218 (by have := hn147; omega) (hS.hAok 6 rfl (by have := hn147; omega : (((k98 : Nat) : Int)).toNat < x85.length))) rfl (tw_sel (fun h => absurd h (by decide)) (fun _ => ((hS.tail).dropAt 5))) ?_; clear hE a; intro a hE
                    refine Rg.one (i := 10) false true rfl (by kernel_rfl) (by kernel_rfl) (by kernel_rfl) ?_
                    obtain ⟨x220, hx221, hq170⟩ := bindS hq170
                    refine WL.storeND hE hS 5 rfl (runs_plain rfl) rfl rfl ty44 h146 hn147 (by have := (sx_some hx221).1; omega) hx221 h216 (rfl) rfl ?_; clear hE hS a w; intro ds222 a w h223 hn224 hE hS
                    refine WL.nil ?_
                    refine ⟨⟨fun h => absurd h (by decide), fun _ => (hS.dropAt 5)⟩, ?_⟩
                    refine Rg.done (by kernel_rfl) ?_
                    subst hK198
                    subst hK189
                    exact ⟨x220, q148, q155, ds222, a149, c150, q148.length, cs153, Option.some.inj hq170, h223, hn224, h151, rfl, hE.pick _ ⟨rfl, rfl, rfl, rfl, rfl, rfl, rfl, rfl, rfl, rfl, rfl, rfl, rfl, trivial⟩, hS⟩
                · clear hE hS a w; rintro a w ⟨q174, q181, q188, ds178, a182, c183, n185, cs186, rfl, h179, hn180, h184, rfl, hE, hS⟩
                  dsimp only at hq130
                  refine W.region ?_
                  refine WL.vS hS hE (runs_plain rfl) (Gives.inc hE rfl (by have := h129.small; omega)) rfl ?_; clear hE a; intro a hE
                  refine WL.vS hS hE (runs_plain rfl) (Gives.p hE rfl) rfl ?_; clear hE a; intro a hE
                  refine WL.nil ?_
                  subst hK156
                  exact ⟨rest134.length, Nat.lt_succ_self _, rest134, k132 + 1, q174, q181, q188, ds178, a182, c183, q181.length, cs186, rfl, hd135, hq130, h179, hn180, h184, rfl, hE.pick _ ⟨rfl, rfl, rfl, rfl, rfl, rfl, rfl, rfl, rfl, rfl, rfl, rfl, rfl, trivial⟩, hS⟩
            · clear hE hS a w; rintro a w ⟨q141, q148, q155, ds145, a149, c150, n152, cs153, rfl, h146, hn147, h151, rfl, hE, hS⟩
              dsimp only at hq96
              refine W.region ?_
              refine WL.vS hS hE (runs_plain rfl) (Gives.inc hE rfl (by have := h1.small; omega)) rfl ?_; clear hE a; intro a hE
              refine WL.vS hS hE (runs_plain rfl) (Gives.p hE rfl) rfl ?_; clear hE a; intro a hE
              refine WL.nil ?_
              subst hK122
              exact ⟨rest100.length, Nat.lt_succ_self _, rest100, k98 + 1, q141, q148, q155, ds145, a149, c150, q148.length, cs153, rfl, hd101, hq96, h146, hn147, h151, rfl, hE.pick _ ⟨rfl, rfl, rfl, rfl, rfl, rfl, rfl, rfl, rfl, trivial⟩, hS⟩
        · clear hE hS a w; rintro a w ⟨q107, q114, q121, ds111, a115, c116, n118, cs119, rfl, h112, hn113, h117, rfl, hE, hS⟩
          dsimp only at hr
          refine W.seq ?_
          refine W.region ?_
          refine WL.vS hS hE (runs_plain rfl) (Gives.loadB hE 3 rfl rfl rfl ty44) rfl ?_; clear hE a; intro a hE
          obtain ⟨q228, hq229, hr⟩ := bindS hr
          refine WL.fnq hE (itSort_ok hS h117 rfl hq229) (runs_plain rfl) bd88 rfl rfl rfl ?_
          clear hE hS; rintro e w ⟨cs226, rfl, h227, hn230, hS⟩; refine ⟨_, rfl, ?_⟩; clear a; intro a hE
          refine WL.nil ?_
          refine W.seq ?_
          refine W.region ?_
          refine WL.alloc hE hS (runs_plain rfl) zr25 rfl ?_; clear hE hS a w; intro b231 a w hE hS
          refine WL.nil ?_
          refine W.seq ?_
          refine W.region ?_
          refine WL.alloc hE hS (runs_plain rfl) zr44 rfl ?_; clear hE hS a w; intro b232 a w hE hS
          refine WL.alloc hE hS (runs_plain rfl) zr44 rfl ?_; clear hE hS a w; intro b233 a w hE hS
          refine WL.nil ?_
          refine W.seq ?_
          refine W.region ?_
          refine WL.alloc hE hS (runs_plain rfl) zr66 rfl ?_; clear hE hS a w; intro b234 a w hE hS
          refine WL.nil ?_
          refine W.seq ?_
          refine W.region ?_
          have hF := hS.calmF (Sg.Le.refl s) 9 rfl h112; clear hS; obtain ⟨s235, hle236, hS, h237⟩ := hF
          replace h227 := Ev.mono RI.mono hle236 h227
          replace h0 := Sl.mono RFleetShift.mono hle236 h0
          replace hS := hS.vecNil 3 1
          refine WL.vS hS hE (runs_plain rfl) (Gives.mkfn hE (vs := [.pointer (some ⟨b231, 0, none⟩), .pointer (some ⟨b233, 0, none⟩), .pointer (some ⟨b232, 0, none⟩), .pointer (some ⟨b92, 0, none⟩), .pointer (some ⟨b91, 0, none⟩), .pointer (some ⟨b94, 0, none⟩), .pointer (some ⟨b58, 0, none⟩), .pointer (some ⟨b51, 0, none⟩), .pointer (some ⟨b52, 0, none⟩), .pointer (some ⟨b234, 0, none⟩)]) rfl) rfl ?_; clear hE a; intro a hE
          refine WL.storeI hE hS 2 rfl [.func (.func 89) #[] #[.pointer (some ⟨b231, 0, none⟩), .pointer (some ⟨b233, 0, none⟩), .pointer (some ⟨b232, 0, none⟩), .pointer (some ⟨b92, 0, none⟩), .pointer (some ⟨b91, 0, none⟩), .pointer (some ⟨b94, 0, none⟩), .pointer (some ⟨b58, 0, none⟩), .pointer (some ⟨b51, 0, none⟩), .pointer (some ⟨b52, 0, none⟩), .pointer (some ⟨b234, 0, none⟩)]] (runs_plain rfl) rfl rfl rfl ty66 rfl rfl rfl rfl ?_; clear hE hS a w; intro a w hE hS
          refine WL.nil ?_
          refine W.seq ?_
          refine W.region ?_
          refine WL.vS hS hE (runs_plain rfl) (Gives.loadB hE 2 rfl rfl rfl ty66) rfl ?_; clear hE a; intro a hE
          obtain ⟨q240, hq241, hr⟩ := bindS hr
          replace hS := hS.front 12 rfl
          replace hS := hS.front 9 rfl
          replace hS := hS.front 3 rfl
          replace hS := hS.front 8 rfl
          replace hS := hS.front 4 rfl
          replace hS := hS.front 5 rfl
          replace hS := hS.front 13 rfl
          replace hS := hS.front 14 rfl
          replace hS := hS.front 14 rfl
          replace hS := hS.front 12 rfl
          replace hS := hS.front 14 rfl
          replace hS := hS.front 14 rfl
          replace hS := hS.front 13 rfl
          replace hS := hS.front 13 rfl
          replace hS := hS.front 14 rfl
          have hc_ := FleetStandIns_1_z_ok (u := s) (y8 := x2) hS Sl.nil (fun _ => rfl) (Ev.nil) (rfl) Sl.nil h227 hn230 h237 hn113 h0 hle236 hq241
          refine WL.fnw hE (hc_) rfl (runs_plain rfl) bd89 rfl rfl rfl ?_
          clear hE hS hc_; rintro e w ⟨cs242, a245, c246, a249, c250, n251, cs252, a254, c255, s257, rfl, hle258, h243, hn244, h247, h253, rfl, h256, hS⟩; refine ⟨_, rfl, ?_⟩; clear a; intro a hE
          replace h0 := Sl.mono RFleetShift.mono hle258 h0
          replace h227 := Ev.mono RI.mono hle258 h227
          replace h237 := Ev.mono RF.mono hle258 h237
          refine WL.nil ?_
          refine W.seq ?_
          refine W.seq ?_
          refine W.region ?_
          refine WL.vS hS hE (runs_plain rfl) (Gives.loadB hE 0 rfl rfl rfl ty25) rfl ?_; clear hE a; intro a hE
          refine WL.vS hS hE (runs_plain rfl) (Gives.len hE rfl sl25) rfl ?_; clear hE a; intro a hE
          refine WL.vS hS hE (runs_plain rfl) (Gives.p hE rfl) rfl ?_; clear hE a; intro a hE
          refine WL.nil ?_
          obtain ⟨q259, hq260, hr⟩ := bindS hr
          obtain ⟨he261, hp262, ho263, hm264⟩ := srtRows_some hq260
          refine W.cut (fun a w => ∃ (s265 : Sg), s.Le s265 ∧ Sl 1 (RF s) s265 a245 c246 (q240.2.1.map isort) ∧ Sl 1 (RI .i64) s265 a254 c255 q240.2.2.2 ∧ Rep a 127 [(23, .pointer (some ⟨b231, 0, none⟩)), (24, .pointer (some ⟨b232, 0, none⟩))] ∧ St w s265 (pt b231 (.cells #[.slice a245 q240.2.1.length c246] 25 (0, 0)) :: pt b233 (.cells #[.slice a249 q240.2.2.1.length c250] 44 (0, 0)) :: pt b232 (.cells #[.slice a254 q240.2.2.2.length c255] 44 (0, 0)) :: pt b92 (.cells #[.slice a115 q114.length c116] 44 (0, 0)) :: pt b91 (.cells #[.slice (some ⟨b87, 0, none⟩) x85.length x85.length] 25 (0, 0)) :: pt b94 (.cells #[.map (some b93)] 124 (0, 0)) :: pt b58 (.cells #[.map (some b57)] 121 (0, 0)) :: pt b51 (.cells #[.slice a0 x0.length c0] 22 (0, 0)) :: pt b52 (.cells #[.int .i64 x2.Change, .int .i64 x2.Long, .int .i64 x2.Work, .int .i64 x2.After, .int .i64 x2.Break, .int .i64 x2.Rest, .int .i64 x2.Row] 24 (0, 0)) :: pt b234 (.cells #[.func (.func 89) #[] #[.pointer (some ⟨b231, 0, none⟩), .pointer (some ⟨b233, 0, none⟩), .pointer (some ⟨b232, 0, none⟩), .pointer (some ⟨b92, 0, none⟩), .pointer (some ⟨b91, 0, none⟩), .pointer (some ⟨b94, 0, none⟩), .pointer (some ⟨b58, 0, none⟩), .pointer (some ⟨b51, 0, none⟩), .pointer (some ⟨b52, 0, none⟩), .pointer (some ⟨b234, 0, none⟩)]] 66 (0, 0)) :: vecC 3 1 a249 c250 q240.2.2.1.length cs252 :: vecC 3 1 a115 c116 q114.length cs226 :: vecC 44 1 (some ⟨b87, 0, none⟩) x85.length x85.length cs242 :: mapC keyI.f (Value.int .i64) b93 q121 :: mapC keyFleetAbsence.f Value.bool b57 q70 :: R)) ?_ ?_
          · refine W.block ?_
            refine W.loop (fun m a w => ∃ (rest267 : Nat) (k268 : Nat) (s265 : Sg), rest267 = m ∧ k268 + rest267 = q240.2.1.length ∧ s.Le s265 ∧ Sl 1 (RF s) s265 a245 c246 (partS k268 q240.2.1) ∧ Sl 1 (RI .i64) s265 a254 c255 q240.2.2.2 ∧ Rep a 127 [(23, .pointer (some ⟨b231, 0, none⟩)), (24, .pointer (some ⟨b232, 0, none⟩)), (116, .slice a245 q240.2.1.length c246), (117, .int .i64 ((q240.2.1).length : Int)), (118, .int .i64 ((k268 : Nat) : Int))] ∧ St w s265 (pt b231 (.cells #[.slice a245 q240.2.1.length c246] 25 (0, 0)) :: pt b233 (.cells #[.slice a249 q240.2.2.1.length c250] 44 (0, 0)) :: pt b232 (.cells #[.slice a254 q240.2.2.2.length c255] 44 (0, 0)) :: pt b92 (.cells #[.slice a115 q114.length c116] 44 (0, 0)) :: pt b91 (.cells #[.slice (some ⟨b87, 0, none⟩) x85.length x85.length] 25 (0, 0)) :: pt b94 (.cells #[.map (some b93)] 124 (0, 0)) :: pt b58 (.cells #[.map (some b57)] 121 (0, 0)) :: pt b51 (.cells #[.slice a0 x0.length c0] 22 (0, 0)) :: pt b52 (.cells #[.int .i64 x2.Change, .int .i64 x2.Long, .int .i64 x2.Work, .int .i64 x2.After, .int .i64 x2.Break, .int .i64 x2.Rest, .int .i64 x2.Row] 24 (0, 0)) :: pt b234 (.cells #[.func (.func 89) #[] #[.pointer (some ⟨b231, 0, none⟩), .pointer (some ⟨b233, 0, none⟩), .pointer (some ⟨b232, 0, none⟩), .pointer (some ⟨b92, 0, none⟩), .pointer (some ⟨b91, 0, none⟩), .pointer (some ⟨b94, 0, none⟩), .pointer (some ⟨b58, 0, none⟩), .pointer (some ⟨b51, 0, none⟩), .pointer (some ⟨b52, 0, none⟩), .pointer (some ⟨b234, 0, none⟩)]] 66 (0, 0)) :: vecC 3 1 a249 c250 q240.2.2.1.length cs252 :: vecC 3 1 a115 c116 q114.length cs226 :: vecC 44 1 (some ⟨b87, 0, none⟩) x85.length x85.length cs242 :: mapC keyI.f (Value.int .i64) b93 q121 :: mapC keyFleetAbsence.f Value.bool b57 q70 :: R)) (m := q240.2.1.length) ⟨q240.2.1.length, 0, s257, rfl, by omega, (Sg.Le.trans hle236 hle258), (by rw [partS_zero]; exact h247), h256, hE.pick _ ⟨rfl, rfl, rfl, rfl, rfl, trivial⟩, hS⟩ ?_
            clear hE hS a w; rintro m266 a w ⟨rest267, k268, s265, rfl, hd269, hle270, h271, h272, hE, hS⟩
            refine W.gen fun K273 hK274 => ?_
            rcases rest267 with _ | rest267
            · skip
              refine W.seq ?_
              refine W.region ?_
              refine WL.vS hS hE (runs_plain rfl) (Gives.p hE rfl) rfl ?_; clear hE a; intro a hE
              refine WL.nil ?_
              refine W.seq ?_
              refine W.condF hE rfl (decide_eq_false (by omega)) ?_
              subst hK274
              refine W.exit rfl ?_
              exact ⟨s265, hle270, (by rw [← partS_all q240.2.1 (k := k268) (by omega)]; exact h271), h272, hE.pick _ ⟨rfl, rfl, trivial⟩, hS⟩
            · refine W.seq ?_
              refine W.region ?_
              refine WL.vS hS hE (runs_plain rfl) (Gives.p hE rfl) rfl ?_; clear hE a; intro a hE
              refine WL.nil ?_
              refine W.seq ?_
              refine W.condT hE rfl (decide_eq_true (by omega)) ?_
              refine W.skip ?_
              refine W.seq ?_
              refine W.block ?_
              refine W.seq ?_
              refine W.region ?_
              obtain ⟨x275, hx276⟩ : ∃ x, q240.2.1[k268]? = some x := ⟨_, List.getElem?_eq_getElem (by omega)⟩
              obtain ⟨vs277, hv278, hat279, a280, c281, rfl, h282⟩ := h271.el k268 x275 (partS_at hx276)
              refine WL.vS hS hE (runs_plain rfl) (Gives.idx hE k268 rfl rfl sl25 rfl (by omega) (h271.aok (k := k268) (by rw [partS_length]; omega))) rfl ?_; clear hE a; intro a hE
              refine WL.vS hS hE (runs_plain rfl) (Gives.load1 hE rfl (fun w h => h.sees hat279) ty44) rfl ?_; clear hE a; intro a hE
              refine WL.vS hS hE (runs_plain rfl) (Gives.p hE rfl) rfl ?_; clear hE a; intro a hE
              refine WL.nil ?_
              refine W.region ?_
              refine WL.vS hS hE (runs_plain rfl) (Gives.p hE rfl) rfl ?_; clear hE a; intro a hE
              have hc_ := itRow_ok hS hle270 h271 h272 hx276 hat279 h282 hp262 ho263 hm264
              refine WL.fnq hE (hc_) (runs_plain rfl) bd88 rfl rfl rfl ?_
              clear hE hS hc_; rintro e w ⟨s265n, rfl, hle270n, h271n, h272n, hS⟩; refine ⟨_, rfl, ?_⟩; clear a; intro a hE
              refine WL.nil ?_
              refine W.region ?_
              refine WL.vS hS hE (runs_plain rfl) (Gives.inc hE rfl (by have := h247.small; omega)) rfl ?_; clear hE a; intro a hE
              refine WL.vS hS hE (runs_plain rfl) (Gives.p hE rfl) rfl ?_; clear hE a; intro a hE
              refine WL.nil ?_
              subst hK274
              exact ⟨rest267, Nat.lt_succ_self _, rest267, k268 + 1, s265n, rfl, (by omega), hle270n, h271n, h272n, hE.pick _ ⟨rfl, rfl, rfl, rfl, rfl, trivial⟩, hS⟩
          · clear hE hS a w; rintro a w ⟨s265, hle270, h271, h272, hE, hS⟩
            have hs283 : q259.length = q240.2.1.length := by rw [he261]; simp
            rw [← he261] at h271; rw [← hs283] at hS
            have h284 := Sl.to (fun _ _ h => RF.rl h) h271
            refine W.seq ?_
            refine W.regionQ (C := fun w => St w s265 (pt b231 (.cells #[.slice a245 q259.length c246] 25 (0, 0)) :: pt b233 (.cells #[.slice a249 q240.2.2.1.length c250] 44 (0, 0)) :: pt b232 (.cells #[.slice a254 q240.2.2.2.length c255] 44 (0, 0)) :: pt b92 (.cells #[.slice a115 q114.length c116] 44 (0, 0)) :: pt b91 (.cells #[.slice (some ⟨b87, 0, none⟩) x85.length x85.length] 25 (0, 0)) :: pt b94 (.cells #[.map (some b93)] 124 (0, 0)) :: pt b58 (.cells #[.map (some b57)] 121 (0, 0)) :: pt b51 (.cells #[.slice a0 x0.length c0] 22 (0, 0)) :: pt b52 (.cells #[.int .i64 x2.Change, .int .i64 x2.Long, .int .i64 x2.Work, .int .i64 x2.After, .int .i64 x2.Break, .int .i64 x2.Rest, .int .i64 x2.Row] 24 (0, 0)) :: pt b234 (.cells #[.func (.func 89) #[] #[.pointer (some ⟨b231, 0, none⟩), .pointer (some ⟨b233, 0, none⟩), .pointer (some ⟨b232, 0, none⟩), .pointer (some ⟨b92, 0, none⟩), .pointer (some ⟨b91, 0, none⟩), .pointer (some ⟨b94, 0, none⟩), .pointer (some ⟨b58, 0, none⟩), .pointer (some ⟨b51, 0, none⟩), .pointer (some ⟨b52, 0, none⟩), .pointer (some ⟨b234, 0, none⟩)]] 66 (0, 0)) :: vecC 3 1 a249 c250 q240.2.2.1.length cs252 :: vecC 3 1 a115 c116 q114.length cs226 :: vecC 44 1 (some ⟨b87, 0, none⟩) x85.length x85.length cs242 :: mapC keyI.f (Value.int .i64) b93 q121 :: mapC keyFleetAbsence.f Value.bool b57 q70 :: R)) mixed (by kernel_rfl) hS.drew ?_
            refine QL.v hE (runs_plain rfl) (Gives.loadB hE 0 rfl rfl rfl ty25) rfl ?_; clear hE a; intro a hE
            refine QL.v hE (runs_plain rfl) (Gives.loadB hE 2 rfl rfl rfl ty44) rfl ?_; clear hE a; intro a hE
            refine QL.v hE (runs_plain rfl) (Gives.p hE rfl) rfl ?_; clear hE a; intro a hE
            refine QL.v hE (runs_plain rfl) (Gives.p hE rfl) rfl ?_; clear hE a; intro a hE
            refine QL.v hE (runs_plain rfl) (Gives.p hE rfl) rfl ?_; clear hE a; intro a hE
            refine QL.nil ?_; clear hS w; intro w hS
            refine W.ret ?_
            refine finG (fn := Try.f33) (rs := [.tmp 8, .tmp 9, .tmp 10]) (vs := [_, _, _]) hE rfl ⟨rfl, rfl, rfl, trivial⟩ ?_
            obtain rfl := Option.some.inj hr
            replace hS := hS.tail
            replace hS := hS.tail
            replace hS := hS.tail
            replace hS := hS.tail
            replace hS := hS.tail
            replace hS := hS.tail
            replace hS := hS.tail
            replace hS := hS.tail
            replace hS := hS.tail
            replace hS := hS.tail
            replace hS := hS.tail
            replace hS := hS.tail
            replace hS := hS.tail
            replace hS := hS.tail
            replace hS := hS.tail
            exact ⟨a245, c246, a254, c255, s265, rfl, hle270, h284, h272, hS⟩
set_option maxHeartbeats 8000000 in
theorem Fishref2within_ok  {w : World} {s : Sg} {R : List HP} {x0 : Int} {x1 : Int} {x2 : Int} (hS : St w s (R))  {r : Bool} (hr : Fishref2within x0 x1 x2 = r) :
    Calls Try.prog 45 [.int .i64 x0, .int .i64 x1, .int .i64 x2].toArray w (fun e w => e = .returned (.bool r) ∧ St w s (R)) := by
  refine enter Try.func45 rfl rfl rfl fun a hE => ?_
  rw [Fishref2within] at hr
  refine W.seq ?_
  refine W.region ?_
  refine WL.vS hS hE (runs_plain rfl) (Gives.p hE rfl) rfl ?_; clear hE a; intro a hE
  refine WL.nil ?_
  refine W.seq ?_
  obtain ⟨q52, hq51, hr⟩ := bndS hr
  refine W.cut (fun a w => ∃ (q55 : Bool), q55 = q52 ∧ Rep a 15 [(6, .bool q55)] ∧ St w s (R)) ?_ ?_
  · refine W.gen fun K56 hK56 => ?_
    refine W.region ?_
    refine WL.vS hS hE (runs_plain rfl) (Gives.p hE rfl) rfl ?_; clear hE a; intro a hE
    refine WL.vS hS hE (runs_plain rfl) (Gives.p hE rfl) rfl ?_; clear hE a; intro a hE
    refine WL.vS hS hE (runs_plain rfl) (Gives.p hE rfl) rfl ?_; clear hE a; intro a hE
    refine WL.vS hS hE (runs_plain rfl) (Gives.p hE rfl) rfl ?_; clear hE a; intro a hE
    rcases Bool.eq_false_or_eq_true (decide (x0 ≥ x1)) with hg57 | hg57
    · replace hq51 := iteT hg57 hq51
      refine WL.vS hS hE (runs_if hE rfl rfl rfl hg57) (Gives.p hE rfl) rfl ?_; clear hE a; intro a hE
      refine WL.vS hS hE (runs_if hE rfl rfl rfl hg57) (Gives.p hE rfl) rfl ?_; clear hE a; intro a hE
      refine WL.vS hS hE (runs_if hE rfl rfl rfl hg57) (Gives.p hE rfl) rfl ?_; clear hE a; intro a hE
      refine WL.vS hS hE (runs_plain rfl) (Gives.pickT hE rfl hg57 rfl) rfl ?_; clear hE a; intro a hE
      refine WL.vS hS hE (runs_plain rfl) (Gives.p hE rfl) rfl ?_; clear hE a; intro a hE
      refine WL.nil ?_
      subst hK56
      exact ⟨decide (x0 ≤ x2), hq51, hE.pick _ ⟨rfl, trivial⟩, hS⟩
    · replace hq51 := iteF hg57 hq51
      refine WL.no hE (runs_not hE rfl rfl rfl (by rw [hg57]; decide)) rfl ?_; clear hE a; intro a hE
      refine WL.no hE (runs_not hE rfl rfl rfl (by rw [hg57]; decide)) rfl ?_; clear hE a; intro a hE
      refine WL.no hE (runs_not hE rfl rfl rfl (by rw [hg57]; decide)) rfl ?_; clear hE a; intro a hE
      refine WL.vS hS hE (runs_plain rfl) (Gives.pickF hE rfl hg57 rfl) rfl ?_; clear hE a; intro a hE
      refine WL.vS hS hE (runs_plain rfl) (Gives.p hE rfl) rfl ?_; clear hE a; intro a hE
      refine WL.nil ?_
      subst hK56
      exact ⟨false, hq51, hE.pick _ ⟨rfl, trivial⟩, hS⟩
  · clear hE hS a w; rintro a w ⟨q55, rfl, hE, hS⟩
    refine W.ret ?_
    refine finG (fn := Try.f45) (rs := [.tmp 6]) (vs := [_]) hE rfl ⟨rfl, trivial⟩ ?_
    subst hr
    exact ⟨rfl, hS⟩
set_option maxHeartbeats 8000000 in
theorem Fishref2ShiftsFault_ok  {w : World} {s : Sg} {R : List HP} {x0 : List FleetShift} {a0 : Option Addr} {c0 : Nat} (hS : St w s (R)) (h0 : Sl 3 RFleetShift s a0 c0 x0) {r : Int} (hr : Fishref2ShiftsFault x0 = r) :
    Calls Try.prog 43 [.slice a0 x0.length c0].toArray w (fun e w => e = .returned (.int .i64 r) ∧ St w s (R)) := by
  refine enter Try.func43 rfl rfl rfl fun a hE => ?_
  rw [Fishref2ShiftsFault] at hr
  refine W.seq ?_
  refine W.region ?_
  refine WL.vS hS hE (runs_plain rfl) (Gives.p hE rfl) rfl ?_; clear hE a; intro a hE
  refine WL.nil ?_
  refine W.seq ?_
  refine W.seq ?_
  refine W.region ?_
  refine WL.vS hS hE (runs_plain rfl) (Gives.p hE rfl) rfl ?_; clear hE a; intro a hE
  refine WL.vS hS hE (runs_plain rfl) (Gives.len hE rfl sl22) rfl ?_; clear hE a; intro a hE
  refine WL.vS hS hE (runs_plain rfl) (Gives.p hE rfl) rfl ?_; clear hE a; intro a hE
  refine WL.nil ?_
  refine W.cond hE rfl (fun hc51 => ?_) (fun hc51 => ?_)
  · replace hr := iteT hc51 hr
    refine W.seq ?_
    refine W.region ?_
    refine WL.vS hS hE (runs_plain rfl) (Gives.p hE rfl) rfl ?_; clear hE a; intro a hE
    refine WL.nil ?_
    refine W.ret ?_
    refine finG (fn := Try.f43) (rs := [.tmp 2]) (vs := [_]) hE rfl ⟨rfl, trivial⟩ ?_
    subst hr
    exact ⟨rfl, hS⟩
  · replace hr := iteF hc51 hr
    refine W.skip ?_
    refine W.seq ?_
    refine W.seq ?_
    refine W.region ?_
    refine WL.vS hS hE (runs_plain rfl) (Gives.p hE rfl) rfl ?_; clear hE a; intro a hE
    refine WL.vS hS hE (runs_plain rfl) (Gives.len hE rfl sl22) rfl ?_; clear hE a; intro a hE
    refine WL.vS hS hE (runs_plain rfl) (Gives.p hE rfl) rfl ?_; clear hE a; intro a hE
    refine WL.nil ?_
    obtain ⟨q53, hq52, hr⟩ := bndS hr
    refine W.cut (fun a w => (.next ()) = q53 ∧ Rep a 36 [] ∧ St w s (R)) ?_ ?_
    · refine W.block ?_
      refine W.loop (fun m a w => ∃ (rest56 : List FleetShift) (k54 : Nat), rest56.length = m ∧ x0.drop k54 = rest56 ∧ Fishref2ShiftsFault.loop1 rest56 = q53 ∧ Rep a 36 [(8, .slice a0 x0.length c0), (9, .int .i64 ((x0).length : Int)), (10, .int .i64 ((k54 : Nat) : Int))] ∧ St w s (R)) (m := x0.length) ⟨x0, 0, rfl, rfl, hq52, hE.pick _ ⟨rfl, rfl, rfl, trivial⟩, hS⟩ ?_
      clear hE hS a w hq52; rintro m60 a w ⟨rest56, k54, rfl, hd57, hq52, hE, hS⟩
      refine W.gen fun K63 hK63 => ?_
      rcases rest56 with _ | ⟨x55, rest56⟩
      · have hlt58 := drop_nil hd57
        refine W.seq ?_
        refine W.region ?_
        refine WL.vS hS hE (runs_plain rfl) (Gives.p hE rfl) rfl ?_; clear hE a; intro a hE
        refine WL.nil ?_
        refine W.seq ?_
        refine W.condF hE rfl (decide_eq_false (by omega)) ?_
        subst hK63
        refine W.exit rfl ?_
        exact ⟨hq52, hE.pick _ trivial, hS⟩
      · obtain ⟨hlt58, hx59, hd57⟩ := drop_cons hd57
        rw [Fishref2ShiftsFault.loop1] at hq52
        refine W.seq ?_
        refine W.region ?_
        refine WL.vS hS hE (runs_plain rfl) (Gives.p hE rfl) rfl ?_; clear hE a; intro a hE
        refine WL.nil ?_
        refine W.seq ?_
        refine W.condT hE rfl (decide_eq_true (by omega)) ?_
        refine W.skip ?_
        refine W.seq ?_
        refine W.block ?_
        refine W.seq ?_
        refine W.region ?_
        obtain ⟨cs64, hl65, hR66, hat67⟩ := h0.at hx59
        subst hR66
        refine WL.vS hS hE (runs_plain rfl) (Gives.idx hE k54 rfl rfl sl22 rfl hlt58 (h0.aok hlt58)) rfl ?_; clear hE a; intro a hE
        refine WL.vS hS hE (runs_plain rfl) (Gives.loadA hE rfl (fun w h => hat67 w _ h) ty126) rfl ?_; clear hE a; intro a hE
        refine WL.alloc hE hS (runs_plain rfl) zr126 rfl ?_; clear hE hS a w; intro b68 a w hE hS
        refine WL.storeI hE hS 0 rfl (FleetShift.cells x55) (runs_plain rfl) rfl rfl rfl ty126 rfl rfl rfl rfl ?_; clear hE hS a w; intro a w hE hS
        refine WL.nil ?_
        refine W.seq ?_
        refine W.seq ?_
        obtain ⟨q70, hq69, hq52⟩ := bndS hq52
        refine W.cut (fun a w => ∃ (q73 : Bool), q73 = q70 ∧ Rep a 36 [(4, .pointer (some ⟨b68, 0, none⟩)), (8, .slice a0 x0.length c0), (9, .int .i64 ((x0).length : Int)), (10, .int .i64 ((k54 : Nat) : Int)), (29, .bool q73)] ∧ St w s (pt b68 (.cells (FleetShift.cells x55).toArray 126 (0, 0)) :: R)) ?_ ?_
        · refine W.gen fun K74 hK74 => ?_
          refine W.region ?_
          refine WL.vS hS hE (runs_plain rfl) (Gives.fld hE rfl fl126_0) rfl ?_; clear hE a; intro a hE
          refine WL.vS hS hE (runs_plain rfl) (Gives.loadB hE 0 rfl rfl rfl ty3) rfl ?_; clear hE a; intro a hE
          refine WL.fnq hE (Fishref2within_ok hS  rfl (r := Fishref2within x55.Day 0 6)) (runs_plain rfl) bd45 rfl rfl rfl ?_
          clear hE hS; rintro e w ⟨rfl, hS⟩; refine ⟨_, rfl, ?_⟩; clear a; intro a hE
          refine WL.vS hS hE (runs_plain rfl) (Gives.p hE rfl) rfl ?_; clear hE a; intro a hE
          refine WL.vS hS hE (runs_plain rfl) (Gives.p hE rfl) rfl ?_; clear hE a; intro a hE
          rcases Bool.eq_false_or_eq_true (!(Fishref2within x55.Day 0 6)) with hg75 | hg75
          · replace hq69 := iteT hg75 hq69
            refine WL.no hE (runs_not hE rfl rfl rfl (by rw [hg75]; decide)) rfl ?_; clear hE a; intro a hE
            refine WL.no hE (runs_not hE rfl rfl rfl (by rw [hg75]; decide)) rfl ?_; clear hE a; intro a hE
            refine WL.no hE (runs_not hE rfl rfl rfl (by rw [hg75]; decide)) rfl ?_; clear hE a; intro a hE
            refine WL.no hE (runs_not hE rfl rfl rfl (by rw [hg75]; decide)) rfl ?_; clear hE a; intro a hE
            refine WL.vS hS hE (runs_plain rfl) (Gives.pickT hE rfl hg75 rfl) rfl ?_; clear hE a; intro a hE
            refine WL.vS hS hE (runs_plain rfl) (Gives.p hE rfl) rfl ?_; clear hE a; intro a hE
            refine WL.no hE (runs_not hE rfl rfl rfl (by decide)) rfl ?_; clear hE a; intro a hE
            refine WL.no hE (runs_not hE rfl rfl rfl (by decide)) rfl ?_; clear hE a; intro a hE
            refine WL.no hE (runs_not hE rfl rfl rfl (by decide)) rfl ?_; clear hE a; intro a hE
            refine WL.no hE (runs_not hE rfl rfl rfl (by decide)) rfl ?_; clear hE a; intro a hE
            refine WL.vS hS hE (runs_plain rfl) (Gives.pickT hE rfl rfl rfl) rfl ?_; clear hE a; intro a hE
            refine WL.nil ?_
            subst hK74
            exact ⟨true, hq69, hE.pick _ ⟨rfl, rfl, rfl, rfl, rfl, trivial⟩, hS⟩
          · replace hq69 := iteF hg75 hq69
            refine WL.vS hS hE (runs_if hE rfl rfl rfl hg75) (Gives.fld hE rfl fl126_1) rfl ?_; clear hE a; intro a hE
            refine WL.vS hS hE (runs_if hE rfl rfl rfl hg75) (Gives.loadB hE 0 rfl rfl rfl ty3) rfl ?_; clear hE a; intro a hE
            refine WL.fnq hE (Fishref2within_ok hS  rfl (r := Fishref2within x55.Start 0 28800)) (runs_if hE rfl rfl rfl hg75) bd45 rfl rfl rfl ?_
            clear hE hS; rintro e w ⟨rfl, hS⟩; refine ⟨_, rfl, ?_⟩; clear a; intro a hE
            refine WL.vS hS hE (runs_if hE rfl rfl rfl hg75) (Gives.p hE rfl) rfl ?_; clear hE a; intro a hE
            refine WL.vS hS hE (runs_plain rfl) (Gives.pickF hE rfl hg75 rfl) rfl ?_; clear hE a; intro a hE
            refine WL.vS hS hE (runs_plain rfl) (Gives.p hE rfl) rfl ?_; clear hE a; intro a hE
            rcases Bool.eq_false_or_eq_true (!(Fishref2within x55.Start 0 28800)) with hg76 | hg76
            · replace hq69 := iteT hg76 hq69
              refine WL.no hE (runs_not hE rfl rfl rfl (by rw [hg76]; decide)) rfl ?_; clear hE a; intro a hE
              refine WL.no hE (runs_not hE rfl rfl rfl (by rw [hg76]; decide)) rfl ?_; clear hE a; intro a hE
              refine WL.no hE (runs_not hE rfl rfl rfl (by rw [hg76]; decide)) rfl ?_; clear hE a; intro a hE
              refine WL.no hE (runs_not hE rfl rfl rfl (by rw [hg76]; decide)) rfl ?_; clear hE a; intro a hE
              refine WL.vS hS hE (runs_plain rfl) (Gives.pickT hE rfl hg76 rfl) rfl ?_; clear hE a; intro a hE
              refine WL.nil ?_
              subst hK74
              exact ⟨true, hq69, hE.pick _ ⟨rfl, rfl, rfl, rfl, rfl, trivial⟩, hS⟩
            · replace hq69 := iteF hg76 hq69
              refine WL.vS hS hE (runs_if hE rfl rfl rfl hg76) (Gives.fld hE rfl fl126_2) rfl ?_; clear hE a; intro a hE
              refine WL.vS hS hE (runs_if hE rfl rfl rfl hg76) (Gives.loadB hE 0 rfl rfl rfl ty3) rfl ?_; clear hE a; intro a hE
              refine WL.fnq hE (Fishref2within_ok hS  rfl (r := Fishref2within x55.End 0 28800)) (runs_if hE rfl rfl rfl hg76) bd45 rfl rfl rfl ?_
              clear hE hS; rintro e w ⟨rfl, hS⟩; refine ⟨_, rfl, ?_⟩; clear a; intro a hE
              refine WL.vS hS hE (runs_if hE rfl rfl rfl hg76) (Gives.p hE rfl) rfl ?_; clear hE a; intro a hE
              refine WL.vS hS hE (runs_plain rfl) (Gives.pickF hE rfl hg76 rfl) rfl ?_; clear hE a; intro a hE
              refine WL.nil ?_
              subst hK74
              exact ⟨!(Fishref2within x55.End 0 28800), hq69, hE.pick _ ⟨rfl, rfl, rfl, rfl, rfl, trivial⟩, hS⟩
        · clear hE hS a w; rintro a w ⟨q73, rfl, hE, hS⟩
          refine W.cond hE rfl (fun hc77 => ?_) (fun hc77 => ?_)
          · replace hq52 := iteT hc77 hq52
            refine W.seq ?_
            refine W.region ?_
            refine WL.vS hS hE (runs_plain rfl) (Gives.p hE rfl) rfl ?_; clear hE a; intro a hE
            refine WL.nil ?_
            refine W.ret ?_
            subst hK63
            rw [← hq52] at hr
            dsimp only at hr
            refine finG (fn := Try.f43) (rs := [.tmp 2]) (vs := [_]) hE rfl ⟨rfl, trivial⟩ ?_
            subst hr
            replace hS := hS.tail
            exact ⟨rfl, hS⟩
          · replace hq52 := iteF hc77 hq52
            refine W.skip ?_
            refine W.seq ?_
            refine W.region ?_
            refine WL.vS hS hE (runs_plain rfl) (Gives.fld hE rfl fl126_2) rfl ?_; clear hE a; intro a hE
            refine WL.vS hS hE (runs_plain rfl) (Gives.loadB hE 0 rfl rfl rfl ty3) rfl ?_; clear hE a; intro a hE
            refine WL.vS hS hE (runs_plain rfl) (Gives.fld hE rfl fl126_1) rfl ?_; clear hE a; intro a hE
            refine WL.vS hS hE (runs_plain rfl) (Gives.loadB hE 0 rfl rfl rfl ty3) rfl ?_; clear hE a; intro a hE
            refine WL.vS hS hE (runs_plain rfl) (Gives.p hE rfl) rfl ?_; clear hE a; intro a hE
            refine WL.nil ?_
            refine W.cond hE rfl (fun hc78 => ?_) (fun hc78 => ?_)
            · replace hq52 := iteT hc78 hq52
              refine W.seq ?_
              refine W.region ?_
              refine WL.vS hS hE (runs_plain rfl) (Gives.p hE rfl) rfl ?_; clear hE a; intro a hE
              refine WL.nil ?_
              refine W.ret ?_
              subst hK63
              rw [← hq52] at hr
              dsimp only at hr
              refine finG (fn := Try.f43) (rs := [.tmp 2]) (vs := [_]) hE rfl ⟨rfl, trivial⟩ ?_
              subst hr
              replace hS := hS.tail
              exact ⟨rfl, hS⟩
            · replace hq52 := iteF hc78 hq52
              refine W.skip ?_
              refine W.region ?_
              refine WL.vS hS hE (runs_plain rfl) (Gives.inc hE rfl (by have := h0.small; omega)) rfl ?_; clear hE a; intro a hE
              refine WL.vS hS hE (runs_plain rfl) (Gives.p hE rfl) rfl ?_; clear hE a; intro a hE
              refine WL.nil ?_
              replace hS := hS.tail
              subst hK63
              exact ⟨rest56.length, Nat.lt_succ_self _, rest56, k54 + 1, rfl, hd57, hq52, hE.pick _ ⟨rfl, rfl, rfl, trivial⟩, hS⟩
    · clear hE hS a w; rintro a w ⟨rfl, hE, hS⟩
      dsimp only at hr
      refine W.seq ?_
      refine W.region ?_
      refine WL.vS hS hE (runs_plain rfl) (Gives.p hE rfl) rfl ?_; clear hE a; intro a hE
      refine WL.nil ?_
      refine W.ret ?_
      refine finG (fn := Try.f43) (rs := [.tmp 2]) (vs := [_]) hE rfl ⟨rfl, trivial⟩ ?_
      subst hr
      exact ⟨rfl, hS⟩
set_option maxHeartbeats 8000000 in
theorem Fishref2LimitsFault_ok  {w : World} {s : Sg} {R : List HP} {x0 : FleetLimits} (hS : St w s (R))  {r : Int} (hr : Fishref2LimitsFault x0 = r) :
    Calls Try.prog 44 [.agg (FleetLimits.cells x0).toArray].toArray w (fun e w => e = .returned (.int .i64 r) ∧ St w s (R)) := by
  refine enter Try.func44 rfl rfl rfl fun a hE => ?_
  rw [Fishref2LimitsFault] at hr
  refine W.seq ?_
  refine W.region ?_
  refine WL.box hE hS (runs_plain rfl) rfl rfl rfl ?_; clear hE hS a w; intro b51 a w hE hS
  refine WL.vS hS hE (runs_plain rfl) (Gives.p hE rfl) rfl ?_; clear hE a; intro a hE
  refine WL.nil ?_
  refine W.seq ?_
  refine W.seq ?_
  refine W.region ?_
  refine WL.vS hS hE (runs_plain rfl) (Gives.fld hE rfl fl24_0) rfl ?_; clear hE a; intro a hE
  refine WL.vS hS hE (runs_plain rfl) (Gives.loadB hE 0 rfl rfl rfl ty3) rfl ?_; clear hE a; intro a hE
  refine WL.vS hS hE (runs_plain rfl) (Gives.fld hE rfl fl24_1) rfl ?_; clear hE a; intro a hE
  refine WL.vS hS hE (runs_plain rfl) (Gives.loadB hE 0 rfl rfl rfl ty3) rfl ?_; clear hE a; intro a hE
  refine WL.vS hS hE (runs_plain rfl) (Gives.fld hE rfl fl24_2) rfl ?_; clear hE a; intro a hE
  refine WL.vS hS hE (runs_plain rfl) (Gives.loadB hE 0 rfl rfl rfl ty3) rfl ?_; clear hE a; intro a hE
  refine WL.vS hS hE (runs_plain rfl) (Gives.fld hE rfl fl24_3) rfl ?_; clear hE a; intro a hE
  refine WL.vS hS hE (runs_plain rfl) (Gives.loadB hE 0 rfl rfl rfl ty3) rfl ?_; clear hE a; intro a hE
  refine WL.vS hS hE (runs_plain rfl) (Gives.fld hE rfl fl24_4) rfl ?_; clear hE a; intro a hE
  refine WL.vS hS hE (runs_plain rfl) (Gives.loadB hE 0 rfl rfl rfl ty3) rfl ?_; clear hE a; intro a hE
  refine WL.vS hS hE (runs_plain rfl) (Gives.fld hE rfl fl24_5) rfl ?_; clear hE a; intro a hE
  refine WL.vS hS hE (runs_plain rfl) (Gives.loadB hE 0 rfl rfl rfl ty3) rfl ?_; clear hE a; intro a hE
  refine WL.lit hE hS (e := 3) (es := 1) (vs := [(0, .int .i64 x0.Change), (1, .int .i64 x0.Long), (2, .int .i64 x0.Work), (3, .int .i64 x0.After), (4, .int .i64 x0.Break), (5, .int .i64 x0.Rest)]) (cs := [.int .i64 x0.Change, .int .i64 x0.Long, .int .i64 x0.Work, .int .i64 x0.After, .int .i64 x0.Break, .int .i64 x0.Rest]) (runs_plain rfl) rfl (by kernel_rfl) rfl ?_; clear hE hS a w; intro b52 a w hE hS
  replace hS := hS.ptVec (es := 1) (m := 6) rfl (by decide)
  have h54 : Ev 1 (RI .i64) s [.int .i64 x0.Change, .int .i64 x0.Long, .int .i64 x0.Work, .int .i64 x0.After, .int .i64 x0.Break, .int .i64 x0.Rest] [x0.Change, x0.Long, x0.Work, x0.After, x0.Break, x0.Rest] := (Ev.cons (c1 := [.int .i64 x0.Change]) rfl rfl (Ev.cons (c1 := [.int .i64 x0.Long]) rfl rfl (Ev.cons (c1 := [.int .i64 x0.Work]) rfl rfl (Ev.cons (c1 := [.int .i64 x0.After]) rfl rfl (Ev.cons (c1 := [.int .i64 x0.Break]) rfl rfl (Ev.cons (c1 := [.int .i64 x0.Rest]) rfl rfl (Ev.nil)))))))
  have hF := hS.fixD RI.mono 0 rfl h54 (rfl); clear hS; obtain ⟨s55, hle56, hS, h57⟩ := hF
  refine WL.vS hS hE (runs_plain rfl) (Gives.len hE rfl sl44) rfl ?_; clear hE a; intro a hE
  refine WL.vS hS hE (runs_plain rfl) (Gives.p hE rfl) rfl ?_; clear hE a; intro a hE
  refine WL.nil ?_
  obtain ⟨q59, hq58, hr⟩ := bndS hr
  refine W.cut (fun a w => (.next ()) = q59 ∧ Rep a 31 [(1, .pointer (some ⟨b51, 0, none⟩))] ∧ St w s55 (pt b51 (.cells (FleetLimits.cells x0).toArray 24 (0, 0)) :: R)) ?_ ?_
  · refine W.block ?_
    refine W.loop (fun m a w => ∃ (rest62 : List Int) (k60 : Nat), rest62.length = m ∧ [x0.Change, x0.Long, x0.Work, x0.After, x0.Break, x0.Rest].drop k60 = rest62 ∧ Fishref2LimitsFault.loop1 rest62 = q59 ∧ Rep a 31 [(1, .pointer (some ⟨b51, 0, none⟩)), (17, .slice (some ⟨b52, 0, none⟩) 6 6), (18, .int .i64 (([x0.Change, x0.Long, x0.Work, x0.After, x0.Break, x0.Rest]).length : Int)), (19, .int .i64 ((k60 : Nat) : Int))] ∧ St w s55 (pt b51 (.cells (FleetLimits.cells x0).toArray 24 (0, 0)) :: R)) (m := [x0.Change, x0.Long, x0.Work, x0.After, x0.Break, x0.Rest].length) ⟨[x0.Change, x0.Long, x0.Work, x0.After, x0.Break, x0.Rest], 0, rfl, rfl, hq58, hE.pick _ ⟨rfl, rfl, rfl, rfl, trivial⟩, hS⟩ ?_
    clear hE hS a w hq58; rintro m66 a w ⟨rest62, k60, rfl, hd63, hq58, hE, hS⟩
    refine W.gen fun K69 hK69 => ?_
    rcases rest62 with _ | ⟨x61, rest62⟩
    · have hlt64 := drop_nil hd63
      refine W.seq ?_
      refine W.region ?_
      refine WL.vS hS hE (runs_plain rfl) (Gives.p hE rfl) rfl ?_; clear hE a; intro a hE
      refine WL.nil ?_
      refine W.seq ?_
      refine W.condF hE rfl (decide_eq_false (by omega)) ?_
      subst hK69
      refine W.exit rfl ?_
      exact ⟨hq58, hE.pick _ ⟨rfl, trivial⟩, hS⟩
    · obtain ⟨hlt64, hx65, hd63⟩ := drop_cons hd63
      rw [Fishref2LimitsFault.loop1] at hq58
      refine W.seq ?_
      refine W.region ?_
      refine WL.vS hS hE (runs_plain rfl) (Gives.p hE rfl) rfl ?_; clear hE a; intro a hE
      refine WL.nil ?_
      refine W.seq ?_
      refine W.condT hE rfl (decide_eq_true (by omega)) ?_
      refine W.skip ?_
      refine W.seq ?_
      refine W.block ?_
      refine W.seq ?_
      refine W.region ?_
      obtain ⟨cs70, hl71, hR72, hat73⟩ := h57.at hx65
      subst hR72
      refine WL.vS hS hE (runs_plain rfl) (Gives.idx hE k60 rfl rfl sl44 rfl hlt64 (h57.aok hlt64)) rfl ?_; clear hE a; intro a hE
      refine WL.vS hS hE (runs_plain rfl) (Gives.load1 hE rfl (fun w h => hat73 w _ h) ty3) rfl ?_; clear hE a; intro a hE
      refine WL.vS hS hE (runs_plain rfl) (Gives.p hE rfl) rfl ?_; clear hE a; intro a hE
      refine WL.nil ?_
      refine W.seq ?_
      refine W.region ?_
      refine WL.vS hS hE (runs_plain rfl) (Gives.p hE rfl) rfl ?_; clear hE a; intro a hE
      refine WL.fnq hE (Fishref2within_ok hS  rfl (r := Fishref2within x61 0 86400)) (runs_plain rfl) bd45 rfl rfl rfl ?_
      clear hE hS; rintro e w ⟨rfl, hS⟩; refine ⟨_, rfl, ?_⟩; clear a; intro a hE
      refine WL.vS hS hE (runs_plain rfl) (Gives.p hE rfl) rfl ?_; clear hE a; intro a hE
      refine WL.nil ?_
      refine W.cond hE rfl (fun hc74 => ?_) (fun hc74 => ?_)
      · replace hq58 := iteT hc74 hq58
        refine W.seq ?_
        refine W.region ?_
        refine WL.vS hS hE (runs_plain rfl) (Gives.p hE rfl) rfl ?_; clear hE a; intro a hE
        refine WL.nil ?_
        refine W.ret ?_
        subst hK69
        rw [← hq58] at hr
        dsimp only at hr
        refine finG (fn := Try.f44) (rs := [.tmp 2]) (vs := [_]) hE rfl ⟨rfl, trivial⟩ ?_
        subst hr
        replace hS := hS.tail
        exact ⟨rfl, (hS.down hle56)⟩
      · replace hq58 := iteF hc74 hq58
        refine W.skip ?_
        refine W.region ?_
        refine WL.vS hS hE (runs_plain rfl) (Gives.inc hE rfl (by have := h57.small; omega)) rfl ?_; clear hE a; intro a hE
        refine WL.vS hS hE (runs_plain rfl) (Gives.p hE rfl) rfl ?_; clear hE a; intro a hE
        refine WL.nil ?_
        subst hK69
        exact ⟨rest62.length, Nat.lt_succ_self _, rest62, k60 + 1, rfl, hd63, hq58, hE.pick _ ⟨rfl, rfl, rfl, rfl, trivial⟩, hS⟩
  · clear hE hS a w; rintro a w ⟨rfl, hE, hS⟩
    dsimp only at hr
    refine W.seq ?_
    refine W.seq ?_
    refine W.region ?_
    refine WL.vS hS hE (runs_plain rfl) (Gives.fld hE rfl fl24_6) rfl ?_; clear hE a; intro a hE
    refine WL.vS hS hE (runs_plain rfl) (Gives.loadB hE 0 rfl rfl rfl ty3) rfl ?_; clear hE a; intro a hE
    refine WL.fnq hE (Fishref2within_ok hS  rfl (r := Fishref2within x0.Row 1 7)) (runs_plain rfl) bd45 rfl rfl rfl ?_
    clear hE hS; rintro e w ⟨rfl, hS⟩; refine ⟨_, rfl, ?_⟩; clear a; intro a hE
    refine WL.vS hS hE (runs_plain rfl) (Gives.p hE rfl) rfl ?_; clear hE a; intro a hE
    refine WL.nil ?_
    refine W.cond hE rfl (fun hc75 => ?_) (fun hc75 => ?_)
    · replace hr := iteT hc75 hr
      refine W.seq ?_
      refine W.region ?_
      refine WL.vS hS hE (runs_plain rfl) (Gives.p hE rfl) rfl ?_; clear hE a; intro a hE
      refine WL.nil ?_
      refine W.ret ?_
      refine finG (fn := Try.f44) (rs := [.tmp 2]) (vs := [_]) hE rfl ⟨rfl, trivial⟩ ?_
      subst hr
      replace hS := hS.tail
      exact ⟨rfl, (hS.down hle56)⟩
    · replace hr := iteF hc75 hr
      refine W.skip ?_
      refine W.seq ?_
      refine W.region ?_
      refine WL.vS hS hE (runs_plain rfl) (Gives.p hE rfl) rfl ?_; clear hE a; intro a hE
      refine WL.nil ?_
      refine W.ret ?_
      refine finG (fn := Try.f44) (rs := [.tmp 2]) (vs := [_]) hE rfl ⟨rfl, trivial⟩ ?_
      subst hr
      replace hS := hS.tail
      exact ⟨rfl, (hS.down hle56)⟩
set_option maxHeartbeats 8000000 in
theorem Fishref2RosterFault_ok  {w : World} {s : Sg} {R : List HP} {x0 : List FleetShift} {a0 : Option Addr} {c0 : Nat} {x1 : List (List Int)} {a1 : Option Addr} {c1 : Nat} (hS : St w s (R)) (_h0 : Sl 3 RFleetShift s a0 c0 x0) (h1 : Sl 1 (RL 1 (RI .i64)) s a1 c1 x1) {r : Int} (hr : Fishref2RosterFault x0 x1 = r) :
    Calls Try.prog 157 [.slice a0 x0.length c0, .slice a1 x1.length c1].toArray w (fun e w => e = .returned (.int .i64 r) ∧ St w s (R)) := by
  refine enter Try.func157 rfl rfl rfl fun a hE => ?_
  rw [Fishref2RosterFault] at hr
  refine W.seq ?_
  refine W.region ?_
  refine WL.vS hS hE (runs_plain rfl) (Gives.p hE rfl) rfl ?_; clear hE a; intro a hE
  refine WL.nil ?_
  refine W.seq ?_
  refine W.seq ?_
  refine W.region ?_
  refine WL.vS hS hE (runs_plain rfl) (Gives.p hE rfl) rfl ?_; clear hE a; intro a hE
  refine WL.vS hS hE (runs_plain rfl) (Gives.len hE rfl sl25) rfl ?_; clear hE a; intro a hE
  refine WL.vS hS hE (runs_plain rfl) (Gives.p hE rfl) rfl ?_; clear hE a; intro a hE
  refine WL.nil ?_
  refine W.cond hE rfl (fun hc51 => ?_) (fun hc51 => ?_)
  · replace hr := iteT hc51 hr
    refine W.seq ?_
    refine W.region ?_
    refine WL.vS hS hE (runs_plain rfl) (Gives.p hE rfl) rfl ?_; clear hE a; intro a hE
    refine WL.nil ?_
    refine W.ret ?_
    refine finG (fn := Try.f157) (rs := [.tmp 4]) (vs := [_]) hE rfl ⟨rfl, trivial⟩ ?_
    subst hr
    exact ⟨rfl, hS⟩
  · replace hr := iteF hc51 hr
    refine W.skip ?_
    refine W.seq ?_
    refine W.seq ?_
    refine W.region ?_
    refine WL.vS hS hE (runs_plain rfl) (Gives.p hE rfl) rfl ?_; clear hE a; intro a hE
    refine WL.vS hS hE (runs_plain rfl) (Gives.len hE rfl sl25) rfl ?_; clear hE a; intro a hE
    refine WL.vS hS hE (runs_plain rfl) (Gives.p hE rfl) rfl ?_; clear hE a; intro a hE
    refine WL.nil ?_
    obtain ⟨q53, hq52, hr⟩ := bndS hr
    refine W.cut (fun a w => (.next ()) = q53 ∧ Rep a 34 [] ∧ St w s (R)) ?_ ?_
    · refine W.block ?_
      refine W.loop (fun m a w => ∃ (rest56 : List (List Int)) (k54 : Nat), rest56.length = m ∧ x1.drop k54 = rest56 ∧ Fishref2RosterFault.loop1 x0 rest56 = q53 ∧ Rep a 34 [(0, .slice a0 x0.length c0), (12, .slice a1 x1.length c1), (13, .int .i64 ((x1).length : Int)), (14, .int .i64 ((k54 : Nat) : Int))] ∧ St w s (R)) (m := x1.length) ⟨x1, 0, rfl, rfl, hq52, hE.pick _ ⟨rfl, rfl, rfl, rfl, trivial⟩, hS⟩ ?_
      clear hE hS a w hq52; rintro m60 a w ⟨rest56, k54, rfl, hd57, hq52, hE, hS⟩
      refine W.gen fun K63 hK63 => ?_
      rcases rest56 with _ | ⟨x55, rest56⟩
      · have hlt58 := drop_nil hd57
        refine W.seq ?_
        refine W.region ?_
        refine WL.vS hS hE (runs_plain rfl) (Gives.p hE rfl) rfl ?_; clear hE a; intro a hE
        refine WL.nil ?_
        refine W.seq ?_
        refine W.condF hE rfl (decide_eq_false (by omega)) ?_
        subst hK63
        refine W.exit rfl ?_
        exact ⟨hq52, hE.pick _ trivial, hS⟩
      · obtain ⟨hlt58, hx59, hd57⟩ := drop_cons hd57
        rw [Fishref2RosterFault.loop1] at hq52
        refine W.seq ?_
        refine W.region ?_
        refine WL.vS hS hE (runs_plain rfl) (Gives.p hE rfl) rfl ?_; clear hE a; intro a hE
        refine WL.nil ?_
        refine W.seq ?_
        refine W.condT hE rfl (decide_eq_true (by omega)) ?_
        refine W.skip ?_
        refine W.seq ?_
        refine W.block ?_
        refine W.seq ?_
        refine W.region ?_
        obtain ⟨cs64, hl65, hR66, hat67⟩ := h1.at hx59
        obtain ⟨a68, c69, rfl, h70⟩ := hR66
        refine WL.vS hS hE (runs_plain rfl) (Gives.idx hE k54 rfl rfl sl25 rfl hlt58 (h1.aok hlt58)) rfl ?_; clear hE a; intro a hE
        refine WL.vS hS hE (runs_plain rfl) (Gives.load1 hE rfl (fun w h => hat67 w _ h) ty44) rfl ?_; clear hE a; intro a hE
        refine WL.vS hS hE (runs_plain rfl) (Gives.p hE rfl) rfl ?_; clear hE a; intro a hE
        refine WL.nil ?_
        refine W.seq ?_
        refine W.region ?_
        refine WL.vS hS hE (runs_plain rfl) (Gives.p hE rfl) rfl ?_; clear hE a; intro a hE
        refine WL.vS hS hE (runs_plain rfl) (Gives.len hE rfl sl44) rfl ?_; clear hE a; intro a hE
        refine WL.vS hS hE (runs_plain rfl) (Gives.p hE rfl) rfl ?_; clear hE a; intro a hE
        refine WL.nil ?_
        obtain ⟨q72, hq71, hq52⟩ := bndS hq52
        refine W.cut (fun a w => (.next ()) = q72 ∧ Rep a 34 [(0, .slice a0 x0.length c0), (12, .slice a1 x1.length c1), (13, .int .i64 ((x1).length : Int)), (14, .int .i64 ((k54 : Nat) : Int))] ∧ St w s (R)) ?_ ?_
        · refine W.block ?_
          refine W.loop (fun m a w => ∃ (rest75 : List Int) (k73 : Nat), rest75.length = m ∧ x55.drop k73 = rest75 ∧ Fishref2RosterFault.loop2 x0 rest75 = q72 ∧ Rep a 34 [(0, .slice a0 x0.length c0), (12, .slice a1 x1.length c1), (13, .int .i64 ((x1).length : Int)), (14, .int .i64 ((k54 : Nat) : Int)), (18, .slice a68 x55.length c69), (19, .int .i64 ((x55).length : Int)), (20, .int .i64 ((k73 : Nat) : Int))] ∧ St w s (R)) (m := x55.length) ⟨x55, 0, rfl, rfl, hq71, hE.pick _ ⟨rfl, rfl, rfl, rfl, rfl, rfl, rfl, trivial⟩, hS⟩ ?_
          clear hE hS a w hq71; rintro m79 a w ⟨rest75, k73, rfl, hd76, hq71, hE, hS⟩
          refine W.gen fun K82 hK82 => ?_
          rcases rest75 with _ | ⟨x74, rest75⟩
          · have hlt77 := drop_nil hd76
            refine W.seq ?_
            refine W.region ?_
            refine WL.vS hS hE (runs_plain rfl) (Gives.p hE rfl) rfl ?_; clear hE a; intro a hE
            refine WL.nil ?_
            refine W.seq ?_
            refine W.condF hE rfl (decide_eq_false (by omega)) ?_
            subst hK82
            refine W.exit rfl ?_
            exact ⟨hq71, hE.pick _ ⟨rfl, rfl, rfl, rfl, trivial⟩, hS⟩
          · obtain ⟨hlt77, hx78, hd76⟩ := drop_cons hd76
            rw [Fishref2RosterFault.loop2] at hq71
            refine W.seq ?_
            refine W.region ?_
            refine WL.vS hS hE (runs_plain rfl) (Gives.p hE rfl) rfl ?_; clear hE a; intro a hE
            refine WL.nil ?_
            refine W.seq ?_
            refine W.condT hE rfl (decide_eq_true (by omega)) ?_
            refine W.skip ?_
            refine W.seq ?_
            refine W.block ?_
            refine W.seq ?_
            refine W.region ?_
            obtain ⟨cs83, hl84, hR85, hat86⟩ := h70.at hx78
            subst hR85
            refine WL.vS hS hE (runs_plain rfl) (Gives.idx hE k73 rfl rfl sl44 rfl hlt77 (h70.aok hlt77)) rfl ?_; clear hE a; intro a hE
            refine WL.vS hS hE (runs_plain rfl) (Gives.load1 hE rfl (fun w h => hat86 w _ h) ty3) rfl ?_; clear hE a; intro a hE
            refine WL.vS hS hE (runs_plain rfl) (Gives.p hE rfl) rfl ?_; clear hE a; intro a hE
            refine WL.nil ?_
            refine W.seq ?_
            obtain ⟨q88, hq87, hq71⟩ := bndS hq71
            refine W.cut (fun a w => ∃ (q91 : Bool), q91 = q88 ∧ Rep a 34 [(0, .slice a0 x0.length c0), (12, .slice a1 x1.length c1), (13, .int .i64 ((x1).length : Int)), (14, .int .i64 ((k54 : Nat) : Int)), (18, .slice a68 x55.length c69), (19, .int .i64 ((x55).length : Int)), (20, .int .i64 ((k73 : Nat) : Int)), (31, .bool q91)] ∧ St w s (R)) ?_ ?_
            · refine W.gen fun K92 hK92 => ?_
              refine W.region ?_
              refine WL.vS hS hE (runs_plain rfl) (Gives.p hE rfl) rfl ?_; clear hE a; intro a hE
              refine WL.vS hS hE (runs_plain rfl) (Gives.p hE rfl) rfl ?_; clear hE a; intro a hE
              refine WL.vS hS hE (runs_plain rfl) (Gives.p hE rfl) rfl ?_; clear hE a; intro a hE
              rcases Bool.eq_false_or_eq_true (decide (x74 < 0)) with hg93 | hg93
              · replace hq87 := iteT hg93 hq87
                refine WL.no hE (runs_not hE rfl rfl rfl (by rw [hg93]; decide)) rfl ?_; clear hE a; intro a hE
                refine WL.no hE (runs_not hE rfl rfl rfl (by rw [hg93]; decide)) rfl ?_; clear hE a; intro a hE
                refine WL.no hE (runs_not hE rfl rfl rfl (by rw [hg93]; decide)) rfl ?_; clear hE a; intro a hE
                refine WL.no hE (runs_not hE rfl rfl rfl (by rw [hg93]; decide)) rfl ?_; clear hE a; intro a hE
                refine WL.vS hS hE (runs_plain rfl) (Gives.pickT hE rfl hg93 rfl) rfl ?_; clear hE a; intro a hE
                refine WL.nil ?_
                subst hK92
                exact ⟨true, hq87, hE.pick _ ⟨rfl, rfl, rfl, rfl, rfl, rfl, rfl, rfl, trivial⟩, hS⟩
              · replace hq87 := iteF hg93 hq87
                refine WL.vS hS hE (runs_if hE rfl rfl rfl hg93) (Gives.p hE rfl) rfl ?_; clear hE a; intro a hE
                refine WL.vS hS hE (runs_if hE rfl rfl rfl hg93) (Gives.p hE rfl) rfl ?_; clear hE a; intro a hE
                refine WL.vS hS hE (runs_if hE rfl rfl rfl hg93) (Gives.len hE rfl sl22) rfl ?_; clear hE a; intro a hE
                refine WL.vS hS hE (runs_if hE rfl rfl rfl hg93) (Gives.p hE rfl) rfl ?_; clear hE a; intro a hE
                refine WL.vS hS hE (runs_plain rfl) (Gives.pickF hE rfl hg93 rfl) rfl ?_; clear hE a; intro a hE
                refine WL.nil ?_
                subst hK92
                exact ⟨decide (x74 ≥ ((x0).length : Int)), hq87, hE.pick _ ⟨rfl, rfl, rfl, rfl, rfl, rfl, rfl, rfl, trivial⟩, hS⟩
            · clear hE hS a w; rintro a w ⟨q91, rfl, hE, hS⟩
              refine W.cond hE rfl (fun hc94 => ?_) (fun hc94 => ?_)
              · replace hq71 := iteT hc94 hq71
                refine W.seq ?_
                refine W.region ?_
                refine WL.vS hS hE (runs_plain rfl) (Gives.p hE rfl) rfl ?_; clear hE a; intro a hE
                refine WL.nil ?_
                refine W.ret ?_
                subst hK82
                subst hK63
                rw [← hq71] at hq52
                dsimp only at hq52
                rw [← hq52] at hr
                dsimp only at hr
                refine finG (fn := Try.f157) (rs := [.tmp 4]) (vs := [_]) hE rfl ⟨rfl, trivial⟩ ?_
                subst hr
                exact ⟨rfl, hS⟩
              · replace hq71 := iteF hc94 hq71
                refine W.skip ?_
                refine W.region ?_
                refine WL.vS hS hE (runs_plain rfl) (Gives.inc hE rfl (by have := h70.small; omega)) rfl ?_; clear hE a; intro a hE
                refine WL.vS hS hE (runs_plain rfl) (Gives.p hE rfl) rfl ?_; clear hE a; intro a hE
                refine WL.nil ?_
                subst hK82
                exact ⟨rest75.length, Nat.lt_succ_self _, rest75, k73 + 1, rfl, hd76, hq71, hE.pick _ ⟨rfl, rfl, rfl, rfl, rfl, rfl, rfl, trivial⟩, hS⟩
        · clear hE hS a w; rintro a w ⟨rfl, hE, hS⟩
          dsimp only at hq52
          refine W.region ?_
          refine WL.vS hS hE (runs_plain rfl) (Gives.inc hE rfl (by have := h1.small; omega)) rfl ?_; clear hE a; intro a hE
          refine WL.vS hS hE (runs_plain rfl) (Gives.p hE rfl) rfl ?_; clear hE a; intro a hE
          refine WL.nil ?_
          subst hK63
          exact ⟨rest56.length, Nat.lt_succ_self _, rest56, k54 + 1, rfl, hd57, hq52, hE.pick _ ⟨rfl, rfl, rfl, rfl, trivial⟩, hS⟩
    · clear hE hS a w; rintro a w ⟨rfl, hE, hS⟩
      dsimp only at hr
      refine W.seq ?_
      refine W.region ?_
      refine WL.vS hS hE (runs_plain rfl) (Gives.p hE rfl) rfl ?_; clear hE a; intro a hE
      refine WL.nil ?_
      refine W.ret ?_
      refine finG (fn := Try.f157) (rs := [.tmp 4]) (vs := [_]) hE rfl ⟨rfl, trivial⟩ ?_
      subst hr
      exact ⟨rfl, hS⟩
set_option maxHeartbeats 8000000 in
theorem Fishref2later_1_v1_ok  {w : World} {s : Sg} {R : List HP} {pb0 : Nat} {x0 : Int} {y0 : Int} (hS : St w s (pt pb0 (.cells #[.int .i64 y0] 3 (0, 0)) :: R))  {r : Int} (hr : Fishref2later_1_v1 x0 y0 = r) :
    Calls Try.prog 95 [.int .i64 x0, .pointer (some ⟨pb0, 0, none⟩)].toArray w (fun e w => e = .returned (.tuple #[]) ∧ St w s (pt pb0 (.cells #[.int .i64 r] 3 (0, 0)) :: R)) := by
  refine enter Try.func95 rfl rfl rfl fun a hE => ?_
  rw [Fishref2later_1_v1] at hr
  refine W.seq ?_
  obtain ⟨q53, hq52, hr⟩ := bndS hr
  refine W.cut (fun a w => ∃ (q56 : Bool), q56 = q53 ∧ Rep a 11 [(0, .int .i64 x0), (1, .pointer (some ⟨pb0, 0, none⟩)), (9, .bool q56)] ∧ St w s (pt pb0 (.cells #[.int .i64 y0] 3 (0, 0)) :: R)) ?_ ?_
  · refine W.gen fun K57 hK57 => ?_
    refine W.region ?_
    refine WL.vS hS hE (runs_plain rfl) (Gives.loadB hE 0 rfl rfl rfl ty3) rfl ?_; clear hE a; intro a hE
    refine WL.vS hS hE (runs_plain rfl) (Gives.p hE rfl) rfl ?_; clear hE a; intro a hE
    refine WL.vS hS hE (runs_plain rfl) (Gives.p hE rfl) rfl ?_; clear hE a; intro a hE
    rcases Bool.eq_false_or_eq_true (y0 == 0) with hg58 | hg58
    · replace hq52 := iteT hg58 hq52
      refine WL.no hE (runs_not hE rfl rfl rfl (by rw [hg58]; decide)) rfl ?_; clear hE a; intro a hE
      refine WL.no hE (runs_not hE rfl rfl rfl (by rw [hg58]; decide)) rfl ?_; clear hE a; intro a hE
      refine WL.no hE (runs_not hE rfl rfl rfl (by rw [hg58]; decide)) rfl ?_; clear hE a; intro a hE
      refine WL.vS hS hE (runs_plain rfl) (Gives.pickT hE rfl hg58 rfl) rfl ?_; clear hE a; intro a hE
      refine WL.nil ?_
      subst hK57
      exact ⟨true, hq52, hE.pick _ ⟨rfl, rfl, rfl, trivial⟩, hS⟩
    · replace hq52 := iteF hg58 hq52
      refine WL.vS hS hE (runs_if hE rfl rfl rfl hg58) (Gives.p hE rfl) rfl ?_; clear hE a; intro a hE
      refine WL.vS hS hE (runs_if hE rfl rfl rfl hg58) (Gives.loadB hE 0 rfl rfl rfl ty3) rfl ?_; clear hE a; intro a hE
      refine WL.vS hS hE (runs_if hE rfl rfl rfl hg58) (Gives.p hE rfl) rfl ?_; clear hE a; intro a hE
      refine WL.vS hS hE (runs_plain rfl) (Gives.pickF hE rfl hg58 rfl) rfl ?_; clear hE a; intro a hE
      refine WL.nil ?_
      subst hK57
      exact ⟨decide (x0 < y0), hq52, hE.pick _ ⟨rfl, rfl, rfl, trivial⟩, hS⟩
  · clear hE hS a w; rintro a w ⟨q56, rfl, hE, hS⟩
    obtain ⟨q60, hq59, hr⟩ := bndS hr
    refine W.cut (fun a w => ∃ (q63 : Int), q63 = q60 ∧ Rep a 11 [] ∧ St w s (pt pb0 (.cells #[.int .i64 q63] 3 (0, 0)) :: R)) ?_ ?_
    · refine W.gen fun K64 hK64 => ?_
      refine W.cond hE rfl (fun hc65 => ?_) (fun hc65 => ?_)
      · replace hq59 := iteT hc65 hq59
        refine W.region ?_
        refine WL.vS hS hE (runs_plain rfl) (Gives.p hE rfl) rfl ?_; clear hE a; intro a hE
        refine WL.storeI hE hS 0 rfl [.int .i64 x0] (runs_plain rfl) rfl rfl rfl ty3 rfl rfl rfl rfl ?_; clear hE hS a w; intro a w hE hS
        refine WL.nil ?_
        subst hK64
        exact ⟨x0, hq59, hE.pick _ trivial, hS⟩
      · replace hq59 := iteF hc65 hq59
        refine W.skip ?_
        subst hK64
        exact ⟨y0, hq59, hE.pick _ trivial, hS⟩
    · clear hE hS a w; rintro a w ⟨q63, rfl, hE, hS⟩
      refine finG (fn := Try.f95) (rs := []) (vs := []) hE rfl trivial ?_
      subst hr
      exact ⟨rfl, hS⟩
set_option maxHeartbeats 8000000 in
theorem Fishref2begins_ok  {w : World} {s : Sg} {R : List HP} {x0 : FleetShift} (hS : St w s (R))  {r : Int} (hr : Fishref2begins x0 = r) :
    Calls Try.prog 96 [.agg (FleetShift.cells x0).toArray].toArray w (fun e w => e = .returned (.int .i64 r) ∧ St w s (R)) := by
  refine enter Try.func96 rfl rfl rfl fun a hE => ?_
  rw [Fishref2begins] at hr
  refine W.seq ?_
  refine W.region ?_
  refine WL.box hE hS (runs_plain rfl) rfl rfl rfl ?_; clear hE hS a w; intro b51 a w hE hS
  refine WL.vS hS hE (runs_plain rfl) (Gives.p hE rfl) rfl ?_; clear hE a; intro a hE
  refine WL.nil ?_
  refine W.seq ?_
  refine W.region ?_
  refine WL.vS hS hE (runs_plain rfl) (Gives.fld hE rfl fl126_0) rfl ?_; clear hE a; intro a hE
  refine WL.vS hS hE (runs_plain rfl) (Gives.loadB hE 0 rfl rfl rfl ty3) rfl ?_; clear hE a; intro a hE
  refine WL.vS hS hE (runs_plain rfl) (Gives.p hE rfl) rfl ?_; clear hE a; intro a hE
  refine WL.vS hS hE (runs_plain rfl) (Gives.fld hE rfl fl126_1) rfl ?_; clear hE a; intro a hE
  refine WL.vS hS hE (runs_plain rfl) (Gives.loadB hE 0 rfl rfl rfl ty3) rfl ?_; clear hE a; intro a hE
  refine WL.vS hS hE (runs_plain rfl) (Gives.p hE rfl) rfl ?_; clear hE a; intro a hE
  refine WL.vS hS hE (runs_plain rfl) (Gives.p hE rfl) rfl ?_; clear hE a; intro a hE
  refine WL.nil ?_
  refine W.ret ?_
  refine finG (fn := Try.f96) (rs := [.tmp 2]) (vs := [_]) hE rfl ⟨rfl, trivial⟩ ?_
  subst hr
  replace hS := hS.tail
  exact ⟨rfl, hS⟩
set_option maxHeartbeats 8000000 in
theorem Fishref2ends_ok  {w : World} {s : Sg} {R : List HP} {x0 : FleetShift} (hS : St w s (R))  {r : Int} (hr : Fishref2ends x0 = r) :
    Calls Try.prog 97 [.agg (FleetShift.cells x0).toArray].toArray w (fun e w => e = .returned (.int .i64 r) ∧ St w s (R)) := by
  refine enter Try.func97 rfl rfl rfl fun a hE => ?_
  rw [Fishref2ends] at hr
  refine W.seq ?_
  refine W.region ?_
  refine WL.box hE hS (runs_plain rfl) rfl rfl rfl ?_; clear hE hS a w; intro b51 a w hE hS
  refine WL.vS hS hE (runs_plain rfl) (Gives.p hE rfl) rfl ?_; clear hE a; intro a hE
  refine WL.nil ?_
  refine W.seq ?_
  refine W.region ?_
  refine WL.vS hS hE (runs_plain rfl) (Gives.fld hE rfl fl126_0) rfl ?_; clear hE a; intro a hE
  refine WL.vS hS hE (runs_plain rfl) (Gives.loadB hE 0 rfl rfl rfl ty3) rfl ?_; clear hE a; intro a hE
  refine WL.vS hS hE (runs_plain rfl) (Gives.p hE rfl) rfl ?_; clear hE a; intro a hE
  refine WL.vS hS hE (runs_plain rfl) (Gives.fld hE rfl fl126_2) rfl ?_; clear hE a; intro a hE
  refine WL.vS hS hE (runs_plain rfl) (Gives.loadB hE 0 rfl rfl rfl ty3) rfl ?_; clear hE a; intro a hE
  refine WL.vS hS hE (runs_plain rfl) (Gives.p hE rfl) rfl ?_; clear hE a; intro a hE
  refine WL.vS hS hE (runs_plain rfl) (Gives.p hE rfl) rfl ?_; clear hE a; intro a hE
  refine WL.nil ?_
  refine W.ret ?_
  refine finG (fn := Try.f97) (rs := [.tmp 2]) (vs := [_]) hE rfl ⟨rfl, trivial⟩ ?_
  subst hr
  replace hS := hS.tail
  exact ⟨rfl, hS⟩
set_option maxHeartbeats 8000000 in
theorem Fishref2later_ok  {w : World} {s : Sg} {R : List HP} {x0 : List FleetShift} {a0 : Option Addr} {c0 : Nat} {x1 : List (List Int)} {a1 : Option Addr} {c1 : Nat} {x2 : FleetLimits} (hS : St w s (R)) (h0 : Sl 3 RFleetShift s a0 c0 x0) (h1 : Sl 1 (RL 1 (RI .i64)) s a1 c1 x1) {r : Int} (hr : Fishref2later x0 x1 x2 = some r) :
    Calls Try.prog 49 [.slice a0 x0.length c0, .slice a1 x1.length c1, .agg (FleetLimits.cells x2).toArray].toArray w (fun e w => e = .returned (.int .i64 r) ∧ St w s (R)) := by
  refine enter Try.func49 rfl rfl rfl fun a hE => ?_
  rw [Fishref2later] at hr
  refine W.seq ?_
  refine W.region ?_
  refine WL.box hE hS (runs_plain rfl) rfl rfl rfl ?_; clear hE hS a w; intro b51 a w hE hS
  refine WL.vS hS hE (runs_plain rfl) (Gives.p hE rfl) rfl ?_; clear hE a; intro a hE
  refine WL.nil ?_
  refine W.seq ?_
  refine W.region ?_
  refine WL.alloc hE hS (runs_plain rfl) zr3 rfl ?_; clear hE hS a w; intro b52 a w hE hS
  refine WL.storeI hE hS 0 rfl [.int .i64 0] (runs_plain rfl) rfl rfl rfl ty3 rfl rfl rfl rfl ?_; clear hE hS a w; intro a w hE hS
  refine WL.nil ?_
  refine W.seq ?_
  refine W.region ?_
  refine WL.vS hS hE (runs_plain rfl) (Gives.mkfn hE (vs := [.pointer (some ⟨b52, 0, none⟩)]) rfl) rfl ?_; clear hE a; intro a hE
  refine WL.vS hS hE (runs_plain rfl) (Gives.p hE rfl) rfl ?_; clear hE a; intro a hE
  refine WL.nil ?_
  refine W.seq ?_
  refine W.seq ?_
  refine W.region ?_
  refine WL.vS hS hE (runs_plain rfl) (Gives.p hE rfl) rfl ?_; clear hE a; intro a hE
  refine WL.vS hS hE (runs_plain rfl) (Gives.len hE rfl sl25) rfl ?_; clear hE a; intro a hE
  refine WL.vS hS hE (runs_plain rfl) (Gives.p hE rfl) rfl ?_; clear hE a; intro a hE
  refine WL.nil ?_
  obtain ⟨q54, hq53, hr⟩ := bindS hr
  refine W.cut (fun a w => ∃ (q64 : Int), q64 = q54 ∧ Rep a 114 [(7, .pointer (some ⟨b52, 0, none⟩))] ∧ St w s (pt b52 (.cells #[.int .i64 q64] 3 (0, 0)) :: pt b51 (.cells (FleetLimits.cells x2).toArray 24 (0, 0)) :: R)) ?_ ?_
  · refine W.block ?_
    refine W.loop (fun m a w => ∃ (rest57 : List (List Int)) (k55 : Nat), ∃ (q64 : Int), rest57.length = m ∧ x1.drop k55 = rest57 ∧ Fishref2later.loop1 x0 x2 rest57 q64 = some q54 ∧ Rep a 114 [(0, .slice a0 x0.length c0), (5, .pointer (some ⟨b51, 0, none⟩)), (7, .pointer (some ⟨b52, 0, none⟩)), (8, .func (.func 95) #[] #[.pointer (some ⟨b52, 0, none⟩)]), (21, .slice a1 x1.length c1), (22, .int .i64 ((x1).length : Int)), (23, .int .i64 ((k55 : Nat) : Int))] ∧ St w s (pt b52 (.cells #[.int .i64 q64] 3 (0, 0)) :: pt b51 (.cells (FleetLimits.cells x2).toArray 24 (0, 0)) :: R)) (m := x1.length) ⟨x1, 0, 0, rfl, rfl, hq53, hE.pick _ ⟨rfl, rfl, rfl, rfl, rfl, rfl, rfl, trivial⟩, hS⟩ ?_
    clear hE hS a w hq53; rintro m61 a w ⟨rest57, k55, q64, rfl, hd58, hq53, hE, hS⟩
    refine W.gen fun K65 hK65 => ?_
    rcases rest57 with _ | ⟨x56, rest57⟩
    · have hlt59 := drop_nil hd58
      refine W.seq ?_
      refine W.region ?_
      refine WL.vS hS hE (runs_plain rfl) (Gives.p hE rfl) rfl ?_; clear hE a; intro a hE
      refine WL.nil ?_
      refine W.seq ?_
      refine W.condF hE rfl (decide_eq_false (by omega)) ?_
      subst hK65
      refine W.exit rfl ?_
      exact ⟨q64, Option.some.inj hq53, hE.pick _ ⟨rfl, trivial⟩, hS⟩
    · obtain ⟨hlt59, hx60, hd58⟩ := drop_cons hd58
      rw [Fishref2later.loop1] at hq53
      refine W.seq ?_
      refine W.region ?_
      refine WL.vS hS hE (runs_plain rfl) (Gives.p hE rfl) rfl ?_; clear hE a; intro a hE
      refine WL.nil ?_
      refine W.seq ?_
      refine W.condT hE rfl (decide_eq_true (by omega)) ?_
      refine W.skip ?_
      refine W.seq ?_
      refine W.block ?_
      refine W.seq ?_
      refine W.region ?_
      obtain ⟨cs66, hl67, hR68, hat69⟩ := h1.at hx60
      obtain ⟨a70, c71, rfl, h72⟩ := hR68
      refine WL.vS hS hE (runs_plain rfl) (Gives.idx hE k55 rfl rfl sl25 rfl hlt59 (h1.aok hlt59)) rfl ?_; clear hE a; intro a hE
      refine WL.vS hS hE (runs_plain rfl) (Gives.load1 hE rfl (fun w h => hat69 w _ h) ty44) rfl ?_; clear hE a; intro a hE
      refine WL.vS hS hE (runs_plain rfl) (Gives.p hE rfl) rfl ?_; clear hE a; intro a hE
      refine WL.nil ?_
      refine W.seq ?_
      refine W.region ?_
      obtain ⟨x73, hx74, hq53⟩ := bindS hq53
      refine WL.mkD (Rr := RB) hE hS (runs_plain rfl) rfl rfl ap101 zr4 rfl hx74 rfl ?_; clear hE hS a w; intro b75 cs76 a w h77 hE hS
      refine WL.vS hS hE (runs_plain rfl) (Gives.p hE rfl) rfl ?_; clear hE a; intro a hE
      refine WL.nil ?_
      refine W.seq ?_
      refine W.seq ?_
      refine W.region ?_
      refine WL.vS hS hE (runs_plain rfl) (Gives.p hE rfl) rfl ?_; clear hE a; intro a hE
      refine WL.vS hS hE (runs_plain rfl) (Gives.len hE rfl sl44) rfl ?_; clear hE a; intro a hE
      refine WL.vS hS hE (runs_plain rfl) (Gives.p hE rfl) rfl ?_; clear hE a; intro a hE
      refine WL.nil ?_
      obtain ⟨q80, hq79, hq53⟩ := bindS hq53
      refine W.cut (fun a w => ∃ (q90 : List Bool), ∃ (q96 : Int), ∃ (cs94 : List Value), (q90, q96) = q80 ∧ Ev 1 RB s cs94 q90 ∧ q90.length = x73.length ∧ Rep a 114 [(0, .slice a0 x0.length c0), (5, .pointer (some ⟨b51, 0, none⟩)), (7, .pointer (some ⟨b52, 0, none⟩)), (8, .func (.func 95) #[] #[.pointer (some ⟨b52, 0, none⟩)]), (11, .slice (some ⟨b75, 0, none⟩) x73.length x73.length), (21, .slice a1 x1.length c1), (22, .int .i64 ((x1).length : Int)), (23, .int .i64 ((k55 : Nat) : Int))] ∧ St w s (vecC 4 1 (some ⟨b75, 0, none⟩) x73.length x73.length cs94 :: pt b52 (.cells #[.int .i64 q96] 3 (0, 0)) :: pt b51 (.cells (FleetLimits.cells x2).toArray 24 (0, 0)) :: R)) ?_ ?_
      · refine W.block ?_
        refine W.loop (fun m a w => ∃ (rest83 : List Int) (k81 : Nat), ∃ (q90 : List Bool), ∃ (q96 : Int), ∃ (cs94 : List Value), rest83.length = m ∧ x56.drop k81 = rest83 ∧ Fishref2later.loop2 x0 x2 x56 rest83 k81 q90 q96 = some q80 ∧ Ev 1 RB s cs94 q90 ∧ q90.length = x73.length ∧ Rep a 114 [(0, .slice a0 x0.length c0), (5, .pointer (some ⟨b51, 0, none⟩)), (7, .pointer (some ⟨b52, 0, none⟩)), (8, .func (.func 95) #[] #[.pointer (some ⟨b52, 0, none⟩)]), (10, .slice a70 x56.length c71), (11, .slice (some ⟨b75, 0, none⟩) x73.length x73.length), (21, .slice a1 x1.length c1), (22, .int .i64 ((x1).length : Int)), (23, .int .i64 ((k55 : Nat) : Int)), (28, .slice a70 x56.length c71), (29, .int .i64 ((x56).length : Int)), (30, .int .i64 ((k81 : Nat) : Int))] ∧ St w s (vecC 4 1 (some ⟨b75, 0, none⟩) x73.length x73.length cs94 :: pt b52 (.cells #[.int .i64 q96] 3 (0, 0)) :: pt b51 (.cells (FleetLimits.cells x2).toArray 24 (0, 0)) :: R)) (m := x56.length) ⟨x56, 0, x73, q64, cs76, rfl, rfl, hq79, h77, (rfl), hE.pick _ ⟨rfl, rfl, rfl, rfl, rfl, rfl, rfl, rfl, rfl, rfl, rfl, rfl, trivial⟩, hS⟩ ?_
        clear hE hS a w hq79; rintro m87 a w ⟨rest83, k81, q90, q96, cs94, rfl, hd84, hq79, h93, hn95, hE, hS⟩
        refine W.gen fun K97 hK97 => ?_
        rcases rest83 with _ | ⟨x82, rest83⟩
        · have hlt85 := drop_nil hd84
          refine W.seq ?_
          refine W.region ?_
          refine WL.vS hS hE (runs_plain rfl) (Gives.p hE rfl) rfl ?_; clear hE a; intro a hE
          refine WL.nil ?_
          refine W.seq ?_
          refine W.condF hE rfl (decide_eq_false (by omega)) ?_
          subst hK97
          refine W.exit rfl ?_
          exact ⟨q90, q96, cs94, Option.some.inj hq79, h93, hn95, hE.pick _ ⟨rfl, rfl, rfl, rfl, rfl, rfl, rfl, rfl, trivial⟩, hS⟩
        · obtain ⟨hlt85, hx86, hd84⟩ := drop_cons hd84
          rw [Fishref2later.loop2] at hq79
          refine W.seq ?_
          refine W.region ?_
          refine WL.vS hS hE (runs_plain rfl) (Gives.p hE rfl) rfl ?_; clear hE a; intro a hE
          refine WL.nil ?_
          refine W.seq ?_
          refine W.condT hE rfl (decide_eq_true (by omega)) ?_
          refine W.skip ?_
          refine W.seq ?_
          refine W.block ?_
          refine W.seq ?_
          refine W.region ?_
          refine WL.vS hS hE (runs_plain rfl) (Gives.p hE rfl) rfl ?_; clear hE a; intro a hE
          obtain ⟨cs98, hl99, hR100, hat101⟩ := h72.at hx86
          subst hR100
          refine WL.vS hS hE (runs_plain rfl) (Gives.idx hE k81 rfl rfl sl44 rfl hlt85 (h72.aok hlt85)) rfl ?_; clear hE a; intro a hE
          refine WL.vS hS hE (runs_plain rfl) (Gives.load1 hE rfl (fun w h => hat101 w _ h) ty3) rfl ?_; clear hE a; intro a hE
          refine WL.vS hS hE (runs_plain rfl) (Gives.p hE rfl) rfl ?_; clear hE a; intro a hE
          refine WL.vS hS hE (runs_plain rfl) (Gives.p hE rfl) rfl ?_; clear hE a; intro a hE
          refine WL.nil ?_
          refine W.seq ?_
          refine W.region ?_
          refine WL.vS hS hE (runs_plain rfl) (Gives.p hE rfl) rfl ?_; clear hE a; intro a hE
          refine WL.vS hS hE (runs_plain rfl) (Gives.p hE rfl) rfl ?_; clear hE a; intro a hE
          refine WL.vS hS hE (runs_plain rfl) (Gives.p hE rfl) rfl ?_; clear hE a; intro a hE
          obtain ⟨x102, hx103, hq79⟩ := bindS hq79
          obtain ⟨hi104, hlt105, hy106⟩ := gx_some hx103
          obtain ⟨cs107, hl108, hR109, hat110⟩ := h0.at hy106
          subst hR109
          refine WL.vS hS hE (runs_plain rfl) (Gives.idx hE (x82).toNat rfl rfl sl22 hi104 hlt105 (h0.aok hlt105)) rfl ?_; clear hE a; intro a hE
          refine WL.vS hS hE (runs_plain rfl) (Gives.fld hE rfl fl126_0) rfl ?_; clear hE a; intro a hE
          refine WL.vS hS hE (runs_plain rfl) (Gives.load1 hE rfl (fun w h => (hat110 w _ h).one rfl) ty3) rfl ?_; clear hE a; intro a hE
          obtain ⟨_, hx112, hq79⟩ := bindS hq79
          obtain ⟨h113, h114⟩ := ix_some hx112
          refine WL.vS hS hE (runs_plain rfl) (Gives.idx hE ((x102.Day).toNat) rfl rfl sl101 h113 (by have := hn95; omega) (hS.vecAok 0 rfl (by have := hn95; omega : (x102.Day).toNat < x73.length))) rfl ?_; clear hE a; intro a hE
          obtain ⟨x116, hx117, hq79⟩ := bindS hq79
          refine WL.setD hE hS 0 rfl (runs_plain rfl) rfl rfl (vs := [.bool true]) rfl ty4 rfl rfl rfl h93 hn95 (sx_some hx117).1 hx117 rfl rfl ?_; clear hE hS a w; intro cs118 a w h119 hn120 hE hS
          refine WL.nil ?_
          refine W.seq ?_
          refine W.region ?_
          refine WL.vS hS hE (runs_plain rfl) (Gives.p hE rfl) rfl ?_; clear hE a; intro a hE
          refine WL.vS hS hE (runs_plain rfl) (Gives.p hE rfl) rfl ?_; clear hE a; intro a hE
          refine WL.vS hS hE (runs_plain rfl) (Gives.inc hE rfl (by have := h72.small; omega)) rfl ?_; clear hE a; intro a hE
          obtain ⟨x121, hx122, hq79⟩ := bindS hq79
          obtain ⟨a123, c124, heq125, h126⟩ := h72.cut hx122
          obtain ⟨h127, h128, h129, _⟩ := cutl_some hx122
          refine WL.vS hS hE (runs_plain rfl) (Gives.slL hE sl44 rfl rfl h127 (by omega) (by simpa using heq125)) rfl ?_; clear hE a; intro a hE
          refine WL.vS hS hE (runs_plain rfl) (Gives.len hE rfl sl44) rfl ?_; clear hE a; intro a hE
          refine WL.vS hS hE (runs_plain rfl) (Gives.p hE rfl) rfl ?_; clear hE a; intro a hE
          refine WL.nil ?_
          obtain ⟨q131, hq130, hq79⟩ := bindS hq79
          refine W.cut (fun a w => ∃ (q141 : Int), q141 = q131 ∧ Rep a 114 [(0, .slice a0 x0.length c0), (5, .pointer (some ⟨b51, 0, none⟩)), (7, .pointer (some ⟨b52, 0, none⟩)), (8, .func (.func 95) #[] #[.pointer (some ⟨b52, 0, none⟩)]), (10, .slice a70 x56.length c71), (11, .slice (some ⟨b75, 0, none⟩) x73.length x73.length), (21, .slice a1 x1.length c1), (22, .int .i64 ((x1).length : Int)), (23, .int .i64 ((k55 : Nat) : Int)), (28, .slice a70 x56.length c71), (29, .int .i64 ((x56).length : Int)), (30, .int .i64 ((k81 : Nat) : Int))] ∧ St w s (vecC 4 1 (some ⟨b75, 0, none⟩) x73.length x73.length cs118 :: pt b52 (.cells #[.int .i64 q141] 3 (0, 0)) :: pt b51 (.cells (FleetLimits.cells x2).toArray 24 (0, 0)) :: R)) ?_ ?_
          · refine W.block ?_
            refine W.loop (fun m a w => ∃ (rest134 : List Int) (k132 : Nat), ∃ (q141 : Int), rest134.length = m ∧ x121.drop k132 = rest134 ∧ Fishref2later.loop3 x0 x2 x82 rest134 q141 = some q131 ∧ Rep a 114 [(0, .slice a0 x0.length c0), (5, .pointer (some ⟨b51, 0, none⟩)), (7, .pointer (some ⟨b52, 0, none⟩)), (8, .func (.func 95) #[] #[.pointer (some ⟨b52, 0, none⟩)]), (10, .slice a70 x56.length c71), (11, .slice (some ⟨b75, 0, none⟩) x73.length x73.length), (13, .int .i64 x82), (21, .slice a1 x1.length c1), (22, .int .i64 ((x1).length : Int)), (23, .int .i64 ((k55 : Nat) : Int)), (28, .slice a70 x56.length c71), (29, .int .i64 ((x56).length : Int)), (30, .int .i64 ((k81 : Nat) : Int)), (45, .slice a123 x121.length c124), (46, .int .i64 ((x121).length : Int)), (47, .int .i64 ((k132 : Nat) : Int))] ∧ St w s (vecC 4 1 (some ⟨b75, 0, none⟩) x73.length x73.length cs118 :: pt b52 (.cells #[.int .i64 q141] 3 (0, 0)) :: pt b51 (.cells (FleetLimits.cells x2).toArray 24 (0, 0)) :: R)) (m := x121.length) ⟨x121, 0, q96, rfl, rfl, hq130, hE.pick _ ⟨rfl, rfl, rfl, rfl, rfl, rfl, rfl, rfl, rfl, rfl, rfl, rfl, rfl, rfl, rfl, rfl, trivial⟩, hS⟩ ?_
            clear hE hS a w hq130; rintro m138 a w ⟨rest134, k132, q141, rfl, hd135, hq130, hE, hS⟩
            refine W.gen fun K142 hK142 => ?_
            rcases rest134 with _ | ⟨x133, rest134⟩
            · have hlt136 := drop_nil hd135
              refine W.seq ?_
              refine W.region ?_
              refine WL.vS hS hE (runs_plain rfl) (Gives.p hE rfl) rfl ?_; clear hE a; intro a hE
              refine WL.nil ?_
              refine W.seq ?_
              refine W.condF hE rfl (decide_eq_false (by omega)) ?_
              subst hK142
              refine W.exit rfl ?_
              exact ⟨q141, Option.some.inj hq130, hE.pick _ ⟨rfl, rfl, rfl, rfl, rfl, rfl, rfl, rfl, rfl, rfl, rfl, rfl, trivial⟩, hS⟩
            · obtain ⟨hlt136, hx137, hd135⟩ := drop_cons hd135
              rw [Fishref2later.loop3] at hq130
              refine W.seq ?_
              refine W.region ?_
              refine WL.vS hS hE (runs_plain rfl) (Gives.p hE rfl) rfl ?_; clear hE a; intro a hE
              refine WL.nil ?_
              refine W.seq ?_
              refine W.condT hE rfl (decide_eq_true (by omega)) ?_
              refine W.skip ?_
              refine W.seq ?_
              refine W.block ?_
              refine W.seq ?_
              refine W.region ?_
              obtain ⟨cs143, hl144, hR145, hat146⟩ := h126.at hx137
              subst hR145
              refine WL.vS hS hE (runs_plain rfl) (Gives.idx hE k132 rfl rfl sl44 rfl hlt136 (h126.aok hlt136)) rfl ?_; clear hE a; intro a hE
              refine WL.vS hS hE (runs_plain rfl) (Gives.load1 hE rfl (fun w h => hat146 w _ h) ty3) rfl ?_; clear hE a; intro a hE
              refine WL.vS hS hE (runs_plain rfl) (Gives.p hE rfl) rfl ?_; clear hE a; intro a hE
              refine WL.nil ?_
              refine W.seq ?_
              refine W.seq ?_
              refine W.regionQ (C := fun w => St w s (vecC 4 1 (some ⟨b75, 0, none⟩) x73.length x73.length cs118 :: pt b52 (.cells #[.int .i64 q141] 3 (0, 0)) :: pt b51 (.cells (FleetLimits.cells x2).toArray 24 (0, 0)) :: R)) mixed (by kernel_rfl) hS.drew ?_
              refine QL.v hE (runs_plain rfl) (Gives.p hE rfl) rfl ?_; clear hE a; intro a hE
              refine QL.v hE (runs_plain rfl) (Gives.p hE rfl) rfl ?_; clear hE a; intro a hE
              obtain ⟨x147, hx148, hq130⟩ := bindS hq130
              obtain ⟨hi149, hlt150, hy151⟩ := gx_some hx148
              obtain ⟨cs152, hl153, hR154, hat155⟩ := h0.at hy151
              subst hR154
              refine QL.v hE (runs_plain rfl) (Gives.idx hE (x82).toNat rfl rfl sl22 hi149 hlt150 (h0.aok hlt150)) rfl ?_; clear hE a; intro a hE
              refine QL.v hE (runs_plain rfl) (Gives.fld hE rfl fl126_0) rfl ?_; clear hE a; intro a hE
              refine QL.v hE (runs_plain rfl) (Gives.load1 hE rfl (fun w h => (hat155 w _ h).one rfl) ty3) rfl ?_; clear hE a; intro a hE
              refine QL.v hE (runs_plain rfl) (Gives.p hE rfl) rfl ?_; clear hE a; intro a hE
              refine QL.v hE (runs_plain rfl) (Gives.p hE rfl) rfl ?_; clear hE a; intro a hE
              obtain ⟨x156, hx157, hq130⟩ := bindS hq130
              obtain ⟨hi158, hlt159, hy160⟩ := gx_some hx157
              obtain ⟨cs161, hl162, hR163, hat164⟩ := h0.at hy160
              subst hR163
              refine QL.v hE (runs_plain rfl) (Gives.idx hE (x133).toNat rfl rfl sl22 hi158 hlt159 (h0.aok hlt159)) rfl ?_; clear hE a; intro a hE
              refine QL.v hE (runs_plain rfl) (Gives.fld hE rfl fl126_0) rfl ?_; clear hE a; intro a hE
              refine QL.v hE (runs_plain rfl) (Gives.load1 hE rfl (fun w h => (hat164 w _ h).one rfl) ty3) rfl ?_; clear hE a; intro a hE
              refine QL.v hE (runs_plain rfl) (Gives.p hE rfl) rfl ?_; clear hE a; intro a hE
              refine QL.nil ?_; clear hS w; intro w hS
              refine W.cond hE rfl (fun hc165 => ?_) (fun hc165 => ?_)
              · replace hq130 := iteT hc165 hq130
                refine W.region ?_
                refine WL.vS hS hE (runs_plain rfl) (Gives.p hE rfl) rfl ?_; clear hE a; intro a hE
                obtain ⟨q166, hq167, hq130⟩ := bndS hq130
                replace hS := hS.front 1 rfl
                have hc_ := Fishref2later_1_v1_ok hS  hq167
                refine WL.fnw hE (hc_) rfl (runs_plain rfl) bd95 rfl rfl rfl ?_
                clear hE hS hc_; rintro e w ⟨rfl, hS⟩; refine ⟨_, rfl, ?_⟩; clear a; intro a hE
                refine WL.nil ?_
                refine W.seq ?_
                refine W.regionQ (C := fun w => St w s (pt b52 (.cells #[.int .i64 q166] 3 (0, 0)) :: vecC 4 1 (some ⟨b75, 0, none⟩) x73.length x73.length cs118 :: pt b51 (.cells (FleetLimits.cells x2).toArray 24 (0, 0)) :: R)) mixed (by kernel_rfl) hS.drew ?_
                refine QL.v hE (runs_plain rfl) (Gives.p hE rfl) rfl ?_; clear hE a; intro a hE
                refine QL.v hE (runs_plain rfl) (Gives.p hE rfl) rfl ?_; clear hE a; intro a hE
                obtain ⟨x168, hx169, hq130⟩ := bindS hq130
                obtain ⟨hi170, hlt171, hy172⟩ := gx_some hx169
                obtain ⟨cs173, hl174, hR175, hat176⟩ := h0.at hy172
                subst hR175
                refine QL.v hE (runs_plain rfl) (Gives.idx hE (x133).toNat rfl rfl sl22 hi170 hlt171 (h0.aok hlt171)) rfl ?_; clear hE a; intro a hE
                refine QL.v hE (runs_plain rfl) (Gives.loadA hE rfl (fun w h => hat176 w _ h) ty126) rfl ?_; clear hE a; intro a hE
                refine QL.fnq hE (fun w hS => Fishref2begins_ok hS  rfl (r := Fishref2begins x168)) (runs_plain rfl) bd96 rfl rfl rfl ?_; clear hE a; intro a hE
                refine QL.v hE (runs_plain rfl) (Gives.p hE rfl) rfl ?_; clear hE a; intro a hE
                refine QL.v hE (runs_plain rfl) (Gives.p hE rfl) rfl ?_; clear hE a; intro a hE
                obtain ⟨x177, hx178, hq130⟩ := bindS hq130
                obtain ⟨hi179, hlt180, hy181⟩ := gx_some hx178
                obtain ⟨cs182, hl183, hR184, hat185⟩ := h0.at hy181
                subst hR184
                refine QL.v hE (runs_plain rfl) (Gives.idx hE (x82).toNat rfl rfl sl22 hi179 hlt180 (h0.aok hlt180)) rfl ?_; clear hE a; intro a hE
                refine QL.v hE (runs_plain rfl) (Gives.loadA hE rfl (fun w h => hat185 w _ h) ty126) rfl ?_; clear hE a; intro a hE
                refine QL.fnq hE (fun w hS => Fishref2ends_ok hS  rfl (r := Fishref2ends x177)) (runs_plain rfl) bd97 rfl rfl rfl ?_; clear hE a; intro a hE
                refine QL.v hE (runs_plain rfl) (Gives.p hE rfl) rfl ?_; clear hE a; intro a hE
                refine QL.v hE (runs_plain rfl) (Gives.p hE rfl) rfl ?_; clear hE a; intro a hE
                refine QL.v hE (runs_plain rfl) (Gives.p hE rfl) rfl ?_; clear hE a; intro a hE
                obtain ⟨x186, hx187, hq130⟩ := bindS hq130
                obtain ⟨hi188, hlt189, hy190⟩ := gx_some hx187
                obtain ⟨cs191, hl192, hR193, hat194⟩ := h0.at hy190
                subst hR193
                refine QL.v hE (runs_plain rfl) (Gives.idx hE (x82).toNat rfl rfl sl22 hi188 hlt189 (h0.aok hlt189)) rfl ?_; clear hE a; intro a hE
                refine QL.v hE (runs_plain rfl) (Gives.loadA hE rfl (fun w h => hat194 w _ h) ty126) rfl ?_; clear hE a; intro a hE
                refine QL.fnq hE (fun w hS => Fishref2begins_ok hS  rfl (r := Fishref2begins x186)) (runs_plain rfl) bd96 rfl rfl rfl ?_; clear hE a; intro a hE
                refine QL.v hE (runs_plain rfl) (Gives.p hE rfl) rfl ?_; clear hE a; intro a hE
                refine QL.v hE (runs_plain rfl) (Gives.p hE rfl) rfl ?_; clear hE a; intro a hE
                obtain ⟨x195, hx196, hq130⟩ := bindS hq130
                obtain ⟨hi197, hlt198, hy199⟩ := gx_some hx196
                obtain ⟨cs200, hl201, hR202, hat203⟩ := h0.at hy199
                subst hR202
                refine QL.v hE (runs_plain rfl) (Gives.idx hE (x133).toNat rfl rfl sl22 hi197 hlt198 (h0.aok hlt198)) rfl ?_; clear hE a; intro a hE
                refine QL.v hE (runs_plain rfl) (Gives.loadA hE rfl (fun w h => hat203 w _ h) ty126) rfl ?_; clear hE a; intro a hE
                refine QL.fnq hE (fun w hS => Fishref2ends_ok hS  rfl (r := Fishref2ends x195)) (runs_plain rfl) bd97 rfl rfl rfl ?_; clear hE a; intro a hE
                refine QL.v hE (runs_plain rfl) (Gives.p hE rfl) rfl ?_; clear hE a; intro a hE
                refine QL.v hE (runs_plain rfl) (Gives.max2 hE rfl rfl) rfl ?_; clear hE a; intro a hE
                refine QL.v hE (runs_plain rfl) (Gives.p hE rfl) rfl ?_; clear hE a; intro a hE
                refine QL.nil ?_; clear hS w; intro w hS
                refine W.seq ?_
                refine W.region ?_
                refine WL.vS hS hE (runs_plain rfl) (Gives.p hE rfl) rfl ?_; clear hE a; intro a hE
                refine WL.vS hS hE (runs_plain rfl) (Gives.fld hE rfl fl24_5) rfl ?_; clear hE a; intro a hE
                refine WL.vS hS hE (runs_plain rfl) (Gives.loadB hE 2 rfl rfl rfl ty3) rfl ?_; clear hE a; intro a hE
                refine WL.vS hS hE (runs_plain rfl) (Gives.p hE rfl) rfl ?_; clear hE a; intro a hE
                refine WL.nil ?_
                refine W.cond hE rfl (fun hc204 => ?_) (fun hc204 => ?_)
                · replace hq130 := iteT hc204 hq130
                  refine W.region ?_
                  refine WL.vS hS hE (runs_plain rfl) (Gives.p hE rfl) rfl ?_; clear hE a; intro a hE
                  obtain ⟨q205, hq206, hq130⟩ := bndS hq130
                  have hc_ := Fishref2later_1_v1_ok hS  hq206
                  refine WL.fnw hE (hc_) rfl (runs_plain rfl) bd95 rfl rfl rfl ?_
                  clear hE hS hc_; rintro e w ⟨rfl, hS⟩; refine ⟨_, rfl, ?_⟩; clear a; intro a hE
                  refine WL.nil ?_
                  refine W.region ?_
                  refine WL.vS hS hE (runs_plain rfl) (Gives.inc hE rfl (by have := h126.small; omega)) rfl ?_; clear hE a; intro a hE
                  refine WL.vS hS hE (runs_plain rfl) (Gives.p hE rfl) rfl ?_; clear hE a; intro a hE
                  refine WL.nil ?_
                  replace hS := hS.front 2 rfl
                  replace hS := hS.front 1 rfl
                  replace hS := hS.front 2 rfl
                  subst hK142
                  exact ⟨rest134.length, Nat.lt_succ_self _, rest134, k132 + 1, q205, rfl, hd135, hq130, hE.pick _ ⟨rfl, rfl, rfl, rfl, rfl, rfl, rfl, rfl, rfl, rfl, rfl, rfl, rfl, rfl, rfl, rfl, trivial⟩, hS⟩
                · replace hq130 := iteF hc204 hq130
                  refine W.skip ?_
                  refine W.region ?_
                  refine WL.vS hS hE (runs_plain rfl) (Gives.inc hE rfl (by have := h126.small; omega)) rfl ?_; clear hE a; intro a hE
                  refine WL.vS hS hE (runs_plain rfl) (Gives.p hE rfl) rfl ?_; clear hE a; intro a hE
                  refine WL.nil ?_
                  replace hS := hS.front 2 rfl
                  replace hS := hS.front 1 rfl
                  replace hS := hS.front 2 rfl
                  subst hK142
                  exact ⟨rest134.length, Nat.lt_succ_self _, rest134, k132 + 1, q166, rfl, hd135, hq130, hE.pick _ ⟨rfl, rfl, rfl, rfl, rfl, rfl, rfl, rfl, rfl, rfl, rfl, rfl, rfl, rfl, rfl, rfl, trivial⟩, hS⟩
              · replace hq130 := iteF hc165 hq130
                refine W.skip ?_
                refine W.seq ?_
                refine W.regionQ (C := fun w => St w s (vecC 4 1 (some ⟨b75, 0, none⟩) x73.length x73.length cs118 :: pt b52 (.cells #[.int .i64 q141] 3 (0, 0)) :: pt b51 (.cells (FleetLimits.cells x2).toArray 24 (0, 0)) :: R)) mixed (by kernel_rfl) hS.drew ?_
                refine QL.v hE (runs_plain rfl) (Gives.p hE rfl) rfl ?_; clear hE a; intro a hE
                refine QL.v hE (runs_plain rfl) (Gives.p hE rfl) rfl ?_; clear hE a; intro a hE
                obtain ⟨x207, hx208, hq130⟩ := bindS hq130
                obtain ⟨hi209, hlt210, hy211⟩ := gx_some hx208
                obtain ⟨cs212, hl213, hR214, hat215⟩ := h0.at hy211
                subst hR214
                refine QL.v hE (runs_plain rfl) (Gives.idx hE (x133).toNat rfl rfl sl22 hi209 hlt210 (h0.aok hlt210)) rfl ?_; clear hE a; intro a hE
                refine QL.v hE (runs_plain rfl) (Gives.loadA hE rfl (fun w h => hat215 w _ h) ty126) rfl ?_; clear hE a; intro a hE
                refine QL.fnq hE (fun w hS => Fishref2begins_ok hS  rfl (r := Fishref2begins x207)) (runs_plain rfl) bd96 rfl rfl rfl ?_; clear hE a; intro a hE
                refine QL.v hE (runs_plain rfl) (Gives.p hE rfl) rfl ?_; clear hE a; intro a hE
                refine QL.v hE (runs_plain rfl) (Gives.p hE rfl) rfl ?_; clear hE a; intro a hE
                obtain ⟨x216, hx217, hq130⟩ := bindS hq130
                obtain ⟨hi218, hlt219, hy220⟩ := gx_some hx217
                obtain ⟨cs221, hl222, hR223, hat224⟩ := h0.at hy220
                subst hR223
                refine QL.v hE (runs_plain rfl) (Gives.idx hE (x82).toNat rfl rfl sl22 hi218 hlt219 (h0.aok hlt219)) rfl ?_; clear hE a; intro a hE
                refine QL.v hE (runs_plain rfl) (Gives.loadA hE rfl (fun w h => hat224 w _ h) ty126) rfl ?_; clear hE a; intro a hE
                refine QL.fnq hE (fun w hS => Fishref2ends_ok hS  rfl (r := Fishref2ends x216)) (runs_plain rfl) bd97 rfl rfl rfl ?_; clear hE a; intro a hE
                refine QL.v hE (runs_plain rfl) (Gives.p hE rfl) rfl ?_; clear hE a; intro a hE
                refine QL.v hE (runs_plain rfl) (Gives.p hE rfl) rfl ?_; clear hE a; intro a hE
                refine QL.v hE (runs_plain rfl) (Gives.p hE rfl) rfl ?_; clear hE a; intro a hE
                obtain ⟨x225, hx226, hq130⟩ := bindS hq130
                obtain ⟨hi227, hlt228, hy229⟩ := gx_some hx226
                obtain ⟨cs230, hl231, hR232, hat233⟩ := h0.at hy229
                subst hR232
                refine QL.v hE (runs_plain rfl) (Gives.idx hE (x82).toNat rfl rfl sl22 hi227 hlt228 (h0.aok hlt228)) rfl ?_; clear hE a; intro a hE
                refine QL.v hE (runs_plain rfl) (Gives.loadA hE rfl (fun w h => hat233 w _ h) ty126) rfl ?_; clear hE a; intro a hE
                refine QL.fnq hE (fun w hS => Fishref2begins_ok hS  rfl (r := Fishref2begins x225)) (runs_plain rfl) bd96 rfl rfl rfl ?_; clear hE a; intro a hE
                refine QL.v hE (runs_plain rfl) (Gives.p hE rfl) rfl ?_; clear hE a; intro a hE
                refine QL.v hE (runs_plain rfl) (Gives.p hE rfl) rfl ?_; clear hE a; intro a hE
                obtain ⟨x234, hx235, hq130⟩ := bindS hq130
                obtain ⟨hi236, hlt237, hy238⟩ := gx_some hx235
                obtain ⟨cs239, hl240, hR241, hat242⟩ := h0.at hy238
                subst hR241
                refine QL.v hE (runs_plain rfl) (Gives.idx hE (x133).toNat rfl rfl sl22 hi236 hlt237 (h0.aok hlt237)) rfl ?_; clear hE a; intro a hE
                refine QL.v hE (runs_plain rfl) (Gives.loadA hE rfl (fun w h => hat242 w _ h) ty126) rfl ?_; clear hE a; intro a hE
                refine QL.fnq hE (fun w hS => Fishref2ends_ok hS  rfl (r := Fishref2ends x234)) (runs_plain rfl) bd97 rfl rfl rfl ?_; clear hE a; intro a hE
                refine QL.v hE (runs_plain rfl) (Gives.p hE rfl) rfl ?_; clear hE a; intro a hE
                refine QL.v hE (runs_plain rfl) (Gives.max2 hE rfl rfl) rfl ?_; clear hE a; intro a hE
                refine QL.v hE (runs_plain rfl) (Gives.p hE rfl) rfl ?_; clear hE a; intro a hE
                refine QL.nil ?_; clear hS w; intro w hS
                refine W.seq ?_
                refine W.region ?_
                refine WL.vS hS hE (runs_plain rfl) (Gives.p hE rfl) rfl ?_; clear hE a; intro a hE
                refine WL.vS hS hE (runs_plain rfl) (Gives.fld hE rfl fl24_5) rfl ?_; clear hE a; intro a hE
                refine WL.vS hS hE (runs_plain rfl) (Gives.loadB hE 2 rfl rfl rfl ty3) rfl ?_; clear hE a; intro a hE
                refine WL.vS hS hE (runs_plain rfl) (Gives.p hE rfl) rfl ?_; clear hE a; intro a hE
                refine WL.nil ?_
                refine W.cond hE rfl (fun hc243 => ?_) (fun hc243 => ?_)
                · replace hq130 := iteT hc243 hq130
                  refine W.region ?_
                  refine WL.vS hS hE (runs_plain rfl) (Gives.p hE rfl) rfl ?_; clear hE a; intro a hE
                  obtain ⟨q244, hq245, hq130⟩ := bndS hq130
                  replace hS := hS.front 1 rfl
                  have hc_ := Fishref2later_1_v1_ok hS  hq245
                  refine WL.fnw hE (hc_) rfl (runs_plain rfl) bd95 rfl rfl rfl ?_
                  clear hE hS hc_; rintro e w ⟨rfl, hS⟩; refine ⟨_, rfl, ?_⟩; clear a; intro a hE
                  refine WL.nil ?_
                  refine W.region ?_
                  refine WL.vS hS hE (runs_plain rfl) (Gives.inc hE rfl (by have := h126.small; omega)) rfl ?_; clear hE a; intro a hE
                  refine WL.vS hS hE (runs_plain rfl) (Gives.p hE rfl) rfl ?_; clear hE a; intro a hE
                  refine WL.nil ?_
                  replace hS := hS.front 2 rfl
                  replace hS := hS.front 1 rfl
                  replace hS := hS.front 2 rfl
                  subst hK142
                  exact ⟨rest134.length, Nat.lt_succ_self _, rest134, k132 + 1, q244, rfl, hd135, hq130, hE.pick _ ⟨rfl, rfl, rfl, rfl, rfl, rfl, rfl, rfl, rfl, rfl, rfl, rfl, rfl, rfl, rfl, rfl, trivial⟩, hS⟩
                · replace hq130 := iteF hc243 hq130
                  refine W.skip ?_
                  refine W.region ?_
                  refine WL.vS hS hE (runs_plain rfl) (Gives.inc hE rfl (by have := h126.small; omega)) rfl ?_; clear hE a; intro a hE
                  refine WL.vS hS hE (runs_plain rfl) (Gives.p hE rfl) rfl ?_; clear hE a; intro a hE
                  refine WL.nil ?_
                  subst hK142
                  exact ⟨rest134.length, Nat.lt_succ_self _, rest134, k132 + 1, q141, rfl, hd135, hq130, hE.pick _ ⟨rfl, rfl, rfl, rfl, rfl, rfl, rfl, rfl, rfl, rfl, rfl, rfl, rfl, rfl, rfl, rfl, trivial⟩, hS⟩
          · clear hE hS a w; rintro a w ⟨q141, rfl, hE, hS⟩
            refine W.region ?_
            refine WL.vS hS hE (runs_plain rfl) (Gives.inc hE rfl (by have := h72.small; omega)) rfl ?_; clear hE a; intro a hE
            refine WL.vS hS hE (runs_plain rfl) (Gives.p hE rfl) rfl ?_; clear hE a; intro a hE
            refine WL.nil ?_
            subst hK97
            exact ⟨rest83.length, Nat.lt_succ_self _, rest83, k81 + 1, x116, q141, cs118, rfl, hd84, hq79, h119, hn120, hE.pick _ ⟨rfl, rfl, rfl, rfl, rfl, rfl, rfl, rfl, rfl, rfl, rfl, rfl, trivial⟩, hS⟩
      · clear hE hS a w; rintro a w ⟨q90, q96, cs94, rfl, h93, hn95, hE, hS⟩
        dsimp only at hq53
        refine W.seq ?_
        refine W.region ?_
        refine WL.vS hS hE (runs_plain rfl) (Gives.p hE rfl) rfl ?_; clear hE a; intro a hE
        refine WL.nil ?_
        refine W.seq ?_
        refine W.region ?_
        refine WL.vS hS hE (runs_plain rfl) (Gives.p hE rfl) rfl ?_; clear hE a; intro a hE
        refine WL.vS hS hE (runs_plain rfl) (Gives.len hE rfl sl101) rfl ?_; clear hE a; intro a hE
        refine WL.vS hS hE (runs_plain rfl) (Gives.p hE rfl) rfl ?_; clear hE a; intro a hE
        refine WL.nil ?_
        have hb257 : x73.length ≤ 9223372036854775807 := by have := hS.vecCap 0 rfl; unfold maxLen at this; omega
        obtain ⟨q247, hq246, hq53⟩ := bindS hq53
        refine W.cut (fun a w => ∃ (q258 : Int), ∃ (q259 : Int), (q258, q259) = q247 ∧ Rep a 114 [(0, .slice a0 x0.length c0), (5, .pointer (some ⟨b51, 0, none⟩)), (7, .pointer (some ⟨b52, 0, none⟩)), (8, .func (.func 95) #[] #[.pointer (some ⟨b52, 0, none⟩)]), (21, .slice a1 x1.length c1), (22, .int .i64 ((x1).length : Int)), (23, .int .i64 ((k55 : Nat) : Int))] ∧ St w s (vecC 4 1 (some ⟨b75, 0, none⟩) x73.length x73.length cs94 :: pt b52 (.cells #[.int .i64 q259] 3 (0, 0)) :: pt b51 (.cells (FleetLimits.cells x2).toArray 24 (0, 0)) :: R)) ?_ ?_
        · refine W.block ?_
          refine W.loop (fun m a w => ∃ (rest250 : Nat) (k248 : Nat), ∃ (q258 : Int), ∃ (q259 : Int), rest250 = m ∧ k248 + rest250 = x73.length ∧ Fishref2later.loop4 x2 q90 rest250 k248 q258 q259 = some q247 ∧ Rep a 114 [(0, .slice a0 x0.length c0), (5, .pointer (some ⟨b51, 0, none⟩)), (7, .pointer (some ⟨b52, 0, none⟩)), (8, .func (.func 95) #[] #[.pointer (some ⟨b52, 0, none⟩)]), (17, .int .i64 q258), (21, .slice a1 x1.length c1), (22, .int .i64 ((x1).length : Int)), (23, .int .i64 ((k55 : Nat) : Int)), (95, .slice (some ⟨b75, 0, none⟩) x73.length x73.length), (96, .int .i64 ((x73.length : Nat) : Int)), (97, .int .i64 ((k248 : Nat) : Int))] ∧ St w s (vecC 4 1 (some ⟨b75, 0, none⟩) x73.length x73.length cs94 :: pt b52 (.cells #[.int .i64 q259] 3 (0, 0)) :: pt b51 (.cells (FleetLimits.cells x2).toArray 24 (0, 0)) :: R)) (m := x73.length) ⟨x73.length, 0, 0, q96, rfl, by omega, hq246, hE.pick _ ⟨rfl, rfl, rfl, rfl, rfl, rfl, rfl, rfl, rfl, rfl, rfl, trivial⟩, hS⟩ ?_
          clear hE hS a w hq246; rintro m254 a w ⟨rest250, k248, q258, q259, rfl, hd251, hq246, hE, hS⟩
          refine W.gen fun K260 hK260 => ?_
          rcases rest250 with _ | rest250
          · skip
            refine W.seq ?_
            refine W.region ?_
            refine WL.vS hS hE (runs_plain rfl) (Gives.p hE rfl) rfl ?_; clear hE a; intro a hE
            refine WL.nil ?_
            refine W.seq ?_
            refine W.condF hE rfl (decide_eq_false (by omega)) ?_
            subst hK260
            refine W.exit rfl ?_
            exact ⟨q258, q259, Option.some.inj hq246, hE.pick _ ⟨rfl, rfl, rfl, rfl, rfl, rfl, rfl, trivial⟩, hS⟩
          · have hlt252 : k248 < x73.length := by omega
            rw [Fishref2later.loop4] at hq246
            refine W.seq ?_
            refine W.region ?_
            refine WL.vS hS hE (runs_plain rfl) (Gives.p hE rfl) rfl ?_; clear hE a; intro a hE
            refine WL.nil ?_
            refine W.seq ?_
            refine W.condT hE rfl (decide_eq_true (by omega)) ?_
            refine W.skip ?_
            refine W.seq ?_
            refine W.block ?_
            refine W.seq ?_
            refine W.region ?_
            obtain ⟨x261, hx262, hq246⟩ := bindS hq246
            obtain ⟨hi263, hlt264, hy265⟩ := gx_some hx262
            obtain ⟨vs266, hl267, hR268, hd269, hget270⟩ := h93.at hy265
            subst hR268
            refine WL.vS hS hE (runs_plain rfl) (Gives.idx hE ((((k248 : Nat) : Int)).toNat) rfl rfl sl101 hi263 (by have := hn95; omega) (hS.vecAok 0 rfl (by have := hn95; omega : (((k248 : Nat) : Int)).toNat < x73.length))) rfl ?_; clear hE a; intro a hE
            refine WL.vS hS hE (runs_plain rfl) (Gives.load1 hE rfl (fun w h => St.vecSees h 0 rfl ((((k248 : Nat) : Int)).toNat * 1) _ hget270) ty4) rfl ?_; clear hE a; intro a hE
            refine WL.vS hS hE (runs_plain rfl) (Gives.p hE rfl) rfl ?_; clear hE a; intro a hE
            refine WL.nil ?_
            refine W.seq ?_
            refine W.seq ?_
            refine W.region ?_
            refine WL.vS hS hE (runs_plain rfl) (Gives.p hE rfl) rfl ?_; clear hE a; intro a hE
            refine WL.vS hS hE (runs_plain rfl) (Gives.p hE rfl) rfl ?_; clear hE a; intro a hE
            refine WL.vS hS hE (runs_plain rfl) (Gives.p hE rfl) rfl ?_; clear hE a; intro a hE
            refine WL.nil ?_
            refine W.seq ?_
            refine W.region ?_
            refine WL.vS hS hE (runs_plain rfl) (Gives.p hE rfl) rfl ?_; clear hE a; intro a hE
            refine WL.vS hS hE (runs_plain rfl) (Gives.p hE rfl) rfl ?_; clear hE a; intro a hE
            refine WL.nil ?_
            obtain ⟨q272, hq271, hq246⟩ := bndS hq246
            refine W.cut (fun a w => ∃ (q275 : Int), q275 = q272 ∧ Rep a 114 [(0, .slice a0 x0.length c0), (5, .pointer (some ⟨b51, 0, none⟩)), (7, .pointer (some ⟨b52, 0, none⟩)), (8, .func (.func 95) #[] #[.pointer (some ⟨b52, 0, none⟩)]), (17, .int .i64 q275), (21, .slice a1 x1.length c1), (22, .int .i64 ((x1).length : Int)), (23, .int .i64 ((k55 : Nat) : Int)), (95, .slice (some ⟨b75, 0, none⟩) x73.length x73.length), (96, .int .i64 ((x73.length : Nat) : Int)), (97, .int .i64 ((k248 : Nat) : Int))] ∧ St w s (vecC 4 1 (some ⟨b75, 0, none⟩) x73.length x73.length cs94 :: pt b52 (.cells #[.int .i64 q259] 3 (0, 0)) :: pt b51 (.cells (FleetLimits.cells x2).toArray 24 (0, 0)) :: R)) ?_ ?_
            · refine W.gen fun K276 hK276 => ?_
              refine W.cond hE rfl (fun hc277 => ?_) (fun hc277 => ?_)
              · replace hq271 := iteT hc277 hq271
                refine W.region ?_
                refine WL.vS hS hE (runs_plain rfl) (Gives.p hE rfl) rfl ?_; clear hE a; intro a hE
                refine WL.nil ?_
                subst hK276
                exact ⟨0, hq271, hE.pick _ ⟨rfl, rfl, rfl, rfl, rfl, rfl, rfl, rfl, rfl, rfl, rfl, trivial⟩, hS⟩
              · replace hq271 := iteF hc277 hq271
                refine W.skip ?_
                subst hK276
                exact ⟨w64 (q258 + 1), hq271, hE.pick _ ⟨rfl, rfl, rfl, rfl, rfl, rfl, rfl, rfl, rfl, rfl, rfl, trivial⟩, hS⟩
            · clear hE hS a w; rintro a w ⟨q275, rfl, hE, hS⟩
              refine W.seq ?_
              refine W.region ?_
              refine WL.vS hS hE (runs_plain rfl) (Gives.p hE rfl) rfl ?_; clear hE a; intro a hE
              refine WL.vS hS hE (runs_plain rfl) (Gives.fld hE rfl fl24_6) rfl ?_; clear hE a; intro a hE
              refine WL.vS hS hE (runs_plain rfl) (Gives.loadB hE 2 rfl rfl rfl ty3) rfl ?_; clear hE a; intro a hE
              refine WL.vS hS hE (runs_plain rfl) (Gives.p hE rfl) rfl ?_; clear hE a; intro a hE
              refine WL.nil ?_
              refine W.cond hE rfl (fun hc278 => ?_) (fun hc278 => ?_)
              · replace hq246 := iteT hc278 hq246
                refine W.region ?_
                refine WL.vS hS hE (runs_plain rfl) (Gives.p hE rfl) rfl ?_; clear hE a; intro a hE
                obtain ⟨q279, hq280, hq246⟩ := bndS hq246
                replace hS := hS.front 1 rfl
                have hc_ := Fishref2later_1_v1_ok hS  hq280
                refine WL.fnw hE (hc_) rfl (runs_plain rfl) bd95 rfl rfl rfl ?_
                clear hE hS hc_; rintro e w ⟨rfl, hS⟩; refine ⟨_, rfl, ?_⟩; clear a; intro a hE
                refine WL.nil ?_
                refine W.region ?_
                refine WL.vS hS hE (runs_plain rfl) (Gives.inc hE rfl (by omega)) rfl ?_; clear hE a; intro a hE
                refine WL.vS hS hE (runs_plain rfl) (Gives.p hE rfl) rfl ?_; clear hE a; intro a hE
                refine WL.nil ?_
                replace hS := hS.front 2 rfl
                replace hS := hS.front 1 rfl
                replace hS := hS.front 2 rfl
                subst hK260
                exact ⟨rest250, Nat.lt_succ_self _, rest250, k248 + 1, q275, q279, rfl, (by omega), hq246, hE.pick _ ⟨rfl, rfl, rfl, rfl, rfl, rfl, rfl, rfl, rfl, rfl, rfl, trivial⟩, hS⟩
              · replace hq246 := iteF hc278 hq246
                refine W.skip ?_
                refine W.region ?_
                refine WL.vS hS hE (runs_plain rfl) (Gives.inc hE rfl (by omega)) rfl ?_; clear hE a; intro a hE
                refine WL.vS hS hE (runs_plain rfl) (Gives.p hE rfl) rfl ?_; clear hE a; intro a hE
                refine WL.nil ?_
                subst hK260
                exact ⟨rest250, Nat.lt_succ_self _, rest250, k248 + 1, q275, q259, rfl, (by omega), hq246, hE.pick _ ⟨rfl, rfl, rfl, rfl, rfl, rfl, rfl, rfl, rfl, rfl, rfl, trivial⟩, hS⟩
        · clear hE hS a w; rintro a w ⟨q258, q259, rfl, hE, hS⟩
          dsimp only at hq53
          refine W.region ?_
          refine WL.vS hS hE (runs_plain rfl) (Gives.inc hE rfl (by have := h1.small; omega)) rfl ?_; clear hE a; intro a hE
          refine WL.vS hS hE (runs_plain rfl) (Gives.p hE rfl) rfl ?_; clear hE a; intro a hE
          refine WL.nil ?_
          replace hS := hS.tail
          subst hK65
          exact ⟨rest57.length, Nat.lt_succ_self _, rest57, k55 + 1, q259, rfl, hd58, hq53, hE.pick _ ⟨rfl, rfl, rfl, rfl, rfl, rfl, rfl, trivial⟩, hS⟩
  · clear hE hS a w; rintro a w ⟨q64, rfl, hE, hS⟩
    refine W.seq ?_
    refine W.region ?_
    refine WL.vS hS hE (runs_plain rfl) (Gives.loadB hE 0 rfl rfl rfl ty3) rfl ?_; clear hE a; intro a hE
    refine WL.vS hS hE (runs_plain rfl) (Gives.p hE rfl) rfl ?_; clear hE a; intro a hE
    refine WL.nil ?_
    refine W.ret ?_
    refine finG (fn := Try.f49) (rs := [.tmp 6]) (vs := [_]) hE rfl ⟨rfl, trivial⟩ ?_
    obtain rfl := Option.some.inj hr
    replace hS := hS.tail
    replace hS := hS.tail
    exact ⟨rfl, hS⟩
set_option maxHeartbeats 8000000 in
theorem Fishref2RosterCode_ok  {w : World} {s : Sg} {R : List HP} {x0 : List FleetShift} {a0 : Option Addr} {c0 : Nat} {x1 : List (List Int)} {a1 : Option Addr} {c1 : Nat} {x2 : FleetLimits} (hS : St w s (R)) (h0 : Sl 3 RFleetShift s a0 c0 x0) (h1 : Sl 1 (RL 1 (RI .i64)) s a1 c1 x1) {r : Int} (hr : Fishref2RosterCode x0 x1 x2 = some r) :
    Calls Try.prog 158 [.slice a0 x0.length c0, .slice a1 x1.length c1, .agg (FleetLimits.cells x2).toArray].toArray w (fun e w => e = .returned (.int .i64 r) ∧ St w s (R)) := by
  refine enter Try.func158 rfl rfl rfl fun a hE => ?_
  rw [Fishref2RosterCode] at hr
  refine W.seq ?_
  refine W.region ?_
  refine WL.box hE hS (runs_plain rfl) rfl rfl rfl ?_; clear hE hS a w; intro b51 a w hE hS
  refine WL.vS hS hE (runs_plain rfl) (Gives.p hE rfl) rfl ?_; clear hE a; intro a hE
  refine WL.nil ?_
  refine W.seq ?_
  refine W.region ?_
  refine WL.vS hS hE (runs_plain rfl) (Gives.p hE rfl) rfl ?_; clear hE a; intro a hE
  refine WL.vS hS hE (runs_plain rfl) (Gives.len hE rfl sl22) rfl ?_; clear hE a; intro a hE
  obtain ⟨x52, hx53, hr⟩ := bindS hr
  refine WL.mkD (Rr := RI .i64) hE hS (runs_plain rfl) rfl rfl ap44 zr3 rfl hx53 rfl ?_; clear hE hS a w; intro b54 cs55 a w h56 hE hS
  refine WL.vS hS hE (runs_plain rfl) (Gives.p hE rfl) rfl ?_; clear hE a; intro a hE
  refine WL.nil ?_
  refine W.seq ?_
  refine W.seq ?_
  refine W.region ?_
  refine WL.vS hS hE (runs_plain rfl) (Gives.p hE rfl) rfl ?_; clear hE a; intro a hE
  refine WL.vS hS hE (runs_plain rfl) (Gives.len hE rfl sl25) rfl ?_; clear hE a; intro a hE
  refine WL.vS hS hE (runs_plain rfl) (Gives.p hE rfl) rfl ?_; clear hE a; intro a hE
  refine WL.nil ?_
  obtain ⟨q59, hq58, hr⟩ := bindS hr
  refine W.cut (fun a w => ∃ (q69 : List Int), ∃ (cs73 : List Value), q69 = q59 ∧ Ev 1 (RI .i64) s cs73 q69 ∧ q69.length = x52.length ∧ Rep a 50 [(0, .slice a0 x0.length c0), (1, .slice a1 x1.length c1), (5, .pointer (some ⟨b51, 0, none⟩)), (7, .slice (some ⟨b54, 0, none⟩) x52.length x52.length)] ∧ St w s (vecC 3 1 (some ⟨b54, 0, none⟩) x52.length x52.length cs73 :: pt b51 (.cells (FleetLimits.cells x2).toArray 24 (0, 0)) :: R)) ?_ ?_
  · refine W.block ?_
    refine W.loop (fun m a w => ∃ (rest62 : List (List Int)) (k60 : Nat), ∃ (q69 : List Int), ∃ (cs73 : List Value), rest62.length = m ∧ x1.drop k60 = rest62 ∧ Fishref2RosterCode.loop1 rest62 q69 = some q59 ∧ Ev 1 (RI .i64) s cs73 q69 ∧ q69.length = x52.length ∧ Rep a 50 [(0, .slice a0 x0.length c0), (1, .slice a1 x1.length c1), (5, .pointer (some ⟨b51, 0, none⟩)), (7, .slice (some ⟨b54, 0, none⟩) x52.length x52.length), (17, .slice a1 x1.length c1), (18, .int .i64 ((x1).length : Int)), (19, .int .i64 ((k60 : Nat) : Int))] ∧ St w s (vecC 3 1 (some ⟨b54, 0, none⟩) x52.length x52.length cs73 :: pt b51 (.cells (FleetLimits.cells x2).toArray 24 (0, 0)) :: R)) (m := x1.length) ⟨x1, 0, x52, cs55, rfl, rfl, hq58, h56, (rfl), hE.pick _ ⟨rfl, rfl, rfl, rfl, rfl, rfl, rfl, trivial⟩, hS⟩ ?_
    clear hE hS a w hq58; rintro m66 a w ⟨rest62, k60, q69, cs73, rfl, hd63, hq58, h72, hn74, hE, hS⟩
    refine W.gen fun K75 hK75 => ?_
    rcases rest62 with _ | ⟨x61, rest62⟩
    · have hlt64 := drop_nil hd63
      refine W.seq ?_
      refine W.region ?_
      refine WL.vS hS hE (runs_plain rfl) (Gives.p hE rfl) rfl ?_; clear hE a; intro a hE
      refine WL.nil ?_
      refine W.seq ?_
      refine W.condF hE rfl (decide_eq_false (by omega)) ?_
      subst hK75
      refine W.exit rfl ?_
      exact ⟨q69, cs73, Option.some.inj hq58, h72, hn74, hE.pick _ ⟨rfl, rfl, rfl, rfl, trivial⟩, hS⟩
    · obtain ⟨hlt64, hx65, hd63⟩ := drop_cons hd63
      rw [Fishref2RosterCode.loop1] at hq58
      refine W.seq ?_
      refine W.region ?_
      refine WL.vS hS hE (runs_plain rfl) (Gives.p hE rfl) rfl ?_; clear hE a; intro a hE
      refine WL.nil ?_
      refine W.seq ?_
      refine W.condT hE rfl (decide_eq_true (by omega)) ?_
      refine W.skip ?_
      refine W.seq ?_
      refine W.block ?_
      refine W.seq ?_
      refine W.region ?_
      obtain ⟨cs76, hl77, hR78, hat79⟩ := h1.at hx65
      obtain ⟨a80, c81, rfl, h82⟩ := hR78
      refine WL.vS hS hE (runs_plain rfl) (Gives.idx hE k60 rfl rfl sl25 rfl hlt64 (h1.aok hlt64)) rfl ?_; clear hE a; intro a hE
      refine WL.vS hS hE (runs_plain rfl) (Gives.load1 hE rfl (fun w h => hat79 w _ h) ty44) rfl ?_; clear hE a; intro a hE
      refine WL.vS hS hE (runs_plain rfl) (Gives.p hE rfl) rfl ?_; clear hE a; intro a hE
      refine WL.nil ?_
      refine W.seq ?_
      refine W.region ?_
      refine WL.vS hS hE (runs_plain rfl) (Gives.p hE rfl) rfl ?_; clear hE a; intro a hE
      refine WL.vS hS hE (runs_plain rfl) (Gives.len hE rfl sl44) rfl ?_; clear hE a; intro a hE
      refine WL.vS hS hE (runs_plain rfl) (Gives.p hE rfl) rfl ?_; clear hE a; intro a hE
      refine WL.nil ?_
      obtain ⟨q84, hq83, hq58⟩ := bindS hq58
      refine W.cut (fun a w => ∃ (q94 : List Int), ∃ (cs98 : List Value), q94 = q84 ∧ Ev 1 (RI .i64) s cs98 q94 ∧ q94.length = x52.length ∧ Rep a 50 [(0, .slice a0 x0.length c0), (1, .slice a1 x1.length c1), (5, .pointer (some ⟨b51, 0, none⟩)), (7, .slice (some ⟨b54, 0, none⟩) x52.length x52.length), (17, .slice a1 x1.length c1), (18, .int .i64 ((x1).length : Int)), (19, .int .i64 ((k60 : Nat) : Int))] ∧ St w s (vecC 3 1 (some ⟨b54, 0, none⟩) x52.length x52.length cs98 :: pt b51 (.cells (FleetLimits.cells x2).toArray 24 (0, 0)) :: R)) ?_ ?_
      · refine W.block ?_
        refine W.loop (fun m a w => ∃ (rest87 : List Int) (k85 : Nat), ∃ (q94 : List Int), ∃ (cs98 : List Value), rest87.length = m ∧ x61.drop k85 = rest87 ∧ Fishref2RosterCode.loop2 rest87 q94 = some q84 ∧ Ev 1 (RI .i64) s cs98 q94 ∧ q94.length = x52.length ∧ Rep a 50 [(0, .slice a0 x0.length c0), (1, .slice a1 x1.length c1), (5, .pointer (some ⟨b51, 0, none⟩)), (7, .slice (some ⟨b54, 0, none⟩) x52.length x52.length), (17, .slice a1 x1.length c1), (18, .int .i64 ((x1).length : Int)), (19, .int .i64 ((k60 : Nat) : Int)), (23, .slice a80 x61.length c81), (24, .int .i64 ((x61).length : Int)), (25, .int .i64 ((k85 : Nat) : Int))] ∧ St w s (vecC 3 1 (some ⟨b54, 0, none⟩) x52.length x52.length cs98 :: pt b51 (.cells (FleetLimits.cells x2).toArray 24 (0, 0)) :: R)) (m := x61.length) ⟨x61, 0, q69, cs73, rfl, rfl, hq83, h72, hn74, hE.pick _ ⟨rfl, rfl, rfl, rfl, rfl, rfl, rfl, rfl, rfl, rfl, trivial⟩, hS⟩ ?_
        clear hE hS a w hq83; rintro m91 a w ⟨rest87, k85, q94, cs98, rfl, hd88, hq83, h97, hn99, hE, hS⟩
        refine W.gen fun K100 hK100 => ?_
        rcases rest87 with _ | ⟨x86, rest87⟩
        · have hlt89 := drop_nil hd88
          refine W.seq ?_
          refine W.region ?_
          refine WL.vS hS hE (runs_plain rfl) (Gives.p hE rfl) rfl ?_; clear hE a; intro a hE
          refine WL.nil ?_
          refine W.seq ?_
          refine W.condF hE rfl (decide_eq_false (by omega)) ?_
          subst hK100
          refine W.exit rfl ?_
          exact ⟨q94, cs98, Option.some.inj hq83, h97, hn99, hE.pick _ ⟨rfl, rfl, rfl, rfl, rfl, rfl, rfl, trivial⟩, hS⟩
        · obtain ⟨hlt89, hx90, hd88⟩ := drop_cons hd88
          rw [Fishref2RosterCode.loop2] at hq83
          refine W.seq ?_
          refine W.region ?_
          refine WL.vS hS hE (runs_plain rfl) (Gives.p hE rfl) rfl ?_; clear hE a; intro a hE
          refine WL.nil ?_
          refine W.seq ?_
          refine W.condT hE rfl (decide_eq_true (by omega)) ?_
          refine W.skip ?_
          refine W.seq ?_
          refine W.block ?_
          refine W.seq ?_
          refine W.region ?_
          obtain ⟨cs101, hl102, hR103, hat104⟩ := h82.at hx90
          subst hR103
          refine WL.vS hS hE (runs_plain rfl) (Gives.idx hE k85 rfl rfl sl44 rfl hlt89 (h82.aok hlt89)) rfl ?_; clear hE a; intro a hE
          refine WL.vS hS hE (runs_plain rfl) (Gives.load1 hE rfl (fun w h => hat104 w _ h) ty3) rfl ?_; clear hE a; intro a hE
          refine WL.vS hS hE (runs_plain rfl) (Gives.p hE rfl) rfl ?_; clear hE a; intro a hE
          refine WL.nil ?_
          refine W.region ?_
          refine WL.vS hS hE (runs_plain rfl) (Gives.p hE rfl) rfl ?_; clear hE a; intro a hE
          refine WL.vS hS hE (runs_plain rfl) (Gives.p hE rfl) rfl ?_; clear hE a; intro a hE
          obtain ⟨x105, hx106, hq83⟩ := bindS hq83
          obtain ⟨hi107, hlt108, hy109⟩ := gx_some hx106
          obtain ⟨vs110, hl111, hR112, hd113, hget114⟩ := h97.at hy109
          subst hR112
          refine WL.vS hS hE (runs_plain rfl) (Gives.idx hE ((x86).toNat) rfl rfl sl44 hi107 (by have := hn99; omega) (hS.vecAok 0 rfl (by have := hn99; omega : (x86).toNat < x52.length))) rfl ?_; clear hE a; intro a hE
          refine WL.vS hS hE (runs_plain rfl) (Gives.load1 hE rfl (fun w h => St.vecSees h 0 rfl ((x86).toNat * 1) _ hget114) ty3) rfl ?_; clear hE a; intro a hE
          refine WL.vS hS hE (runs_plain rfl) (Gives.p hE rfl) rfl ?_; clear hE a; intro a hE
          obtain ⟨_, hx116, hq83⟩ := bindS hq83
          obtain ⟨h117, h118⟩ := ix_some hx116
          refine WL.vS hS hE (runs_plain rfl) (Gives.idx hE ((x86).toNat) rfl rfl sl44 h117 (by have := hn99; omega) (hS.vecAok 0 rfl (by have := hn99; omega : (x86).toNat < x52.length))) rfl ?_; clear hE a; intro a hE
          obtain ⟨x120, hx121, hq83⟩ := bindS hq83
          refine WL.setD hE hS 0 rfl (runs_plain rfl) rfl rfl (vs := [.int .i64 (w64 (x105 + 1))]) rfl ty3 rfl rfl rfl h97 hn99 (sx_some hx121).1 hx121 rfl rfl ?_; clear hE hS a w; intro cs122 a w h123 hn124 hE hS
          refine WL.nil ?_
          refine W.region ?_
          refine WL.vS hS hE (runs_plain rfl) (Gives.inc hE rfl (by have := h82.small; omega)) rfl ?_; clear hE a; intro a hE
          refine WL.vS hS hE (runs_plain rfl) (Gives.p hE rfl) rfl ?_; clear hE a; intro a hE
          refine WL.nil ?_
          subst hK100
          exact ⟨rest87.length, Nat.lt_succ_self _, rest87, k85 + 1, x120, cs122, rfl, hd88, hq83, h123, hn124, hE.pick _ ⟨rfl, rfl, rfl, rfl, rfl, rfl, rfl, rfl, rfl, rfl, trivial⟩, hS⟩
      · clear hE hS a w; rintro a w ⟨q94, cs98, rfl, h97, hn99, hE, hS⟩
        refine W.region ?_
        refine WL.vS hS hE (runs_plain rfl) (Gives.inc hE rfl (by have := h1.small; omega)) rfl ?_; clear hE a; intro a hE
        refine WL.vS hS hE (runs_plain rfl) (Gives.p hE rfl) rfl ?_; clear hE a; intro a hE
        refine WL.nil ?_
        subst hK75
        exact ⟨rest62.length, Nat.lt_succ_self _, rest62, k60 + 1, q94, cs98, rfl, hd63, hq58, h97, hn99, hE.pick _ ⟨rfl, rfl, rfl, rfl, rfl, rfl, rfl, trivial⟩, hS⟩
  · clear hE hS a w; rintro a w ⟨q69, cs73, rfl, h72, hn74, hE, hS⟩
    refine W.seq ?_
    refine W.seq ?_
    refine W.region ?_
    refine WL.vS hS hE (runs_plain rfl) (Gives.p hE rfl) rfl ?_; clear hE a; intro a hE
    refine WL.vS hS hE (runs_plain rfl) (Gives.len hE rfl sl44) rfl ?_; clear hE a; intro a hE
    refine WL.vS hS hE (runs_plain rfl) (Gives.p hE rfl) rfl ?_; clear hE a; intro a hE
    refine WL.nil ?_
    have hb136 : x52.length ≤ 9223372036854775807 := by have := hS.vecCap 0 rfl; unfold maxLen at this; omega
    obtain ⟨q126, hq125, hr⟩ := bindS hr
    refine W.cut (fun a w => (.next ()) = q126 ∧ Rep a 50 [(0, .slice a0 x0.length c0), (1, .slice a1 x1.length c1), (5, .pointer (some ⟨b51, 0, none⟩))] ∧ St w s (vecC 3 1 (some ⟨b54, 0, none⟩) x52.length x52.length cs73 :: pt b51 (.cells (FleetLimits.cells x2).toArray 24 (0, 0)) :: R)) ?_ ?_
    · refine W.block ?_
      refine W.loop (fun m a w => ∃ (rest129 : Nat) (k127 : Nat), rest129 = m ∧ k127 + rest129 = x52.length ∧ Fishref2RosterCode.loop3 q69 rest129 k127 = some q126 ∧ Rep a 50 [(0, .slice a0 x0.length c0), (1, .slice a1 x1.length c1), (5, .pointer (some ⟨b51, 0, none⟩)), (37, .slice (some ⟨b54, 0, none⟩) x52.length x52.length), (38, .int .i64 ((x52.length : Nat) : Int)), (39, .int .i64 ((k127 : Nat) : Int))] ∧ St w s (vecC 3 1 (some ⟨b54, 0, none⟩) x52.length x52.length cs73 :: pt b51 (.cells (FleetLimits.cells x2).toArray 24 (0, 0)) :: R)) (m := x52.length) ⟨x52.length, 0, rfl, by omega, hq125, hE.pick _ ⟨rfl, rfl, rfl, rfl, rfl, rfl, trivial⟩, hS⟩ ?_
      clear hE hS a w hq125; rintro m133 a w ⟨rest129, k127, rfl, hd130, hq125, hE, hS⟩
      refine W.gen fun K137 hK137 => ?_
      rcases rest129 with _ | rest129
      · skip
        refine W.seq ?_
        refine W.region ?_
        refine WL.vS hS hE (runs_plain rfl) (Gives.p hE rfl) rfl ?_; clear hE a; intro a hE
        refine WL.nil ?_
        refine W.seq ?_
        refine W.condF hE rfl (decide_eq_false (by omega)) ?_
        subst hK137
        refine W.exit rfl ?_
        exact ⟨Option.some.inj hq125, hE.pick _ ⟨rfl, rfl, rfl, trivial⟩, hS⟩
      · have hlt131 : k127 < x52.length := by omega
        rw [Fishref2RosterCode.loop3] at hq125
        refine W.seq ?_
        refine W.region ?_
        refine WL.vS hS hE (runs_plain rfl) (Gives.p hE rfl) rfl ?_; clear hE a; intro a hE
        refine WL.nil ?_
        refine W.seq ?_
        refine W.condT hE rfl (decide_eq_true (by omega)) ?_
        refine W.skip ?_
        refine W.seq ?_
        refine W.block ?_
        refine W.seq ?_
        refine W.region ?_
        obtain ⟨x138, hx139, hq125⟩ := bindS hq125
        obtain ⟨hi140, hlt141, hy142⟩ := gx_some hx139
        obtain ⟨vs143, hl144, hR145, hd146, hget147⟩ := h72.at hy142
        subst hR145
        refine WL.vS hS hE (runs_plain rfl) (Gives.idx hE ((((k127 : Nat) : Int)).toNat) rfl rfl sl44 hi140 (by have := hn74; omega) (hS.vecAok 0 rfl (by have := hn74; omega : (((k127 : Nat) : Int)).toNat < x52.length))) rfl ?_; clear hE a; intro a hE
        refine WL.vS hS hE (runs_plain rfl) (Gives.load1 hE rfl (fun w h => St.vecSees h 0 rfl ((((k127 : Nat) : Int)).toNat * 1) _ hget147) ty3) rfl ?_; clear hE a; intro a hE
        refine WL.vS hS hE (runs_plain rfl) (Gives.p hE rfl) rfl ?_; clear hE a; intro a hE
        refine WL.nil ?_
        refine W.seq ?_
        refine W.region ?_
        refine WL.vS hS hE (runs_plain rfl) (Gives.p hE rfl) rfl ?_; clear hE a; intro a hE
        refine WL.vS hS hE (runs_plain rfl) (Gives.p hE rfl) rfl ?_; clear hE a; intro a hE
        refine WL.nil ?_
        refine W.cond hE rfl (fun hc148 => ?_) (fun hc148 => ?_)
        · replace hq125 := iteT hc148 hq125
          refine W.seq ?_
          refine W.region ?_
          refine WL.vS hS hE (runs_plain rfl) (Gives.p hE rfl) rfl ?_; clear hE a; intro a hE
          refine WL.nil ?_
          refine W.ret ?_
          subst hK137
          rw [← Option.some.inj hq125] at hr
          dsimp only at hr
          refine finG (fn := Try.f158) (rs := [.tmp 6]) (vs := [_]) hE rfl ⟨rfl, trivial⟩ ?_
          obtain rfl := Option.some.inj hr
          replace hS := hS.tail
          replace hS := hS.tail
          exact ⟨rfl, hS⟩
        · replace hq125 := iteF hc148 hq125
          refine W.skip ?_
          refine W.region ?_
          refine WL.vS hS hE (runs_plain rfl) (Gives.inc hE rfl (by omega)) rfl ?_; clear hE a; intro a hE
          refine WL.vS hS hE (runs_plain rfl) (Gives.p hE rfl) rfl ?_; clear hE a; intro a hE
          refine WL.nil ?_
          subst hK137
          exact ⟨rest129, Nat.lt_succ_self _, rest129, k127 + 1, rfl, (by omega), hq125, hE.pick _ ⟨rfl, rfl, rfl, rfl, rfl, rfl, trivial⟩, hS⟩
    · clear hE hS a w; rintro a w ⟨rfl, hE, hS⟩
      dsimp only at hr
      refine W.seq ?_
      refine W.region ?_
      refine WL.vS hS hE (runs_plain rfl) (Gives.p hE rfl) rfl ?_; clear hE a; intro a hE
      refine WL.vS hS hE (runs_plain rfl) (Gives.p hE rfl) rfl ?_; clear hE a; intro a hE
      refine WL.vS hS hE (runs_plain rfl) (Gives.loadBA hE 1 rfl rfl ty24) rfl ?_; clear hE a; intro a hE
      obtain ⟨q149, hq150, hr⟩ := bindS hr
      have hc_ := Fishref2later_ok hS h0 h1 hq150
      refine WL.fnq hE (hc_) (runs_plain rfl) bd49 rfl rfl rfl ?_
      clear hE hS hc_; rintro e w ⟨rfl, hS⟩; refine ⟨_, rfl, ?_⟩; clear a; intro a hE
      refine WL.vS hS hE (runs_plain rfl) (Gives.p hE rfl) rfl ?_; clear hE a; intro a hE
      refine WL.nil ?_
      refine W.ret ?_
      refine finG (fn := Try.f158) (rs := [.tmp 6]) (vs := [_]) hE rfl ⟨rfl, trivial⟩ ?_
      obtain rfl := Option.some.inj hr
      replace hS := hS.tail
      replace hS := hS.tail
      exact ⟨rfl, hS⟩
set_option maxHeartbeats 8000000 in
theorem Fishref2JudgeRosterOf_ok  {w : World} {s : Sg} {R : List HP} {x0 : List FleetShift} {a0 : Option Addr} {c0 : Nat} {x1 : List (List Int)} {a1 : Option Addr} {c1 : Nat} {x2 : FleetLimits} (hS : St w s (R)) (h0 : Sl 3 RFleetShift s a0 c0 x0) (h1 : Sl 1 (RL 1 (RI .i64)) s a1 c1 x1) {r : Int × Int} (hr : Fishref2JudgeRosterOf x0 x1 x2 = some r) :
    Calls Try.prog 126 [.slice a0 x0.length c0, .slice a1 x1.length c1, .agg (FleetLimits.cells x2).toArray].toArray w (fun e w => e = .returned (.tuple #[.int .i64 r.1, .int .i64 r.2]) ∧ St w s (R)) := by
  refine enter Try.func126 rfl rfl rfl fun a hE => ?_
  rw [Fishref2JudgeRosterOf] at hr
  refine W.seq ?_
  refine W.region ?_
  refine WL.box hE hS (runs_plain rfl) rfl rfl rfl ?_; clear hE hS a w; intro b51 a w hE hS
  refine WL.vS hS hE (runs_plain rfl) (Gives.p hE rfl) rfl ?_; clear hE a; intro a hE
  refine WL.vS hS hE (runs_plain rfl) (Gives.p hE rfl) rfl ?_; clear hE a; intro a hE
  refine WL.nil ?_
  refine W.seq ?_
  refine W.seq ?_
  refine W.region ?_
  refine WL.vS hS hE (runs_plain rfl) (Gives.p hE rfl) rfl ?_; clear hE a; intro a hE
  refine WL.fnq hE (Fishref2ShiftsFault_ok hS h0 rfl (r := Fishref2ShiftsFault x0)) (runs_plain rfl) bd43 rfl rfl rfl ?_
  clear hE hS; rintro e w ⟨rfl, hS⟩; refine ⟨_, rfl, ?_⟩; clear a; intro a hE
  refine WL.vS hS hE (runs_plain rfl) (Gives.p hE rfl) rfl ?_; clear hE a; intro a hE
  refine WL.nil ?_
  refine W.seq ?_
  refine W.region ?_
  refine WL.vS hS hE (runs_plain rfl) (Gives.p hE rfl) rfl ?_; clear hE a; intro a hE
  refine WL.vS hS hE (runs_plain rfl) (Gives.p hE rfl) rfl ?_; clear hE a; intro a hE
  refine WL.nil ?_
  refine W.cond hE rfl (fun hc52 => ?_) (fun hc52 => ?_)
  · replace hr := iteT hc52 hr
    refine W.seq ?_
    refine W.region ?_
    refine WL.vS hS hE (runs_plain rfl) (Gives.p hE rfl) rfl ?_; clear hE a; intro a hE
    refine WL.vS hS hE (runs_plain rfl) (Gives.p hE rfl) rfl ?_; clear hE a; intro a hE
    refine WL.vS hS hE (runs_plain rfl) (Gives.p hE rfl) rfl ?_; clear hE a; intro a hE
    refine WL.nil ?_
    refine W.ret ?_
    refine finG (fn := Try.f126) (rs := [.tmp 6, .tmp 7]) (vs := [_, _]) hE rfl ⟨rfl, rfl, trivial⟩ ?_
    obtain rfl := Option.some.inj hr
    replace hS := hS.tail
    exact ⟨rfl, hS⟩
  · replace hr := iteF hc52 hr
    refine W.skip ?_
    refine W.seq ?_
    refine W.seq ?_
    refine W.region ?_
    refine WL.vS hS hE (runs_plain rfl) (Gives.loadBA hE 0 rfl rfl ty24) rfl ?_; clear hE a; intro a hE
    refine WL.fnq hE (Fishref2LimitsFault_ok hS  rfl (r := Fishref2LimitsFault x2)) (runs_plain rfl) bd44 rfl rfl rfl ?_
    clear hE hS; rintro e w ⟨rfl, hS⟩; refine ⟨_, rfl, ?_⟩; clear a; intro a hE
    refine WL.vS hS hE (runs_plain rfl) (Gives.p hE rfl) rfl ?_; clear hE a; intro a hE
    refine WL.nil ?_
    refine W.seq ?_
    refine W.region ?_
    refine WL.vS hS hE (runs_plain rfl) (Gives.p hE rfl) rfl ?_; clear hE a; intro a hE
    refine WL.vS hS hE (runs_plain rfl) (Gives.p hE rfl) rfl ?_; clear hE a; intro a hE
    refine WL.nil ?_
    refine W.cond hE rfl (fun hc53 => ?_) (fun hc53 => ?_)
    · replace hr := iteT hc53 hr
      refine W.seq ?_
      refine W.region ?_
      refine WL.vS hS hE (runs_plain rfl) (Gives.p hE rfl) rfl ?_; clear hE a; intro a hE
      refine WL.vS hS hE (runs_plain rfl) (Gives.p hE rfl) rfl ?_; clear hE a; intro a hE
      refine WL.vS hS hE (runs_plain rfl) (Gives.p hE rfl) rfl ?_; clear hE a; intro a hE
      refine WL.nil ?_
      refine W.ret ?_
      refine finG (fn := Try.f126) (rs := [.tmp 6, .tmp 7]) (vs := [_, _]) hE rfl ⟨rfl, rfl, trivial⟩ ?_
      obtain rfl := Option.some.inj hr
      replace hS := hS.tail
      exact ⟨rfl, hS⟩
    · replace hr := iteF hc53 hr
      refine W.skip ?_
      refine W.seq ?_
      refine W.seq ?_
      refine W.region ?_
      refine WL.vS hS hE (runs_plain rfl) (Gives.p hE rfl) rfl ?_; clear hE a; intro a hE
      refine WL.vS hS hE (runs_plain rfl) (Gives.p hE rfl) rfl ?_; clear hE a; intro a hE
      refine WL.fnq hE (Fishref2RosterFault_ok hS h0 h1 rfl (r := Fishref2RosterFault x0 x1)) (runs_plain rfl) bd157 rfl rfl rfl ?_
      clear hE hS; rintro e w ⟨rfl, hS⟩; refine ⟨_, rfl, ?_⟩; clear a; intro a hE
      refine WL.vS hS hE (runs_plain rfl) (Gives.p hE rfl) rfl ?_; clear hE a; intro a hE
      refine WL.nil ?_
      refine W.seq ?_
      refine W.region ?_
      refine WL.vS hS hE (runs_plain rfl) (Gives.p hE rfl) rfl ?_; clear hE a; intro a hE
      refine WL.vS hS hE (runs_plain rfl) (Gives.p hE rfl) rfl ?_; clear hE a; intro a hE
      refine WL.nil ?_
      refine W.cond hE rfl (fun hc54 => ?_) (fun hc54 => ?_)
      · replace hr := iteT hc54 hr
        refine W.seq ?_
        refine W.region ?_
        refine WL.vS hS hE (runs_plain rfl) (Gives.p hE rfl) rfl ?_; clear hE a; intro a hE
        refine WL.vS hS hE (runs_plain rfl) (Gives.p hE rfl) rfl ?_; clear hE a; intro a hE
        refine WL.vS hS hE (runs_plain rfl) (Gives.p hE rfl) rfl ?_; clear hE a; intro a hE
        refine WL.nil ?_
        refine W.ret ?_
        refine finG (fn := Try.f126) (rs := [.tmp 6, .tmp 7]) (vs := [_, _]) hE rfl ⟨rfl, rfl, trivial⟩ ?_
        obtain rfl := Option.some.inj hr
        replace hS := hS.tail
        exact ⟨rfl, hS⟩
      · replace hr := iteF hc54 hr
        refine W.skip ?_
        refine W.seq ?_
        refine W.region ?_
        refine WL.vS hS hE (runs_plain rfl) (Gives.p hE rfl) rfl ?_; clear hE a; intro a hE
        refine WL.vS hS hE (runs_plain rfl) (Gives.p hE rfl) rfl ?_; clear hE a; intro a hE
        refine WL.vS hS hE (runs_plain rfl) (Gives.loadBA hE 0 rfl rfl ty24) rfl ?_; clear hE a; intro a hE
        obtain ⟨q55, hq56, hr⟩ := bindS hr
        have hc_ := Fishref2RosterCode_ok hS h0 h1 hq56
        refine WL.fnq hE (hc_) (runs_plain rfl) bd158 rfl rfl rfl ?_
        clear hE hS hc_; rintro e w ⟨rfl, hS⟩; refine ⟨_, rfl, ?_⟩; clear a; intro a hE
        refine WL.vS hS hE (runs_plain rfl) (Gives.p hE rfl) rfl ?_; clear hE a; intro a hE
        refine WL.vS hS hE (runs_plain rfl) (Gives.p hE rfl) rfl ?_; clear hE a; intro a hE
        refine WL.nil ?_
        refine W.ret ?_
        refine finG (fn := Try.f126) (rs := [.tmp 6, .tmp 7]) (vs := [_, _]) hE rfl ⟨rfl, rfl, trivial⟩ ?_
        obtain rfl := Option.some.inj hr
        replace hS := hS.tail
        exact ⟨rfl, hS⟩
set_option maxHeartbeats 8000000 in
theorem Fishref2StandInsFault_ok  {w : World} {s : Sg} {R : List HP} {x0 : List FleetShift} {a0 : Option Addr} {c0 : Nat} {x1 : List (List Int)} {a1 : Option Addr} {c1 : Nat} {x2 : FleetLimits} {x3 : List FleetAbsence} {a3 : Option Addr} {c3 : Nat} (hS : St w s (R)) (h0 : Sl 3 RFleetShift s a0 c0 x0) (h1 : Sl 1 (RL 1 (RI .i64)) s a1 c1 x1) (h3 : Sl 2 RFleetAbsence s a3 c3 x3) {r : Int} (hr : Fishref2StandInsFault x0 x1 x2 x3 = some r) :
    Calls Try.prog 90 [.slice a0 x0.length c0, .slice a1 x1.length c1, .agg (FleetLimits.cells x2).toArray, .slice a3 x3.length c3].toArray w (fun e w => e = .returned (.int .i64 r) ∧ St w s (R)) := by
  refine enter Try.func90 rfl rfl rfl fun a hE => ?_
  rw [Fishref2StandInsFault] at hr
  refine W.seq ?_
  refine W.region ?_
  refine WL.box hE hS (runs_plain rfl) rfl rfl rfl ?_; clear hE hS a w; intro b51 a w hE hS
  refine WL.vS hS hE (runs_plain rfl) (Gives.p hE rfl) rfl ?_; clear hE a; intro a hE
  refine WL.nil ?_
  refine W.seq ?_
  refine W.region ?_
  refine WL.vS hS hE (runs_plain rfl) (Gives.p hE rfl) rfl ?_; clear hE a; intro a hE
  refine WL.vS hS hE (runs_plain rfl) (Gives.p hE rfl) rfl ?_; clear hE a; intro a hE
  refine WL.vS hS hE (runs_plain rfl) (Gives.loadBA hE 0 rfl rfl ty24) rfl ?_; clear hE a; intro a hE
  obtain ⟨q52, hq53, hr⟩ := bindS hr
  have hc_ := Fishref2JudgeRosterOf_ok hS h0 h1 hq53
  refine WL.fnq hE (hc_) (runs_plain rfl) bd126 rfl rfl rfl ?_
  clear hE hS hc_; rintro e w ⟨rfl, hS⟩; refine ⟨_, rfl, ?_⟩; clear a; intro a hE
  refine WL.vS hS hE (runs_plain rfl) (Gives.p hE rfl) rfl ?_; clear hE a; intro a hE
  refine WL.vS hS hE (runs_plain rfl) (Gives.p hE rfl) rfl ?_; clear hE a; intro a hE
  refine WL.vS hS hE (runs_plain rfl) (Gives.p hE rfl) rfl ?_; clear hE a; intro a hE
  refine WL.vS hS hE (runs_plain rfl) (Gives.p hE rfl) rfl ?_; clear hE a; intro a hE
  refine WL.vS hS hE (runs_plain rfl) (Gives.p hE rfl) rfl ?_; clear hE a; intro a hE
  refine WL.nil ?_
  refine W.seq ?_
  refine W.seq ?_
  refine W.region ?_
  refine WL.vS hS hE (runs_plain rfl) (Gives.p hE rfl) rfl ?_; clear hE a; intro a hE
  refine WL.vS hS hE (runs_plain rfl) (Gives.p hE rfl) rfl ?_; clear hE a; intro a hE
  refine WL.nil ?_
  refine W.cond hE rfl (fun hc54 => ?_) (fun hc54 => ?_)
  · replace hr := iteT hc54 hr
    refine W.seq ?_
    refine W.region ?_
    refine WL.vS hS hE (runs_plain rfl) (Gives.p hE rfl) rfl ?_; clear hE a; intro a hE
    refine WL.vS hS hE (runs_plain rfl) (Gives.p hE rfl) rfl ?_; clear hE a; intro a hE
    refine WL.nil ?_
    refine W.ret ?_
    refine finG (fn := Try.f90) (rs := [.tmp 8]) (vs := [_]) hE rfl ⟨rfl, trivial⟩ ?_
    obtain rfl := Option.some.inj hr
    replace hS := hS.tail
    exact ⟨rfl, hS⟩
  · replace hr := iteF hc54 hr
    refine W.skip ?_
    refine W.seq ?_
    refine W.seq ?_
    refine W.region ?_
    refine WL.vS hS hE (runs_plain rfl) (Gives.p hE rfl) rfl ?_; clear hE a; intro a hE
    refine WL.vS hS hE (runs_plain rfl) (Gives.p hE rfl) rfl ?_; clear hE a; intro a hE
    refine WL.nil ?_
    refine W.cond hE rfl (fun hc55 => ?_) (fun hc55 => ?_)
    · replace hr := iteT hc55 hr
      refine W.seq ?_
      refine W.region ?_
      refine WL.vS hS hE (runs_plain rfl) (Gives.p hE rfl) rfl ?_; clear hE a; intro a hE
      refine WL.nil ?_
      refine W.ret ?_
      refine finG (fn := Try.f90) (rs := [.tmp 8]) (vs := [_]) hE rfl ⟨rfl, trivial⟩ ?_
      obtain rfl := Option.some.inj hr
      replace hS := hS.tail
      exact ⟨rfl, hS⟩
    · replace hr := iteF hc55 hr
      refine W.skip ?_
      refine W.seq ?_
      refine W.seq ?_
      refine W.region ?_
      refine WL.vS hS hE (runs_plain rfl) (Gives.p hE rfl) rfl ?_; clear hE a; intro a hE
      refine WL.vS hS hE (runs_plain rfl) (Gives.len hE rfl sl59) rfl ?_; clear hE a; intro a hE
      refine WL.vS hS hE (runs_plain rfl) (Gives.p hE rfl) rfl ?_; clear hE a; intro a hE
      refine WL.nil ?_
      obtain ⟨q57, hq56, hr⟩ := bndS hr
      refine W.cut (fun a w => (.next ()) = q57 ∧ Rep a 48 [] ∧ St w s (pt b51 (.cells (FleetLimits.cells x2).toArray 24 (0, 0)) :: R)) ?_ ?_
      · refine W.block ?_
        refine W.loop (fun m a w => ∃ (rest60 : List FleetAbsence) (k58 : Nat), rest60.length = m ∧ x3.drop k58 = rest60 ∧ Fishref2StandInsFault.loop1 x1 rest60 = q57 ∧ Rep a 48 [(1, .slice a1 x1.length c1), (25, .slice a3 x3.length c3), (26, .int .i64 ((x3).length : Int)), (27, .int .i64 ((k58 : Nat) : Int))] ∧ St w s (pt b51 (.cells (FleetLimits.cells x2).toArray 24 (0, 0)) :: R)) (m := x3.length) ⟨x3, 0, rfl, rfl, hq56, hE.pick _ ⟨rfl, rfl, rfl, rfl, trivial⟩, hS⟩ ?_
        clear hE hS a w hq56; rintro m64 a w ⟨rest60, k58, rfl, hd61, hq56, hE, hS⟩
        refine W.gen fun K67 hK67 => ?_
        rcases rest60 with _ | ⟨x59, rest60⟩
        · have hlt62 := drop_nil hd61
          refine W.seq ?_
          refine W.region ?_
          refine WL.vS hS hE (runs_plain rfl) (Gives.p hE rfl) rfl ?_; clear hE a; intro a hE
          refine WL.nil ?_
          refine W.seq ?_
          refine W.condF hE rfl (decide_eq_false (by omega)) ?_
          subst hK67
          refine W.exit rfl ?_
          exact ⟨hq56, hE.pick _ trivial, hS⟩
        · obtain ⟨hlt62, hx63, hd61⟩ := drop_cons hd61
          rw [Fishref2StandInsFault.loop1] at hq56
          refine W.seq ?_
          refine W.region ?_
          refine WL.vS hS hE (runs_plain rfl) (Gives.p hE rfl) rfl ?_; clear hE a; intro a hE
          refine WL.nil ?_
          refine W.seq ?_
          refine W.condT hE rfl (decide_eq_true (by omega)) ?_
          refine W.skip ?_
          refine W.seq ?_
          refine W.block ?_
          refine W.seq ?_
          refine W.region ?_
          obtain ⟨cs68, hl69, hR70, hat71⟩ := h3.at hx63
          subst hR70
          refine WL.vS hS hE (runs_plain rfl) (Gives.idx hE k58 rfl rfl sl59 rfl hlt62 (h3.aok hlt62)) rfl ?_; clear hE a; intro a hE
          refine WL.vS hS hE (runs_plain rfl) (Gives.loadA hE rfl (fun w h => hat71 w _ h) ty123) rfl ?_; clear hE a; intro a hE
          refine WL.alloc hE hS (runs_plain rfl) zr123 rfl ?_; clear hE hS a w; intro b72 a w hE hS
          refine WL.storeI hE hS 0 rfl (FleetAbsence.cells x59) (runs_plain rfl) rfl rfl rfl ty123 rfl rfl rfl rfl ?_; clear hE hS a w; intro a w hE hS
          refine WL.nil ?_
          refine W.seq ?_
          obtain ⟨q74, hq73, hq56⟩ := bndS hq56
          refine W.cut (fun a w => ∃ (q77 : Bool), q77 = q74 ∧ Rep a 48 [(1, .slice a1 x1.length c1), (25, .slice a3 x3.length c3), (26, .int .i64 ((x3).length : Int)), (27, .int .i64 ((k58 : Nat) : Int)), (46, .bool q77)] ∧ St w s (pt b72 (.cells (FleetAbsence.cells x59).toArray 123 (0, 0)) :: pt b51 (.cells (FleetLimits.cells x2).toArray 24 (0, 0)) :: R)) ?_ ?_
          · refine W.gen fun K78 hK78 => ?_
            refine W.region ?_
            refine WL.vS hS hE (runs_plain rfl) (Gives.fld hE rfl fl123_0) rfl ?_; clear hE a; intro a hE
            refine WL.vS hS hE (runs_plain rfl) (Gives.loadB hE 0 rfl rfl rfl ty3) rfl ?_; clear hE a; intro a hE
            refine WL.vS hS hE (runs_plain rfl) (Gives.p hE rfl) rfl ?_; clear hE a; intro a hE
            refine WL.vS hS hE (runs_plain rfl) (Gives.p hE rfl) rfl ?_; clear hE a; intro a hE
            rcases Bool.eq_false_or_eq_true (decide (x59.Driver < 0)) with hg79 | hg79
            · replace hq73 := iteT hg79 hq73
              refine WL.no hE (runs_not hE rfl rfl rfl (by rw [hg79]; decide)) rfl ?_; clear hE a; intro a hE
              refine WL.no hE (runs_not hE rfl rfl rfl (by rw [hg79]; decide)) rfl ?_; clear hE a; intro a hE
              refine WL.no hE (runs_not hE rfl rfl rfl (by rw [hg79]; decide)) rfl ?_; clear hE a; intro a hE
              refine WL.no hE (runs_not hE rfl rfl rfl (by rw [hg79]; decide)) rfl ?_; clear hE a; intro a hE
              refine WL.no hE (runs_not hE rfl rfl rfl (by rw [hg79]; decide)) rfl ?_; clear hE a; intro a hE
              refine WL.vS hS hE (runs_plain rfl) (Gives.pickT hE rfl hg79 rfl) rfl ?_; clear hE a; intro a hE
              refine WL.vS hS hE (runs_plain rfl) (Gives.p hE rfl) rfl ?_; clear hE a; intro a hE
              refine WL.no hE (runs_not hE rfl rfl rfl (by decide)) rfl ?_; clear hE a; intro a hE
              refine WL.no hE (runs_not hE rfl rfl rfl (by decide)) rfl ?_; clear hE a; intro a hE
              refine WL.no hE (runs_not hE rfl rfl rfl (by decide)) rfl ?_; clear hE a; intro a hE
              refine WL.no hE (runs_not hE rfl rfl rfl (by decide)) rfl ?_; clear hE a; intro a hE
              refine WL.vS hS hE (runs_plain rfl) (Gives.pickT hE rfl rfl rfl) rfl ?_; clear hE a; intro a hE
              refine WL.nil ?_
              subst hK78
              exact ⟨true, hq73, hE.pick _ ⟨rfl, rfl, rfl, rfl, rfl, trivial⟩, hS⟩
            · replace hq73 := iteF hg79 hq73
              refine WL.vS hS hE (runs_if hE rfl rfl rfl hg79) (Gives.fld hE rfl fl123_0) rfl ?_; clear hE a; intro a hE
              refine WL.vS hS hE (runs_if hE rfl rfl rfl hg79) (Gives.loadB hE 0 rfl rfl rfl ty3) rfl ?_; clear hE a; intro a hE
              refine WL.vS hS hE (runs_if hE rfl rfl rfl hg79) (Gives.p hE rfl) rfl ?_; clear hE a; intro a hE
              refine WL.vS hS hE (runs_if hE rfl rfl rfl hg79) (Gives.len hE rfl sl25) rfl ?_; clear hE a; intro a hE
              refine WL.vS hS hE (runs_if hE rfl rfl rfl hg79) (Gives.p hE rfl) rfl ?_; clear hE a; intro a hE
              refine WL.vS hS hE (runs_plain rfl) (Gives.pickF hE rfl hg79 rfl) rfl ?_; clear hE a; intro a hE
              refine WL.vS hS hE (runs_plain rfl) (Gives.p hE rfl) rfl ?_; clear hE a; intro a hE
              rcases Bool.eq_false_or_eq_true (decide (x59.Driver ≥ ((x1).length : Int))) with hg80 | hg80
              · replace hq73 := iteT hg80 hq73
                refine WL.no hE (runs_not hE rfl rfl rfl (by rw [hg80]; decide)) rfl ?_; clear hE a; intro a hE
                refine WL.no hE (runs_not hE rfl rfl rfl (by rw [hg80]; decide)) rfl ?_; clear hE a; intro a hE
                refine WL.no hE (runs_not hE rfl rfl rfl (by rw [hg80]; decide)) rfl ?_; clear hE a; intro a hE
                refine WL.no hE (runs_not hE rfl rfl rfl (by rw [hg80]; decide)) rfl ?_; clear hE a; intro a hE
                refine WL.vS hS hE (runs_plain rfl) (Gives.pickT hE rfl hg80 rfl) rfl ?_; clear hE a; intro a hE
                refine WL.nil ?_
                subst hK78
                exact ⟨true, hq73, hE.pick _ ⟨rfl, rfl, rfl, rfl, rfl, trivial⟩, hS⟩
              · replace hq73 := iteF hg80 hq73
                refine WL.vS hS hE (runs_if hE rfl rfl rfl hg80) (Gives.fld hE rfl fl123_1) rfl ?_; clear hE a; intro a hE
                refine WL.vS hS hE (runs_if hE rfl rfl rfl hg80) (Gives.loadB hE 0 rfl rfl rfl ty3) rfl ?_; clear hE a; intro a hE
                refine WL.fnq hE (Fishref2within_ok hS  rfl (r := Fishref2within x59.Day 0 6)) (runs_if hE rfl rfl rfl hg80) bd45 rfl rfl rfl ?_
                clear hE hS; rintro e w ⟨rfl, hS⟩; refine ⟨_, rfl, ?_⟩; clear a; intro a hE
                refine WL.vS hS hE (runs_if hE rfl rfl rfl hg80) (Gives.p hE rfl) rfl ?_; clear hE a; intro a hE
                refine WL.vS hS hE (runs_plain rfl) (Gives.pickF hE rfl hg80 rfl) rfl ?_; clear hE a; intro a hE
                refine WL.nil ?_
                subst hK78
                exact ⟨!(Fishref2within x59.Day 0 6), hq73, hE.pick _ ⟨rfl, rfl, rfl, rfl, rfl, trivial⟩, hS⟩
          · clear hE hS a w; rintro a w ⟨q77, rfl, hE, hS⟩
            refine W.cond hE rfl (fun hc81 => ?_) (fun hc81 => ?_)
            · replace hq56 := iteT hc81 hq56
              refine W.seq ?_
              refine W.region ?_
              refine WL.vS hS hE (runs_plain rfl) (Gives.p hE rfl) rfl ?_; clear hE a; intro a hE
              refine WL.nil ?_
              refine W.ret ?_
              subst hK67
              rw [← hq56] at hr
              dsimp only at hr
              refine finG (fn := Try.f90) (rs := [.tmp 8]) (vs := [_]) hE rfl ⟨rfl, trivial⟩ ?_
              obtain rfl := Option.some.inj hr
              replace hS := hS.tail
              replace hS := hS.tail
              exact ⟨rfl, hS⟩
            · replace hq56 := iteF hc81 hq56
              refine W.skip ?_
              refine W.region ?_
              refine WL.vS hS hE (runs_plain rfl) (Gives.inc hE rfl (by have := h3.small; omega)) rfl ?_; clear hE a; intro a hE
              refine WL.vS hS hE (runs_plain rfl) (Gives.p hE rfl) rfl ?_; clear hE a; intro a hE
              refine WL.nil ?_
              replace hS := hS.tail
              subst hK67
              exact ⟨rest60.length, Nat.lt_succ_self _, rest60, k58 + 1, rfl, hd61, hq56, hE.pick _ ⟨rfl, rfl, rfl, rfl, trivial⟩, hS⟩
      · clear hE hS a w; rintro a w ⟨rfl, hE, hS⟩
        dsimp only at hr
        refine W.seq ?_
        refine W.region ?_
        refine WL.vS hS hE (runs_plain rfl) (Gives.p hE rfl) rfl ?_; clear hE a; intro a hE
        refine WL.nil ?_
        refine W.ret ?_
        refine finG (fn := Try.f90) (rs := [.tmp 8]) (vs := [_]) hE rfl ⟨rfl, trivial⟩ ?_
        obtain rfl := Option.some.inj hr
        replace hS := hS.tail
        exact ⟨rfl, hS⟩
set_option maxHeartbeats 8000000 in
theorem SlicesIndexLfleetAbsence_ok  {w : World} {s : Sg} {R : List HP} {x0 : List FleetAbsence} {a0 : Option Addr} {c0 : Nat} {x1 : FleetAbsence} (hS : St w s (R)) (h0 : Sl 2 RFleetAbsence s a0 c0 x0) {r : Int} (hr : SlicesIndexLfleetAbsence x0 x1 = r) :
    Calls Try.prog 127 [.slice a0 x0.length c0, .agg (FleetAbsence.cells x1).toArray].toArray w (fun e w => e = .returned (.int .i64 r) ∧ St w s (R)) := by
  refine enter Try.func127 rfl rfl rfl fun a hE => ?_
  rw [SlicesIndexLfleetAbsence] at hr
  refine W.seq ?_
  refine W.region ?_
  refine WL.box hE hS (runs_plain rfl) rfl rfl rfl ?_; clear hE hS a w; intro b51 a w hE hS
  refine WL.vS hS hE (runs_plain rfl) (Gives.p hE rfl) rfl ?_; clear hE a; intro a hE
  refine WL.nil ?_
  refine W.seq ?_
  refine W.seq ?_
  refine W.region ?_
  refine WL.vS hS hE (runs_plain rfl) (Gives.p hE rfl) rfl ?_; clear hE a; intro a hE
  refine WL.vS hS hE (runs_plain rfl) (Gives.len hE rfl sl59) rfl ?_; clear hE a; intro a hE
  refine WL.vS hS hE (runs_plain rfl) (Gives.p hE rfl) rfl ?_; clear hE a; intro a hE
  refine WL.nil ?_
  obtain ⟨q53, hq52, hr⟩ := bndS hr
  refine W.cut (fun a w => (.next ()) = q53 ∧ Rep a 19 [] ∧ St w s (pt b51 (.cells (FleetAbsence.cells x1).toArray 123 (0, 0)) :: R)) ?_ ?_
  · refine W.block ?_
    refine W.loop (fun m a w => ∃ (rest56 : List FleetAbsence) (k54 : Nat), rest56.length = m ∧ x0.drop k54 = rest56 ∧ SlicesIndexLfleetAbsence.loop1 x1 rest56 k54 = q53 ∧ Rep a 19 [(0, .slice a0 x0.length c0), (3, .pointer (some ⟨b51, 0, none⟩)), (7, .int .i64 ((x0).length : Int)), (8, .int .i64 ((k54 : Nat) : Int))] ∧ St w s (pt b51 (.cells (FleetAbsence.cells x1).toArray 123 (0, 0)) :: R)) (m := x0.length) ⟨x0, 0, rfl, rfl, hq52, hE.pick _ ⟨rfl, rfl, rfl, rfl, trivial⟩, hS⟩ ?_
    clear hE hS a w hq52; rintro m60 a w ⟨rest56, k54, rfl, hd57, hq52, hE, hS⟩
    refine W.gen fun K63 hK63 => ?_
    rcases rest56 with _ | ⟨x55, rest56⟩
    · have hlt58 := drop_nil hd57
      refine W.seq ?_
      refine W.region ?_
      refine WL.vS hS hE (runs_plain rfl) (Gives.p hE rfl) rfl ?_; clear hE a; intro a hE
      refine WL.nil ?_
      refine W.seq ?_
      refine W.condF hE rfl (decide_eq_false (by omega)) ?_
      subst hK63
      refine W.exit rfl ?_
      exact ⟨hq52, hE.pick _ trivial, hS⟩
    · obtain ⟨hlt58, hx59, hd57⟩ := drop_cons hd57
      rw [SlicesIndexLfleetAbsence.loop1] at hq52
      refine W.seq ?_
      refine W.region ?_
      refine WL.vS hS hE (runs_plain rfl) (Gives.p hE rfl) rfl ?_; clear hE a; intro a hE
      refine WL.nil ?_
      refine W.seq ?_
      refine W.condT hE rfl (decide_eq_true (by omega)) ?_
      refine W.skip ?_
      refine W.seq ?_
      refine W.block ?_
      refine W.seq ?_
      refine W.region ?_
      refine WL.vS hS hE (runs_plain rfl) (Gives.p hE rfl) rfl ?_; clear hE a; intro a hE
      refine WL.vS hS hE (runs_plain rfl) (Gives.p hE rfl) rfl ?_; clear hE a; intro a hE
      refine WL.nil ?_
      refine W.seq ?_
      refine W.regionQ (C := fun w => St w s (pt b51 (.cells (FleetAbsence.cells x1).toArray 123 (0, 0)) :: R)) mixed (by kernel_rfl) hS.drew ?_
      refine QL.v hE (runs_plain rfl) (Gives.loadBA hE 0 rfl rfl ty123) rfl ?_; clear hE a; intro a hE
      refine QL.v hE (runs_plain rfl) (Gives.p hE rfl) rfl ?_; clear hE a; intro a hE
      refine QL.v hE (runs_plain rfl) (Gives.p hE rfl) rfl ?_; clear hE a; intro a hE
      obtain ⟨cs64, hl65, hR66, hat67⟩ := h0.at hx59
      subst hR66
      refine QL.v hE (runs_plain rfl) (Gives.idx hE k54 rfl rfl sl59 rfl hlt58 (h0.aok hlt58)) rfl ?_; clear hE a; intro a hE
      refine QL.v hE (runs_plain rfl) (Gives.loadA hE rfl (fun w h => hat67 w _ h) ty123) rfl ?_; clear hE a; intro a hE
      refine QL.v hE (runs_plain rfl) (show Gives _ _ _ _ (Value.bool ((x1.Driver == x55.Driver) && (x1.Day == x55.Day))) from Gives.eqS hE [.i .i64, .i .i64] [.i .i64 x1.Driver, .i .i64 x1.Day] [.i .i64 x55.Driver, .i .i64 x55.Day] rfl rfl se123 rfl rfl rfl rfl) rfl ?_; clear hE a; intro a hE
      refine QL.nil ?_; clear hS w; intro w hS
      refine W.cond hE rfl (fun hc68 => ?_) (fun hc68 => ?_)
      · replace hq52 := iteT hc68 hq52
        refine W.seq ?_
        refine W.region ?_
        refine WL.vS hS hE (runs_plain rfl) (Gives.p hE rfl) rfl ?_; clear hE a; intro a hE
        refine WL.vS hS hE (runs_plain rfl) (Gives.p hE rfl) rfl ?_; clear hE a; intro a hE
        refine WL.nil ?_
        refine W.ret ?_
        subst hK63
        rw [← hq52] at hr
        dsimp only at hr
        refine finG (fn := Try.f127) (rs := [.tmp 4]) (vs := [_]) hE rfl ⟨rfl, trivial⟩ ?_
        subst hr
        replace hS := hS.tail
        exact ⟨rfl, hS⟩
      · replace hq52 := iteF hc68 hq52
        refine W.skip ?_
        refine W.region ?_
        refine WL.vS hS hE (runs_plain rfl) (Gives.inc hE rfl (by have := h0.small; omega)) rfl ?_; clear hE a; intro a hE
        refine WL.vS hS hE (runs_plain rfl) (Gives.p hE rfl) rfl ?_; clear hE a; intro a hE
        refine WL.nil ?_
        subst hK63
        exact ⟨rest56.length, Nat.lt_succ_self _, rest56, k54 + 1, rfl, hd57, hq52, hE.pick _ ⟨rfl, rfl, rfl, rfl, trivial⟩, hS⟩
  · clear hE hS a w; rintro a w ⟨rfl, hE, hS⟩
    dsimp only at hr
    refine W.seq ?_
    refine W.region ?_
    refine WL.vS hS hE (runs_plain rfl) (Gives.p hE rfl) rfl ?_; clear hE a; intro a hE
    refine WL.nil ?_
    refine W.ret ?_
    refine finG (fn := Try.f127) (rs := [.tmp 4]) (vs := [_]) hE rfl ⟨rfl, trivial⟩ ?_
    subst hr
    replace hS := hS.tail
    exact ⟨rfl, hS⟩
set_option maxHeartbeats 8000000 in
theorem SlicesContainsLfleetAbsence_ok  {w : World} {s : Sg} {R : List HP} {x0 : List FleetAbsence} {a0 : Option Addr} {c0 : Nat} {x1 : FleetAbsence} (hS : St w s (R)) (h0 : Sl 2 RFleetAbsence s a0 c0 x0) {r : Bool} (hr : SlicesContainsLfleetAbsence x0 x1 = r) :
    Calls Try.prog 92 [.slice a0 x0.length c0, .agg (FleetAbsence.cells x1).toArray].toArray w (fun e w => e = .returned (.bool r) ∧ St w s (R)) := by
  refine enter Try.func92 rfl rfl rfl fun a hE => ?_
  rw [SlicesContainsLfleetAbsence] at hr
  refine W.seq ?_
  refine W.region ?_
  refine WL.box hE hS (runs_plain rfl) rfl rfl rfl ?_; clear hE hS a w; intro b51 a w hE hS
  refine WL.vS hS hE (runs_plain rfl) (Gives.p hE rfl) rfl ?_; clear hE a; intro a hE
  refine WL.nil ?_
  refine W.seq ?_
  refine W.region ?_
  refine WL.vS hS hE (runs_plain rfl) (Gives.p hE rfl) rfl ?_; clear hE a; intro a hE
  refine WL.vS hS hE (runs_plain rfl) (Gives.loadBA hE 0 rfl rfl ty123) rfl ?_; clear hE a; intro a hE
  refine WL.fnq hE (SlicesIndexLfleetAbsence_ok hS h0 rfl (r := SlicesIndexLfleetAbsence x0 x1)) (runs_plain rfl) bd127 rfl rfl rfl ?_
  clear hE hS; rintro e w ⟨rfl, hS⟩; refine ⟨_, rfl, ?_⟩; clear a; intro a hE
  refine WL.vS hS hE (runs_plain rfl) (Gives.p hE rfl) rfl ?_; clear hE a; intro a hE
  refine WL.vS hS hE (runs_plain rfl) (Gives.p hE rfl) rfl ?_; clear hE a; intro a hE
  refine WL.nil ?_
  refine W.ret ?_
  refine finG (fn := Try.f92) (rs := [.tmp 4]) (vs := [_]) hE rfl ⟨rfl, trivial⟩ ?_
  subst hr
  replace hS := hS.tail
  exact ⟨rfl, hS⟩
set_option maxHeartbeats 8000000 in
theorem Fishref2StandInsOf_1_v1_ok  {w : World} {s : Sg} {R : List HP} {pb0 : Nat} {x0 : Int} {x1 : Int} {y0 : List FleetAbsence} {a_y0_0 : Option Addr} {c_y0_0 : Nat} (hS : St w s (pt pb0 (.cells #[.slice a_y0_0 y0.length c_y0_0] 59 (0, 0)) :: R)) (h_y0_0 : Sl 2 RFleetAbsence s a_y0_0 c_y0_0 y0) {r : Bool} (hr : Fishref2StandInsOf_1_v1 x0 x1 y0 = r) :
    Calls Try.prog 91 [.int .i64 x0, .int .i64 x1, .pointer (some ⟨pb0, 0, none⟩)].toArray w (fun e w => e = .returned (.bool r) ∧ St w s (pt pb0 (.cells #[.slice a_y0_0 y0.length c_y0_0] 59 (0, 0)) :: R)) := by
  refine enter Try.func91 rfl rfl rfl fun a hE => ?_
  rw [Fishref2StandInsOf_1_v1] at hr
  refine W.seq ?_
  refine W.region ?_
  refine WL.vS hS hE (runs_plain rfl) (Gives.p hE rfl) rfl ?_; clear hE a; intro a hE
  refine WL.nil ?_
  refine W.seq ?_
  refine W.region ?_
  refine WL.vS hS hE (runs_plain rfl) (Gives.loadB hE 0 rfl rfl rfl ty59) rfl ?_; clear hE a; intro a hE
  refine WL.vS hS hE (runs_plain rfl) (Gives.p hE rfl) rfl ?_; clear hE a; intro a hE
  refine WL.vS hS hE (runs_plain rfl) (Gives.p hE rfl) rfl ?_; clear hE a; intro a hE
  refine WL.vS hS hE (runs_plain rfl) (Gives.build hE (vs := [(0, .int .i64 x0), (1, .int .i64 x1)]) [.int .i64 x0, .int .i64 x1] rfl (by kernel_rfl)) rfl ?_; clear hE a; intro a hE
  refine WL.fnq hE (SlicesContainsLfleetAbsence_ok hS h_y0_0 rfl (r := SlicesContainsLfleetAbsence y0 (FleetAbsence.mk x0 x1))) (runs_plain rfl) bd92 rfl rfl rfl ?_
  clear hE hS; rintro e w ⟨rfl, hS⟩; refine ⟨_, rfl, ?_⟩; clear a; intro a hE
  refine WL.vS hS hE (runs_plain rfl) (Gives.p hE rfl) rfl ?_; clear hE a; intro a hE
  refine WL.nil ?_
  refine W.ret ?_
  refine finG (fn := Try.f91) (rs := [.tmp 5]) (vs := [_]) hE rfl ⟨rfl, trivial⟩ ?_
  subst hr
  exact ⟨rfl, hS⟩
set_option maxHeartbeats 8000000 in
theorem Fishref2given_ok  {w : World} {s : Sg} {R : List HP} {x0 : Int} {x1 : List Int} {a1 : Option Addr} {c1 : Nat} (hS : St w s (R)) (h1 : Sl 1 (RI .i64) s a1 c1 x1) {r : (List (List Int))} (hr : Fishref2given x0 x1 = some r) :
    Calls Try.prog 48 [.int .i64 x0, .slice a1 x1.length c1].toArray w (fun e w => ∃ (a0 : Option Addr) (c0 : Nat) (t : Sg), e = .returned (.slice a0 r.length c0) ∧ s.Le t ∧ Sl 1 (RL 1 (RI .i64)) t a0 c0 r ∧ St w t (R)) := by
  refine enter Try.func48 rfl rfl rfl fun a hE => ?_
  rw [Fishref2given] at hr
  refine W.seq ?_
  refine W.region ?_
  refine WL.vS hS hE (runs_plain rfl) (Gives.p hE rfl) rfl ?_; clear hE a; intro a hE
  refine WL.nil ?_
  refine W.seq ?_
  refine W.region ?_
  refine WL.vS hS hE (runs_plain rfl) (Gives.p hE rfl) rfl ?_; clear hE a; intro a hE
  obtain ⟨x51, hx52, hr⟩ := bindS hr
  refine WL.mkND (Rr := RI .i64) (Ti := 3) (es := 1) hE hS (runs_plain rfl) rfl rfl ap25 zr44 hx52 rfl ?_; clear hE hS a w; intro b53 ds54 a w h55 hE hS
  refine WL.vS hS hE (runs_plain rfl) (Gives.p hE rfl) rfl ?_; clear hE a; intro a hE
  refine WL.nil ?_
  refine W.seq ?_
  refine W.seq ?_
  refine W.region ?_
  refine WL.vS hS hE (runs_plain rfl) (Gives.p hE rfl) rfl ?_; clear hE a; intro a hE
  refine WL.vS hS hE (runs_plain rfl) (Gives.len hE rfl sl44) rfl ?_; clear hE a; intro a hE
  refine WL.vS hS hE (runs_plain rfl) (Gives.p hE rfl) rfl ?_; clear hE a; intro a hE
  refine WL.nil ?_
  obtain ⟨q58, hq57, hr⟩ := bindS hr
  refine W.cut (fun a w => ∃ (q68 : List (List Int)), ∃ (ds72 : List In), q68 = q58 ∧ NEv 1 (RI .i64) s ds72 q68 ∧ q68.length = x51.length ∧ Rep a 32 [(5, .slice (some ⟨b53, 0, none⟩) x51.length x51.length)] ∧ St w s (nestC 44 3 1 (some ⟨b53, 0, none⟩) x51.length x51.length ds72 :: R)) ?_ ?_
  · refine W.block ?_
    refine W.loop (fun m a w => ∃ (rest61 : List Int) (k59 : Nat), ∃ (q68 : List (List Int)), ∃ (ds72 : List In), rest61.length = m ∧ x1.drop k59 = rest61 ∧ Fishref2given.loop1 x0 rest61 k59 q68 = some q58 ∧ NEv 1 (RI .i64) s ds72 q68 ∧ q68.length = x51.length ∧ Rep a 32 [(0, .int .i64 x0), (5, .slice (some ⟨b53, 0, none⟩) x51.length x51.length), (10, .slice a1 x1.length c1), (11, .int .i64 ((x1).length : Int)), (12, .int .i64 ((k59 : Nat) : Int))] ∧ St w s (nestC 44 3 1 (some ⟨b53, 0, none⟩) x51.length x51.length ds72 :: R)) (m := x1.length) ⟨x1, 0, x51, ds54, rfl, rfl, hq57, h55, (rfl), hE.pick _ ⟨rfl, rfl, rfl, rfl, rfl, trivial⟩, hS⟩ ?_
    clear hE hS a w hq57; rintro m65 a w ⟨rest61, k59, q68, ds72, rfl, hd62, hq57, h73, hn74, hE, hS⟩
    refine W.gen fun K75 hK75 => ?_
    rcases rest61 with _ | ⟨x60, rest61⟩
    · have hlt63 := drop_nil hd62
      refine W.seq ?_
      refine W.region ?_
      refine WL.vS hS hE (runs_plain rfl) (Gives.p hE rfl) rfl ?_; clear hE a; intro a hE
      refine WL.nil ?_
      refine W.seq ?_
      refine W.condF hE rfl (decide_eq_false (by omega)) ?_
      subst hK75
      refine W.exit rfl ?_
      exact ⟨q68, ds72, Option.some.inj hq57, h73, hn74, hE.pick _ ⟨rfl, trivial⟩, hS⟩
    · obtain ⟨hlt63, hx64, hd62⟩ := drop_cons hd62
      rw [Fishref2given.loop1] at hq57
      refine W.seq ?_
      refine W.region ?_
      refine WL.vS hS hE (runs_plain rfl) (Gives.p hE rfl) rfl ?_; clear hE a; intro a hE
      refine WL.nil ?_
      refine W.seq ?_
      refine W.condT hE rfl (decide_eq_true (by omega)) ?_
      refine W.skip ?_
      refine W.seq ?_
      refine W.block ?_
      refine W.seq ?_
      refine W.region ?_
      refine WL.vS hS hE (runs_plain rfl) (Gives.p hE rfl) rfl ?_; clear hE a; intro a hE
      obtain ⟨cs76, hl77, hR78, hat79⟩ := h1.at hx64
      subst hR78
      refine WL.vS hS hE (runs_plain rfl) (Gives.idx hE k59 rfl rfl sl44 rfl hlt63 (h1.aok hlt63)) rfl ?_; clear hE a; intro a hE
      refine WL.vS hS hE (runs_plain rfl) (Gives.load1 hE rfl (fun w h => hat79 w _ h) ty3) rfl ?_; clear hE a; intro a hE
      refine WL.vS hS hE (runs_plain rfl) (Gives.p hE rfl) rfl ?_; clear hE a; intro a hE
      refine WL.vS hS hE (runs_plain rfl) (Gives.p hE rfl) rfl ?_; clear hE a; intro a hE
      refine WL.nil ?_
      refine W.seq ?_
      refine W.region ?_
      refine WL.vS hS hE (runs_plain rfl) (Gives.p hE rfl) rfl ?_; clear hE a; intro a hE
      refine WL.vS hS hE (runs_plain rfl) (Gives.p hE rfl) rfl ?_; clear hE a; intro a hE
      refine WL.vS hS hE (runs_plain rfl) (Gives.p hE rfl) rfl ?_; clear hE a; intro a hE
      refine WL.nil ?_
      obtain ⟨q81, hq80, hq57⟩ := bindS hq57
      refine W.cut (fun a w => ∃ (q84 : List (List Int)), ∃ (ds88 : List In), q84 = q81 ∧ NEv 1 (RI .i64) s ds88 q84 ∧ q84.length = x51.length ∧ Rep a 32 [(0, .int .i64 x0), (5, .slice (some ⟨b53, 0, none⟩) x51.length x51.length), (10, .slice a1 x1.length c1), (11, .int .i64 ((x1).length : Int)), (12, .int .i64 ((k59 : Nat) : Int))] ∧ St w s (nestC 44 3 1 (some ⟨b53, 0, none⟩) x51.length x51.length ds88 :: R)) ?_ ?_
      · refine W.gen fun K91 hK91 => ?_
        refine W.cond hE rfl (fun hc92 => ?_) (fun hc92 => ?_)
        · replace hq80 := iteT hc92 hq80
          refine W.region ?_
          refine WL.vS hS hE (runs_plain rfl) (Gives.p hE rfl) rfl ?_; clear hE a; intro a hE
          refine WL.vS hS hE (runs_plain rfl) (Gives.p hE rfl) rfl ?_; clear hE a; intro a hE
          refine WL.vS hS hE (runs_plain rfl) (Gives.p hE rfl) rfl ?_; clear hE a; intro a hE
          refine WL.vS hS hE (runs_plain rfl) (Gives.p hE rfl) rfl ?_; clear hE a; intro a hE
          obtain ⟨x93, hx94, hq80⟩ := bindS hq80
          obtain ⟨hi95, hlt96, hy97⟩ := gx_some hx94
          obtain ⟨a98, c99, cs100, hd101, hev102⟩ := h73.at hy97
          refine WL.vS hS hE (runs_plain rfl) (Gives.idx hE ((x60).toNat) rfl rfl sl25 hi95 (by have := hn74; omega) (hS.nAok 0 rfl (by have := hn74; omega : (x60).toNat < x51.length))) rfl ?_; clear hE a; intro a hE
          refine WL.vS hS hE (runs_plain rfl) (Gives.load1 (v := .slice a98 x93.length c99) hE rfl (fun w h => St.nSees h 0 rfl hd101) ty44) rfl ?_; clear hE a; intro a hE
          refine WL.vS hS hE (runs_plain rfl) (Gives.p hE rfl) rfl ?_; clear hE a; intro a hE
          refine WL.lit hE hS (e := 3) (es := 1) (vs := [(0, .int .i64 ((k59 : Nat) : Int))]) (cs := [.int .i64 ((k59 : Nat) : Int)]) (runs_plain rfl) rfl (by kernel_rfl) rfl ?_; clear hE hS a w; intro b103 a w hE hS
          replace hS := hS.borrowM 1 rfl hd101
          replace hS := hS.front 1 rfl
          obtain ⟨x105, hx106, hq80⟩ := bindS hq80
          refine WL.appD hE hS 0 (m := 1) (runs_plain rfl) rfl rfl rfl ap44 rfl hev102 (rfl) (xs := [((k59 : Nat) : Int)]) (Ev.cons (c1 := [.int .i64 ((k59 : Nat) : Int)]) rfl rfl (Ev.nil)) rfl rfl hx106 rfl ?_; clear hE hS a w; intro a107 c108 cs109 a w h110 hE hS
          obtain ⟨_, hx111, hq80⟩ := bindS hq80
          obtain ⟨h112, h113⟩ := ix_some hx111
          refine WL.vS hS hE (runs_plain rfl) (Gives.idx hE ((x60).toNat) rfl rfl sl25 h112 (by have := hn74; omega) (hS.hAok 1 rfl (by have := hn74; omega : (x60).toNat < x51.length))) rfl ?_; clear hE a; intro a hE
          obtain ⟨x114, hx115, hq80⟩ := bindS hq80
          refine WL.storeND hE hS 0 rfl (runs_plain rfl) rfl rfl ty44 h73 hn74 (by have := (sx_some hx115).1; omega) hx115 h110 (rfl) rfl ?_; clear hE hS a w; intro ds116 a w h117 hn118 hE hS
          refine WL.nil ?_
          subst hK91
          exact ⟨x114, ds116, Option.some.inj hq80, h117, hn118, hE.pick _ ⟨rfl, rfl, rfl, rfl, rfl, trivial⟩, hS⟩
        · replace hq80 := iteF hc92 hq80
          refine W.skip ?_
          subst hK91
          exact ⟨q68, ds72, Option.some.inj hq80, h73, hn74, hE.pick _ ⟨rfl, rfl, rfl, rfl, rfl, trivial⟩, hS⟩
      · clear hE hS a w; rintro a w ⟨q84, ds88, rfl, h89, hn90, hE, hS⟩
        refine W.region ?_
        refine WL.vS hS hE (runs_plain rfl) (Gives.inc hE rfl (by have := h1.small; omega)) rfl ?_; clear hE a; intro a hE
        refine WL.vS hS hE (runs_plain rfl) (Gives.p hE rfl) rfl ?_; clear hE a; intro a hE
        refine WL.nil ?_
        subst hK75
        exact ⟨rest61.length, Nat.lt_succ_self _, rest61, k59 + 1, q84, ds88, rfl, hd62, hq57, h89, hn90, hE.pick _ ⟨rfl, rfl, rfl, rfl, rfl, trivial⟩, hS⟩
  · clear hE hS a w; rintro a w ⟨q68, ds72, rfl, h73, hn74, hE, hS⟩
    refine W.seq ?_
    refine W.region ?_
    refine WL.vS hS hE (runs_plain rfl) (Gives.p hE rfl) rfl ?_; clear hE a; intro a hE
    refine WL.vS hS hE (runs_plain rfl) (Gives.p hE rfl) rfl ?_; clear hE a; intro a hE
    refine WL.nil ?_
    refine W.ret ?_
    have hF := hS.fixN RI.mono 0 rfl h73 hn74; clear hS; obtain ⟨s119, hle120, hS, h121⟩ := hF
    (try rw [← hn74] at hE)
    (try rw [← hn74] at hS)
    (try rw [← hn74] at h121)
    refine finG (fn := Try.f48) (rs := [.tmp 4]) (vs := [_]) hE rfl ⟨rfl, trivial⟩ ?_
    obtain rfl := Option.some.inj hr
    exact ⟨(some ⟨b53, 0, none⟩), q68.length, s119, rfl, hle120, h121, hS⟩
set_option maxHeartbeats 8000000 in
theorem Fishref2given_v1_ok  {w : World} {s : Sg} {R : List HP} {x0 : Int} {x1 : List Int} {a_v0 : Option Addr} {c_v0 n_v0 : Nat} {cs_v0 : List Value} (hS : St w s (vecC 3 1 a_v0 c_v0 n_v0 cs_v0 :: R)) (h_v0 : Ev 1 (RI .i64) s cs_v0 x1) (hn_v0 : x1.length = n_v0) {r : (List (List Int))} (hr : Fishref2given_v1 x0 x1 = some r) :
    Calls Try.prog 48 [.int .i64 x0, .slice a_v0 n_v0 c_v0].toArray w (fun e w => ∃ (a0 : Option Addr) (c0 : Nat) (t : Sg), e = .returned (.slice a0 r.length c0) ∧ s.Le t ∧ Sl 1 (RL 1 (RI .i64)) t a0 c0 r ∧ St w t (vecC 3 1 a_v0 c_v0 n_v0 cs_v0 :: R)) := by
  refine enter Try.func48 rfl rfl rfl fun a hE => ?_
  rw [Fishref2given_v1] at hr
  subst hn_v0
  refine W.seq ?_
  refine W.region ?_
  refine WL.vS hS hE (runs_plain rfl) (Gives.p hE rfl) rfl ?_; clear hE a; intro a hE
  refine WL.nil ?_
  refine W.seq ?_
  refine W.region ?_
  refine WL.vS hS hE (runs_plain rfl) (Gives.p hE rfl) rfl ?_; clear hE a; intro a hE
  obtain ⟨x51, hx52, hr⟩ := bindS hr
  refine WL.mkND (Rr := RI .i64) (Ti := 3) (es := 1) hE hS (runs_plain rfl) rfl rfl ap25 zr44 hx52 rfl ?_; clear hE hS a w; intro b53 ds54 a w h55 hE hS
  refine WL.vS hS hE (runs_plain rfl) (Gives.p hE rfl) rfl ?_; clear hE a; intro a hE
  refine WL.nil ?_
  refine W.seq ?_
  refine W.seq ?_
  refine W.region ?_
  refine WL.vS hS hE (runs_plain rfl) (Gives.p hE rfl) rfl ?_; clear hE a; intro a hE
  refine WL.vS hS hE (runs_plain rfl) (Gives.len hE rfl sl44) rfl ?_; clear hE a; intro a hE
  refine WL.vS hS hE (runs_plain rfl) (Gives.p hE rfl) rfl ?_; clear hE a; intro a hE
  refine WL.nil ?_
  have hb68 : x1.length ≤ 9223372036854775807 := by have := hS.vecCap 1 rfl; unfold maxLen at this; omega
  obtain ⟨q58, hq57, hr⟩ := bindS hr
  refine W.cut (fun a w => ∃ (q69 : List (List Int)), ∃ (ds73 : List In), q69 = q58 ∧ NEv 1 (RI .i64) s ds73 q69 ∧ q69.length = x51.length ∧ Rep a 32 [(5, .slice (some ⟨b53, 0, none⟩) x51.length x51.length)] ∧ St w s (nestC 44 3 1 (some ⟨b53, 0, none⟩) x51.length x51.length ds73 :: vecC 3 1 a_v0 c_v0 x1.length cs_v0 :: R)) ?_ ?_
  · refine W.block ?_
    refine W.loop (fun m a w => ∃ (rest61 : Nat) (k59 : Nat), ∃ (q69 : List (List Int)), ∃ (ds73 : List In), rest61 = m ∧ k59 + rest61 = x1.length ∧ Fishref2given_v1.loop1 x0 x1 rest61 k59 q69 = some q58 ∧ NEv 1 (RI .i64) s ds73 q69 ∧ q69.length = x51.length ∧ Rep a 32 [(0, .int .i64 x0), (5, .slice (some ⟨b53, 0, none⟩) x51.length x51.length), (10, .slice a_v0 x1.length c_v0), (11, .int .i64 ((x1.length : Nat) : Int)), (12, .int .i64 ((k59 : Nat) : Int))] ∧ St w s (nestC 44 3 1 (some ⟨b53, 0, none⟩) x51.length x51.length ds73 :: vecC 3 1 a_v0 c_v0 x1.length cs_v0 :: R)) (m := x1.length) ⟨x1.length, 0, x51, ds54, rfl, by omega, hq57, h55, (rfl), hE.pick _ ⟨rfl, rfl, rfl, rfl, rfl, trivial⟩, hS⟩ ?_
    clear hE hS a w hq57; rintro m65 a w ⟨rest61, k59, q69, ds73, rfl, hd62, hq57, h74, hn75, hE, hS⟩
    refine W.gen fun K76 hK76 => ?_
    rcases rest61 with _ | rest61
    · skip
      refine W.seq ?_
      refine W.region ?_
      refine WL.vS hS hE (runs_plain rfl) (Gives.p hE rfl) rfl ?_; clear hE a; intro a hE
      refine WL.nil ?_
      refine W.seq ?_
      refine W.condF hE rfl (decide_eq_false (by omega)) ?_
      subst hK76
      refine W.exit rfl ?_
      exact ⟨q69, ds73, Option.some.inj hq57, h74, hn75, hE.pick _ ⟨rfl, trivial⟩, hS⟩
    · have hlt63 : k59 < x1.length := by omega
      rw [Fishref2given_v1.loop1] at hq57
      refine W.seq ?_
      refine W.region ?_
      refine WL.vS hS hE (runs_plain rfl) (Gives.p hE rfl) rfl ?_; clear hE a; intro a hE
      refine WL.nil ?_
      refine W.seq ?_
      refine W.condT hE rfl (decide_eq_true (by omega)) ?_
      refine W.skip ?_
      refine W.seq ?_
      refine W.block ?_
      refine W.seq ?_
      refine W.region ?_
      refine WL.vS hS hE (runs_plain rfl) (Gives.p hE rfl) rfl ?_; clear hE a; intro a hE
      obtain ⟨x77, hx78, hq57⟩ := bindS hq57
      obtain ⟨hi79, hlt80, hy81⟩ := gx_some hx78
      obtain ⟨vs82, hl83, hR84, hd85, hget86⟩ := h_v0.at hy81
      subst hR84
      refine WL.vS hS hE (runs_plain rfl) (Gives.idx hE ((((k59 : Nat) : Int)).toNat) rfl rfl sl44 hi79 (by omega) (hS.vecAok 1 rfl (by omega : (((k59 : Nat) : Int)).toNat < x1.length))) rfl ?_; clear hE a; intro a hE
      refine WL.vS hS hE (runs_plain rfl) (Gives.load1 hE rfl (fun w h => St.vecSees h 1 rfl ((((k59 : Nat) : Int)).toNat * 1) _ hget86) ty3) rfl ?_; clear hE a; intro a hE
      refine WL.vS hS hE (runs_plain rfl) (Gives.p hE rfl) rfl ?_; clear hE a; intro a hE
      refine WL.vS hS hE (runs_plain rfl) (Gives.p hE rfl) rfl ?_; clear hE a; intro a hE
      refine WL.nil ?_
      refine W.seq ?_
      refine W.region ?_
      refine WL.vS hS hE (runs_plain rfl) (Gives.p hE rfl) rfl ?_; clear hE a; intro a hE
      refine WL.vS hS hE (runs_plain rfl) (Gives.p hE rfl) rfl ?_; clear hE a; intro a hE
      refine WL.vS hS hE (runs_plain rfl) (Gives.p hE rfl) rfl ?_; clear hE a; intro a hE
      refine WL.nil ?_
      obtain ⟨q88, hq87, hq57⟩ := bindS hq57
      refine W.cut (fun a w => ∃ (q91 : List (List Int)), ∃ (ds95 : List In), q91 = q88 ∧ NEv 1 (RI .i64) s ds95 q91 ∧ q91.length = x51.length ∧ Rep a 32 [(0, .int .i64 x0), (5, .slice (some ⟨b53, 0, none⟩) x51.length x51.length), (10, .slice a_v0 x1.length c_v0), (11, .int .i64 ((x1.length : Nat) : Int)), (12, .int .i64 ((k59 : Nat) : Int))] ∧ St w s (nestC 44 3 1 (some ⟨b53, 0, none⟩) x51.length x51.length ds95 :: vecC 3 1 a_v0 c_v0 x1.length cs_v0 :: R)) ?_ ?_
      · refine W.gen fun K98 hK98 => ?_
        refine W.cond hE rfl (fun hc99 => ?_) (fun hc99 => ?_)
        · replace hq87 := iteT hc99 hq87
          refine W.region ?_
          refine WL.vS hS hE (runs_plain rfl) (Gives.p hE rfl) rfl ?_; clear hE a; intro a hE
          refine WL.vS hS hE (runs_plain rfl) (Gives.p hE rfl) rfl ?_; clear hE a; intro a hE
          refine WL.vS hS hE (runs_plain rfl) (Gives.p hE rfl) rfl ?_; clear hE a; intro a hE
          refine WL.vS hS hE (runs_plain rfl) (Gives.p hE rfl) rfl ?_; clear hE a; intro a hE
          obtain ⟨x100, hx101, hq87⟩ := bindS hq87
          obtain ⟨hi102, hlt103, hy104⟩ := gx_some hx101
          obtain ⟨a105, c106, cs107, hd108, hev109⟩ := h74.at hy104
          refine WL.vS hS hE (runs_plain rfl) (Gives.idx hE ((x77).toNat) rfl rfl sl25 hi102 (by have := hn75; omega) (hS.nAok 0 rfl (by have := hn75; omega : (x77).toNat < x51.length))) rfl ?_; clear hE a; intro a hE
          refine WL.vS hS hE (runs_plain rfl) (Gives.load1 (v := .slice a105 x100.length c106) hE rfl (fun w h => St.nSees h 0 rfl hd108) ty44) rfl ?_; clear hE a; intro a hE
          refine WL.vS hS hE (runs_plain rfl) (Gives.p hE rfl) rfl ?_; clear hE a; intro a hE
          refine WL.lit hE hS (e := 3) (es := 1) (vs := [(0, .int .i64 ((k59 : Nat) : Int))]) (cs := [.int .i64 ((k59 : Nat) : Int)]) (runs_plain rfl) rfl (by kernel_rfl) rfl ?_; clear hE hS a w; intro b110 a w hE hS
          replace hS := hS.borrowM 1 rfl hd108
          replace hS := hS.front 1 rfl
          obtain ⟨x112, hx113, hq87⟩ := bindS hq87
          refine WL.appD hE hS 0 (m := 1) (runs_plain rfl) rfl rfl rfl ap44 rfl hev109 (rfl) (xs := [((k59 : Nat) : Int)]) (Ev.cons (c1 := [.int .i64 ((k59 : Nat) : Int)]) rfl rfl (Ev.nil)) rfl rfl hx113 rfl ?_; clear hE hS a w; intro a114 c115 cs116 a w h117 hE hS
          obtain ⟨_, hx118, hq87⟩ := bindS hq87
          obtain ⟨h119, h120⟩ := ix_some hx118
          refine WL.vS hS hE (runs_plain rfl) (Gives.idx hE ((x77).toNat) rfl rfl sl25 h119 (by have := hn75; omega) (hS.hAok 1 rfl (by have := hn75; omega : (x77).toNat < x51.length))) rfl ?_; clear hE a; intro a hE
          obtain ⟨x121, hx122, hq87⟩ := bindS hq87
          refine WL.storeND hE hS 0 rfl (runs_plain rfl) rfl rfl ty44 h74 hn75 (by have := (sx_some hx122).1; omega) hx122 h117 (rfl) rfl ?_; clear hE hS a w; intro ds123 a w h124 hn125 hE hS
          refine WL.nil ?_
          subst hK98
          exact ⟨x121, ds123, Option.some.inj hq87, h124, hn125, hE.pick _ ⟨rfl, rfl, rfl, rfl, rfl, trivial⟩, hS⟩
        · replace hq87 := iteF hc99 hq87
          refine W.skip ?_
          subst hK98
          exact ⟨q69, ds73, Option.some.inj hq87, h74, hn75, hE.pick _ ⟨rfl, rfl, rfl, rfl, rfl, trivial⟩, hS⟩
      · clear hE hS a w; rintro a w ⟨q91, ds95, rfl, h96, hn97, hE, hS⟩
        refine W.region ?_
        refine WL.vS hS hE (runs_plain rfl) (Gives.inc hE rfl (by omega)) rfl ?_; clear hE a; intro a hE
        refine WL.vS hS hE (runs_plain rfl) (Gives.p hE rfl) rfl ?_; clear hE a; intro a hE
        refine WL.nil ?_
        subst hK76
        exact ⟨rest61, Nat.lt_succ_self _, rest61, k59 + 1, q91, ds95, rfl, (by omega), hq57, h96, hn97, hE.pick _ ⟨rfl, rfl, rfl, rfl, rfl, trivial⟩, hS⟩
  · clear hE hS a w; rintro a w ⟨q69, ds73, rfl, h74, hn75, hE, hS⟩
    refine W.seq ?_
    refine W.region ?_
    refine WL.vS hS hE (runs_plain rfl) (Gives.p hE rfl) rfl ?_; clear hE a; intro a hE
    refine WL.vS hS hE (runs_plain rfl) (Gives.p hE rfl) rfl ?_; clear hE a; intro a hE
    refine WL.nil ?_
    refine W.ret ?_
    have hF := hS.fixN RI.mono 0 rfl h74 hn75; clear hS; obtain ⟨s126, hle127, hS, h128⟩ := hF
    (try rw [← hn75] at hE)
    (try rw [← hn75] at hS)
    (try rw [← hn75] at h128)
    replace h_v0 := Ev.mono RI.mono hle127 h_v0
    refine finG (fn := Try.f48) (rs := [.tmp 4]) (vs := [_]) hE rfl ⟨rfl, trivial⟩ ?_
    obtain rfl := Option.some.inj hr
    exact ⟨(some ⟨b53, 0, none⟩), q69.length, s126, rfl, hle127, h128, hS⟩
set_option maxHeartbeats 8000000 in
theorem Fishref2StandInsOf_2_v1_ok  {w : World} {s : Sg} {R : List HP} {pb0 : Nat} {pb1 : Nat} {pb2 : Nat} {pb3 : Nat} {pb4 : Nat} {pb5 : Nat} {pb6 : Nat} {pb7 : Nat} {pb8 : Nat} {x0 : List Int} {a0 : Option Addr} {c0 : Nat} {y0 : List Int} {a_v0 : Option Addr} {c_v0 n_v0 : Nat} {cs_v0 : List Value} {y1 : List Int} {a_v1 : Option Addr} {c_v1 n_v1 : Nat} {cs_v1 : List Value} {y2 : Int} {y4 : List FleetShift} {a_y4_0 : Option Addr} {c_y4_0 : Nat} {y5 : FleetLimits} {y6 : Int} {y7 : List Int} {a_y7_0 : Option Addr} {c_y7_0 : Nat} {y8 : List FleetAbsence} {a_y8_0 : Option Addr} {c_y8_0 : Nat} (hS : St w s (pt pb0 (.cells #[.slice a_v0 n_v0 c_v0] 44 (0, 0)) :: pt pb1 (.cells #[.slice a_v1 n_v1 c_v1] 44 (0, 0)) :: pt pb2 (.cells #[.int .i64 y2] 3 (0, 0)) :: pt pb3 (.cells #[.func (.func 91) #[] #[.pointer (some ⟨pb8, 0, none⟩)]] 130 (0, 0)) :: pt pb4 (.cells #[.slice a_y4_0 y4.length c_y4_0] 22 (0, 0)) :: pt pb5 (.cells #[.int .i64 y5.Change, .int .i64 y5.Long, .int .i64 y5.Work, .int .i64 y5.After, .int .i64 y5.Break, .int .i64 y5.Rest, .int .i64 y5.Row] 24 (0, 0)) :: pt pb6 (.cells #[.int .i64 y6] 3 (0, 0)) :: pt pb7 (.cells #[.slice a_y7_0 y7.length c_y7_0] 44 (0, 0)) :: pt pb8 (.cells #[.slice a_y8_0 y8.length c_y8_0] 59 (0, 0)) :: vecC 3 1 a_v0 c_v0 n_v0 cs_v0 :: vecC 3 1 a_v1 c_v1 n_v1 cs_v1 :: R)) (h0 : Sl 1 (RI .i64) s a0 c0 x0) (h_v0 : Ev 1 (RI .i64) s cs_v0 y0) (hn_v0 : y0.length = n_v0) (h_v1 : Ev 1 (RI .i64) s cs_v1 y1) (hn_v1 : y1.length = n_v1) (h_y4_0 : Sl 3 RFleetShift s a_y4_0 c_y4_0 y4) (h_y7_0 : Sl 1 (RI .i64) s a_y7_0 c_y7_0 y7) (h_y8_0 : Sl 2 RFleetAbsence s a_y8_0 c_y8_0 y8) {r : Bool × Int × (List Int)} (hr : Fishref2StandInsOf_2_v1 x0 y0 y1 y2 y4 y5 y6 y7 y8 = some r) :
    Calls Try.prog 93 [.slice a0 x0.length c0, .pointer (some ⟨pb0, 0, none⟩), .pointer (some ⟨pb1, 0, none⟩), .pointer (some ⟨pb2, 0, none⟩), .pointer (some ⟨pb3, 0, none⟩), .pointer (some ⟨pb4, 0, none⟩), .pointer (some ⟨pb5, 0, none⟩), .pointer (some ⟨pb6, 0, none⟩), .pointer (some ⟨pb7, 0, none⟩)].toArray w (fun e w => ∃ (a58 : Option Addr) (c59 : Nat) (t : Sg), e = .returned (.bool r.1) ∧ s.Le t ∧ Sl 1 (RI .i64) t a58 c59 r.2.2 ∧ St w t (pt pb0 (.cells #[.slice a_v0 n_v0 c_v0] 44 (0, 0)) :: pt pb1 (.cells #[.slice a_v1 n_v1 c_v1] 44 (0, 0)) :: pt pb2 (.cells #[.int .i64 y2] 3 (0, 0)) :: pt pb3 (.cells #[.func (.func 91) #[] #[.pointer (some ⟨pb8, 0, none⟩)]] 130 (0, 0)) :: pt pb4 (.cells #[.slice a_y4_0 y4.length c_y4_0] 22 (0, 0)) :: pt pb5 (.cells #[.int .i64 y5.Change, .int .i64 y5.Long, .int .i64 y5.Work, .int .i64 y5.After, .int .i64 y5.Break, .int .i64 y5.Rest, .int .i64 y5.Row] 24 (0, 0)) :: pt pb6 (.cells #[.int .i64 r.2.1] 3 (0, 0)) :: pt pb7 (.cells #[.slice a58 r.2.2.length c59] 44 (0, 0)) :: pt pb8 (.cells #[.slice a_y8_0 y8.length c_y8_0] 59 (0, 0)) :: vecC 3 1 a_v0 c_v0 n_v0 cs_v0 :: vecC 3 1 a_v1 c_v1 n_v1 cs_v1 :: R)) := by
  refine enter Try.func93 rfl rfl rfl fun a hE => ?_
  rw [Fishref2StandInsOf_2_v1] at hr
  subst hn_v0
  subst hn_v1
  refine W.seq ?_
  refine W.region ?_
  refine WL.vS hS hE (runs_plain rfl) (Gives.p hE rfl) rfl ?_; clear hE a; intro a hE
  refine WL.nil ?_
  refine W.seq ?_
  refine W.region ?_
  refine WL.vS hS hE (runs_plain rfl) (Gives.loadB hE 0 rfl rfl rfl ty44) rfl ?_; clear hE a; intro a hE
  obtain ⟨q61, hq62, hr⟩ := bindS hr
  have hF := hS.lendV RI.mono 9 rfl h_v0 (rfl); clear hS; obtain ⟨t69, hle70, hS, hs71, bk72⟩ := hF
  have hc_ := SlicesCloneLint_ok hS hs71 hq62
  refine WL.fnq hE (hc_) (runs_plain rfl) bd41 rfl rfl rfl ?_
  clear hE hS hc_; rintro e w ⟨a63, c64, n65, cs66, rfl, h67, rfl, hS⟩; refine ⟨_, rfl, ?_⟩; clear a; intro a hE
  replace hS := bk72 _ _ hS
  replace h67 := Ev.flat (s2 := s) (fun _ _ _ _ h => h) h67
  refine WL.vS hS hE (runs_plain rfl) (Gives.p hE rfl) rfl ?_; clear hE a; intro a hE
  refine WL.nil ?_
  refine W.seq ?_
  refine W.region ?_
  refine WL.vS hS hE (runs_plain rfl) (Gives.p hE rfl) rfl ?_; clear hE a; intro a hE
  refine WL.nil ?_
  refine W.seq ?_
  refine W.seq ?_
  refine W.region ?_
  refine WL.vS hS hE (runs_plain rfl) (Gives.loadB hE 3 rfl rfl rfl ty44) rfl ?_; clear hE a; intro a hE
  refine WL.vS hS hE (runs_plain rfl) (Gives.len hE rfl sl44) rfl ?_; clear hE a; intro a hE
  refine WL.vS hS hE (runs_plain rfl) (Gives.p hE rfl) rfl ?_; clear hE a; intro a hE
  refine WL.nil ?_
  have hb84 : y1.length ≤ 9223372036854775807 := by have := hS.vecCap 11 rfl; unfold maxLen at this; omega
  obtain ⟨q74, hq73, hr⟩ := bindS hr
  refine W.cut (fun a w => ∃ (q85 : Int), ∃ (q86 : List Int), ∃ (cs90 : List Value), (.next (q85, q86)) = q74 ∧ Ev 1 (RI .i64) s cs90 q86 ∧ q86.length = q61.length ∧ Rep a 63 [(3, .pointer (some ⟨pb2, 0, none⟩)), (5, .pointer (some ⟨pb4, 0, none⟩)), (6, .pointer (some ⟨pb5, 0, none⟩)), (7, .pointer (some ⟨pb6, 0, none⟩)), (8, .pointer (some ⟨pb7, 0, none⟩)), (11, .slice a63 q61.length c64), (12, .int .i64 q85)] ∧ St w s (vecC 3 1 a_v0 c_v0 y0.length cs_v0 :: vecC 3 1 a63 c64 q61.length cs90 :: pt pb0 (.cells #[.slice a_v0 y0.length c_v0] 44 (0, 0)) :: pt pb1 (.cells #[.slice a_v1 y1.length c_v1] 44 (0, 0)) :: pt pb2 (.cells #[.int .i64 y2] 3 (0, 0)) :: pt pb3 (.cells #[.func (.func 91) #[] #[.pointer (some ⟨pb8, 0, none⟩)]] 130 (0, 0)) :: pt pb4 (.cells #[.slice a_y4_0 y4.length c_y4_0] 22 (0, 0)) :: pt pb5 (.cells #[.int .i64 y5.Change, .int .i64 y5.Long, .int .i64 y5.Work, .int .i64 y5.After, .int .i64 y5.Break, .int .i64 y5.Rest, .int .i64 y5.Row] 24 (0, 0)) :: pt pb6 (.cells #[.int .i64 y6] 3 (0, 0)) :: pt pb7 (.cells #[.slice a_y7_0 y7.length c_y7_0] 44 (0, 0)) :: pt pb8 (.cells #[.slice a_y8_0 y8.length c_y8_0] 59 (0, 0)) :: vecC 3 1 a_v1 c_v1 y1.length cs_v1 :: R)) ?_ ?_
  · refine W.block ?_
    refine W.loop (fun m a w => ∃ (rest77 : Nat) (k75 : Nat), ∃ (q85 : Int), ∃ (q86 : List Int), ∃ (cs90 : List Value), rest77 = m ∧ k75 + rest77 = y1.length ∧ Fishref2StandInsOf_2_v1.loop1 x0 y1 y2 y4 y6 y7 y8 rest77 k75 q85 q86 = some q74 ∧ Ev 1 (RI .i64) s cs90 q86 ∧ q86.length = q61.length ∧ Rep a 63 [(0, .slice a0 x0.length c0), (3, .pointer (some ⟨pb2, 0, none⟩)), (4, .pointer (some ⟨pb3, 0, none⟩)), (5, .pointer (some ⟨pb4, 0, none⟩)), (6, .pointer (some ⟨pb5, 0, none⟩)), (7, .pointer (some ⟨pb6, 0, none⟩)), (8, .pointer (some ⟨pb7, 0, none⟩)), (11, .slice a63 q61.length c64), (12, .int .i64 q85), (18, .slice a_v1 y1.length c_v1), (19, .int .i64 ((y1.length : Nat) : Int)), (20, .int .i64 ((k75 : Nat) : Int))] ∧ St w s (vecC 3 1 a_v0 c_v0 y0.length cs_v0 :: vecC 3 1 a63 c64 q61.length cs90 :: pt pb0 (.cells #[.slice a_v0 y0.length c_v0] 44 (0, 0)) :: pt pb1 (.cells #[.slice a_v1 y1.length c_v1] 44 (0, 0)) :: pt pb2 (.cells #[.int .i64 y2] 3 (0, 0)) :: pt pb3 (.cells #[.func (.func 91) #[] #[.pointer (some ⟨pb8, 0, none⟩)]] 130 (0, 0)) :: pt pb4 (.cells #[.slice a_y4_0 y4.length c_y4_0] 22 (0, 0)) :: pt pb5 (.cells #[.int .i64 y5.Change, .int .i64 y5.Long, .int .i64 y5.Work, .int .i64 y5.After, .int .i64 y5.Break, .int .i64 y5.Rest, .int .i64 y5.Row] 24 (0, 0)) :: pt pb6 (.cells #[.int .i64 y6] 3 (0, 0)) :: pt pb7 (.cells #[.slice a_y7_0 y7.length c_y7_0] 44 (0, 0)) :: pt pb8 (.cells #[.slice a_y8_0 y8.length c_y8_0] 59 (0, 0)) :: vecC 3 1 a_v1 c_v1 y1.length cs_v1 :: R)) (m := y1.length) ⟨y1.length, 0, 0, q61, cs66, rfl, by omega, hq73, h67, rfl, hE.pick _ ⟨rfl, rfl, rfl, rfl, rfl, rfl, rfl, rfl, rfl, rfl, rfl, rfl, trivial⟩, hS⟩ ?_
    clear hE hS a w hq73; rintro m81 a w ⟨rest77, k75, q85, q86, cs90, rfl, hd78, hq73, h89, hn91, hE, hS⟩
    refine W.gen fun K92 hK92 => ?_
    rcases rest77 with _ | rest77
    · skip
      refine W.seq ?_
      refine W.region ?_
      refine WL.vS hS hE (runs_plain rfl) (Gives.p hE rfl) rfl ?_; clear hE a; intro a hE
      refine WL.nil ?_
      refine W.seq ?_
      refine W.condF hE rfl (decide_eq_false (by omega)) ?_
      subst hK92
      refine W.exit rfl ?_
      exact ⟨q85, q86, cs90, Option.some.inj hq73, h89, hn91, hE.pick _ ⟨rfl, rfl, rfl, rfl, rfl, rfl, rfl, trivial⟩, hS⟩
    · have hlt79 : k75 < y1.length := by omega
      rw [Fishref2StandInsOf_2_v1.loop1] at hq73
      refine W.seq ?_
      refine W.region ?_
      refine WL.vS hS hE (runs_plain rfl) (Gives.p hE rfl) rfl ?_; clear hE a; intro a hE
      refine WL.nil ?_
      refine W.seq ?_
      refine W.condT hE rfl (decide_eq_true (by omega)) ?_
      refine W.skip ?_
      refine W.seq ?_
      refine W.block ?_
      refine W.seq ?_
      refine W.region ?_
      refine WL.vS hS hE (runs_plain rfl) (Gives.p hE rfl) rfl ?_; clear hE a; intro a hE
      obtain ⟨x93, hx94, hq73⟩ := bindS hq73
      obtain ⟨hi95, hlt96, hy97⟩ := gx_some hx94
      obtain ⟨vs98, hl99, hR100, hd101, hget102⟩ := h_v1.at hy97
      subst hR100
      refine WL.vS hS hE (runs_plain rfl) (Gives.idx hE ((((k75 : Nat) : Int)).toNat) rfl rfl sl44 hi95 (by omega) (hS.vecAok 11 rfl (by omega : (((k75 : Nat) : Int)).toNat < y1.length))) rfl ?_; clear hE a; intro a hE
      refine WL.vS hS hE (runs_plain rfl) (Gives.load1 hE rfl (fun w h => St.vecSees h 11 rfl ((((k75 : Nat) : Int)).toNat * 1) _ hget102) ty3) rfl ?_; clear hE a; intro a hE
      refine WL.vS hS hE (runs_plain rfl) (Gives.p hE rfl) rfl ?_; clear hE a; intro a hE
      refine WL.vS hS hE (runs_plain rfl) (Gives.p hE rfl) rfl ?_; clear hE a; intro a hE
      refine WL.nil ?_
      refine W.seq ?_
      refine W.region ?_
      refine WL.vS hS hE (runs_plain rfl) (Gives.p hE rfl) rfl ?_; clear hE a; intro a hE
      refine WL.vS hS hE (runs_plain rfl) (Gives.p hE rfl) rfl ?_; clear hE a; intro a hE
      obtain ⟨x103, hx104, hq73⟩ := bindS hq73
      obtain ⟨hi105, hlt106, hy107⟩ := gx_some hx104
      obtain ⟨cs108, hl109, hR110, hat111⟩ := h0.at hy107
      subst hR110
      refine WL.vS hS hE (runs_plain rfl) (Gives.idx hE (((k75 : Nat) : Int)).toNat rfl rfl sl44 hi105 hlt106 (h0.aok hlt106)) rfl ?_; clear hE a; intro a hE
      refine WL.vS hS hE (runs_plain rfl) (Gives.load1 hE rfl (fun w h => hat111 w _ h) ty3) rfl ?_; clear hE a; intro a hE
      refine WL.vS hS hE (runs_plain rfl) (Gives.p hE rfl) rfl ?_; clear hE a; intro a hE
      refine WL.nil ?_
      refine W.seq ?_
      refine W.region ?_
      refine WL.vS hS hE (runs_plain rfl) (Gives.p hE rfl) rfl ?_; clear hE a; intro a hE
      refine WL.vS hS hE (runs_plain rfl) (Gives.p hE rfl) rfl ?_; clear hE a; intro a hE
      refine WL.vS hS hE (runs_plain rfl) (Gives.p hE rfl) rfl ?_; clear hE a; intro a hE
      obtain ⟨_, hx113, hq73⟩ := bindS hq73
      obtain ⟨h114, h115⟩ := ix_some hx113
      refine WL.vS hS hE (runs_plain rfl) (Gives.idx hE ((x93).toNat) rfl rfl sl44 h114 (by have := hn91; omega) (hS.vecAok 1 rfl (by have := hn91; omega : (x93).toNat < q61.length))) rfl ?_; clear hE a; intro a hE
      obtain ⟨x117, hx118, hq73⟩ := bindS hq73
      refine WL.setD hE hS 1 rfl (runs_plain rfl) rfl rfl (vs := [.int .i64 x103]) rfl ty3 rfl rfl rfl h89 hn91 (sx_some hx118).1 hx118 rfl rfl ?_; clear hE hS a w; intro cs119 a w h120 hn121 hE hS
      refine WL.nil ?_
      refine W.seq ?_
      refine W.region ?_
      refine WL.vS hS hE (runs_plain rfl) (Gives.p hE rfl) rfl ?_; clear hE a; intro a hE
      refine WL.vS hS hE (runs_plain rfl) (Gives.loadB hE 4 rfl rfl rfl ty3) rfl ?_; clear hE a; intro a hE
      refine WL.vS hS hE (runs_plain rfl) (Gives.p hE rfl) rfl ?_; clear hE a; intro a hE
      refine WL.nil ?_
      obtain ⟨q123, hq122, hq73⟩ := bindS hq73
      refine W.cut (fun a w => ∃ (q126 : Int), .next q126 = q123 ∧ Rep a 63 [(0, .slice a0 x0.length c0), (3, .pointer (some ⟨pb2, 0, none⟩)), (4, .pointer (some ⟨pb3, 0, none⟩)), (5, .pointer (some ⟨pb4, 0, none⟩)), (6, .pointer (some ⟨pb5, 0, none⟩)), (7, .pointer (some ⟨pb6, 0, none⟩)), (8, .pointer (some ⟨pb7, 0, none⟩)), (11, .slice a63 q61.length c64), (12, .int .i64 q126), (18, .slice a_v1 y1.length c_v1), (19, .int .i64 ((y1.length : Nat) : Int)), (20, .int .i64 ((k75 : Nat) : Int))] ∧ St w s (vecC 3 1 a_v0 c_v0 y0.length cs_v0 :: vecC 3 1 a63 c64 q61.length cs119 :: pt pb0 (.cells #[.slice a_v0 y0.length c_v0] 44 (0, 0)) :: pt pb1 (.cells #[.slice a_v1 y1.length c_v1] 44 (0, 0)) :: pt pb2 (.cells #[.int .i64 y2] 3 (0, 0)) :: pt pb3 (.cells #[.func (.func 91) #[] #[.pointer (some ⟨pb8, 0, none⟩)]] 130 (0, 0)) :: pt pb4 (.cells #[.slice a_y4_0 y4.length c_y4_0] 22 (0, 0)) :: pt pb5 (.cells #[.int .i64 y5.Change, .int .i64 y5.Long, .int .i64 y5.Work, .int .i64 y5.After, .int .i64 y5.Break, .int .i64 y5.Rest, .int .i64 y5.Row] 24 (0, 0)) :: pt pb6 (.cells #[.int .i64 y6] 3 (0, 0)) :: pt pb7 (.cells #[.slice a_y7_0 y7.length c_y7_0] 44 (0, 0)) :: pt pb8 (.cells #[.slice a_y8_0 y8.length c_y8_0] 59 (0, 0)) :: vecC 3 1 a_v1 c_v1 y1.length cs_v1 :: R)) ?_ ?_
      · refine W.gen fun K127 hK127 => ?_
        refine W.cond hE rfl (fun hc128 => ?_) (fun hc128 => ?_)
        · replace hq122 := iteT hc128 hq122
          refine W.region ?_
          refine WL.vS hS hE (runs_plain rfl) (Gives.p hE rfl) rfl ?_; clear hE a; intro a hE
          refine WL.vS hS hE (runs_plain rfl) (Gives.p hE rfl) rfl ?_; clear hE a; intro a hE
          refine WL.vS hS hE (runs_plain rfl) (Gives.p hE rfl) rfl ?_; clear hE a; intro a hE
          refine WL.nil ?_
          subst hK127
          exact ⟨w64 (q85 + 1), Option.some.inj hq122, hE.pick _ ⟨rfl, rfl, rfl, rfl, rfl, rfl, rfl, rfl, rfl, rfl, rfl, rfl, trivial⟩, hS⟩
        · replace hq122 := iteF hc128 hq122
          refine W.seq ?_
          refine W.regionQ (C := fun w => St w s (vecC 3 1 a_v0 c_v0 y0.length cs_v0 :: vecC 3 1 a63 c64 q61.length cs119 :: pt pb0 (.cells #[.slice a_v0 y0.length c_v0] 44 (0, 0)) :: pt pb1 (.cells #[.slice a_v1 y1.length c_v1] 44 (0, 0)) :: pt pb2 (.cells #[.int .i64 y2] 3 (0, 0)) :: pt pb3 (.cells #[.func (.func 91) #[] #[.pointer (some ⟨pb8, 0, none⟩)]] 130 (0, 0)) :: pt pb4 (.cells #[.slice a_y4_0 y4.length c_y4_0] 22 (0, 0)) :: pt pb5 (.cells #[.int .i64 y5.Change, .int .i64 y5.Long, .int .i64 y5.Work, .int .i64 y5.After, .int .i64 y5.Break, .int .i64 y5.Rest, .int .i64 y5.Row] 24 (0, 0)) :: pt pb6 (.cells #[.int .i64 y6] 3 (0, 0)) :: pt pb7 (.cells #[.slice a_y7_0 y7.length c_y7_0] 44 (0, 0)) :: pt pb8 (.cells #[.slice a_y8_0 y8.length c_y8_0] 59 (0, 0)) :: vecC 3 1 a_v1 c_v1 y1.length cs_v1 :: R)) mixed (by kernel_rfl) hS.drew ?_
          refine QL.v hE (runs_plain rfl) (Gives.loadB hE 5 rfl rfl rfl ty130) rfl ?_; clear hE a; intro a hE
          refine QL.v hE (runs_plain rfl) (Gives.p hE rfl) rfl ?_; clear hE a; intro a hE
          refine QL.v hE (runs_plain rfl) (Gives.loadB hE 6 rfl rfl rfl ty22) rfl ?_; clear hE a; intro a hE
          refine QL.v hE (runs_plain rfl) (Gives.p hE rfl) rfl ?_; clear hE a; intro a hE
          obtain ⟨x129, hx130, hq122⟩ := bindS hq122
          obtain ⟨hi131, hlt132, hy133⟩ := gx_some hx130
          obtain ⟨cs134, hl135, hR136, hat137⟩ := h_y4_0.at hy133
          subst hR136
          refine QL.v hE (runs_plain rfl) (Gives.idx hE (x93).toNat rfl rfl sl22 hi131 hlt132 (h_y4_0.aok hlt132)) rfl ?_; clear hE a; intro a hE
          refine QL.v hE (runs_plain rfl) (Gives.fld hE rfl fl126_0) rfl ?_; clear hE a; intro a hE
          refine QL.v hE (runs_plain rfl) (Gives.load1 hE rfl (fun w h => (hat137 w _ h).one rfl) ty3) rfl ?_; clear hE a; intro a hE
          refine QL.fnw hE (fun w hS => (Fishref2StandInsOf_1_v1_ok (St.front hS 10 rfl) h_y8_0 rfl (r := Fishref2StandInsOf_1_v1 x103 x129.Day y8)).mono fun _ _ ⟨he, hq⟩ => ⟨he, (St.unfront 10 rfl hq)⟩) rfl (runs_plain rfl) bd91 rfl rfl rfl ?_; clear hE a; intro a hE
          refine QL.nil ?_; clear hS w; intro w hS
          refine W.cond hE rfl (fun hc138 => ?_) (fun hc138 => ?_)
          · replace hq122 := iteT hc138 hq122
            refine W.seq ?_
            refine W.region ?_
            refine WL.vS hS hE (runs_plain rfl) (Gives.p hE rfl) rfl ?_; clear hE a; intro a hE
            refine WL.nil ?_
            refine W.ret ?_
            subst hK127
            subst hK92
            rw [← Option.some.inj hq122] at hq73
            dsimp only at hq73
            rw [← Option.some.inj hq73] at hr
            dsimp only at hr
            refine finG (fn := Try.f93) (rs := [.tmp 10]) (vs := [_]) hE rfl ⟨rfl, trivial⟩ ?_
            obtain rfl := Option.some.inj hr
            replace hS := hS.front 11 rfl
            replace hS := hS.front 1 rfl
            replace hS := hS.front 11 rfl
            replace hS := hS.front 11 rfl
            replace hS := hS.front 11 rfl
            replace hS := hS.front 11 rfl
            replace hS := hS.front 11 rfl
            replace hS := hS.front 11 rfl
            replace hS := hS.front 11 rfl
            replace hS := hS.front 11 rfl
            replace hS := hS.front 11 rfl
            replace hS := hS.dropAt 11
            exact ⟨a_y7_0, c_y7_0, s, rfl, (Sg.Le.refl _), h_y7_0, hS⟩
          · replace hq122 := iteF hc138 hq122
            refine W.skip ?_
            subst hK127
            exact ⟨q85, Option.some.inj hq122, hE.pick _ ⟨rfl, rfl, rfl, rfl, rfl, rfl, rfl, rfl, rfl, rfl, rfl, rfl, trivial⟩, hS⟩
      · clear hE hS a w; rintro a w ⟨q126, rfl, hE, hS⟩
        dsimp only at hq73
        refine W.region ?_
        refine WL.vS hS hE (runs_plain rfl) (Gives.inc hE rfl (by omega)) rfl ?_; clear hE a; intro a hE
        refine WL.vS hS hE (runs_plain rfl) (Gives.p hE rfl) rfl ?_; clear hE a; intro a hE
        refine WL.nil ?_
        subst hK92
        exact ⟨rest77, Nat.lt_succ_self _, rest77, k75 + 1, q126, x117, cs119, rfl, (by omega), hq73, h120, hn121, hE.pick _ ⟨rfl, rfl, rfl, rfl, rfl, rfl, rfl, rfl, rfl, rfl, rfl, rfl, trivial⟩, hS⟩
  · clear hE hS a w; rintro a w ⟨q85, q86, cs90, rfl, h89, hn91, hE, hS⟩
    dsimp only at hr
    refine W.seq ?_
    refine W.seq ?_
    refine W.gen fun K139 hK139 => ?_
    refine W.regionE (sel (fun w => St w s (vecC 3 1 a_v0 c_v0 y0.length cs_v0 :: vecC 3 1 a63 c64 q61.length cs90 :: pt pb0 (.cells #[.slice a_v0 y0.length c_v0] 44 (0, 0)) :: pt pb1 (.cells #[.slice a_v1 y1.length c_v1] 44 (0, 0)) :: pt pb2 (.cells #[.int .i64 y2] 3 (0, 0)) :: pt pb3 (.cells #[.func (.func 91) #[] #[.pointer (some ⟨pb8, 0, none⟩)]] 130 (0, 0)) :: pt pb4 (.cells #[.slice a_y4_0 y4.length c_y4_0] 22 (0, 0)) :: pt pb5 (.cells #[.int .i64 y5.Change, .int .i64 y5.Long, .int .i64 y5.Work, .int .i64 y5.After, .int .i64 y5.Break, .int .i64 y5.Rest, .int .i64 y5.Row] 24 (0, 0)) :: pt pb6 (.cells #[.int .i64 y6] 3 (0, 0)) :: pt pb7 (.cells #[.slice a_y7_0 y7.length c_y7_0] 44 (0, 0)) :: pt pb8 (.cells #[.slice a_y8_0 y8.length c_y8_0] 59 (0, 0)) :: vecC 3 1 a_v1 c_v1 y1.length cs_v1 :: R)) (fun w => St w s (vecC 3 1 a_v0 c_v0 y0.length cs_v0 :: vecC 3 1 a63 c64 q61.length cs90 :: pt pb0 (.cells #[.slice a_v0 y0.length c_v0] 44 (0, 0)) :: pt pb1 (.cells #[.slice a_v1 y1.length c_v1] 44 (0, 0)) :: pt pb2 (.cells #[.int .i64 y2] 3 (0, 0)) :: pt pb3 (.cells #[.func (.func 91) #[] #[.pointer (some ⟨pb8, 0, none⟩)]] 130 (0, 0)) :: pt pb4 (.cells #[.slice a_y4_0 y4.length c_y4_0] 22 (0, 0)) :: pt pb5 (.cells #[.int .i64 y5.Change, .int .i64 y5.Long, .int .i64 y5.Work, .int .i64 y5.After, .int .i64 y5.Break, .int .i64 y5.Rest, .int .i64 y5.Row] 24 (0, 0)) :: pt pb6 (.cells #[.int .i64 y6] 3 (0, 0)) :: pt pb7 (.cells #[.slice a_y7_0 y7.length c_y7_0] 44 (0, 0)) :: pt pb8 (.cells #[.slice a_y8_0 y8.length c_y8_0] 59 (0, 0)) :: vecC 3 1 a_v1 c_v1 y1.length cs_v1 :: R))) (fun b i => cond b ([0, 1, 2, 3, 4, 5, 6].contains i) ([0, 1, 2, 3, 4, 5, 6].contains i)) mixed ?_
    replace hS := hS.drew
    have hT := tw_sel (A := fun w => St w s (vecC 3 1 a_v0 c_v0 y0.length cs_v0 :: vecC 3 1 a63 c64 q61.length cs90 :: pt pb0 (.cells #[.slice a_v0 y0.length c_v0] 44 (0, 0)) :: pt pb1 (.cells #[.slice a_v1 y1.length c_v1] 44 (0, 0)) :: pt pb2 (.cells #[.int .i64 y2] 3 (0, 0)) :: pt pb3 (.cells #[.func (.func 91) #[] #[.pointer (some ⟨pb8, 0, none⟩)]] 130 (0, 0)) :: pt pb4 (.cells #[.slice a_y4_0 y4.length c_y4_0] 22 (0, 0)) :: pt pb5 (.cells #[.int .i64 y5.Change, .int .i64 y5.Long, .int .i64 y5.Work, .int .i64 y5.After, .int .i64 y5.Break, .int .i64 y5.Rest, .int .i64 y5.Row] 24 (0, 0)) :: pt pb6 (.cells #[.int .i64 y6] 3 (0, 0)) :: pt pb7 (.cells #[.slice a_y7_0 y7.length c_y7_0] 44 (0, 0)) :: pt pb8 (.cells #[.slice a_y8_0 y8.length c_y8_0] 59 (0, 0)) :: vecC 3 1 a_v1 c_v1 y1.length cs_v1 :: R)) (B := fun w => St w s (vecC 3 1 a_v0 c_v0 y0.length cs_v0 :: vecC 3 1 a63 c64 q61.length cs90 :: pt pb0 (.cells #[.slice a_v0 y0.length c_v0] 44 (0, 0)) :: pt pb1 (.cells #[.slice a_v1 y1.length c_v1] 44 (0, 0)) :: pt pb2 (.cells #[.int .i64 y2] 3 (0, 0)) :: pt pb3 (.cells #[.func (.func 91) #[] #[.pointer (some ⟨pb8, 0, none⟩)]] 130 (0, 0)) :: pt pb4 (.cells #[.slice a_y4_0 y4.length c_y4_0] 22 (0, 0)) :: pt pb5 (.cells #[.int .i64 y5.Change, .int .i64 y5.Long, .int .i64 y5.Work, .int .i64 y5.After, .int .i64 y5.Break, .int .i64 y5.Rest, .int .i64 y5.Row] 24 (0, 0)) :: pt pb6 (.cells #[.int .i64 y6] 3 (0, 0)) :: pt pb7 (.cells #[.slice a_y7_0 y7.length c_y7_0] 44 (0, 0)) :: pt pb8 (.cells #[.slice a_y8_0 y8.length c_y8_0] 59 (0, 0)) :: vecC 3 1 a_v1 c_v1 y1.length cs_v1 :: R)) (w := _) (x := true) (y := true) (fun _ => hS) (fun _ => hS)
    have hF := hS; replace hS := hS
    refine Rg.take (i := 0) true rfl hE rfl (by kernel_rfl) (runs_plain rfl) (Gives.loadB hE 6 rfl rfl rfl ty22) rfl hT ?_; clear hE a; intro a hE
    replace hS := hF; clear hF hT
    have hT := tw_sel (A := fun w => St w s (vecC 3 1 a_v0 c_v0 y0.length cs_v0 :: vecC 3 1 a63 c64 q61.length cs90 :: pt pb0 (.cells #[.slice a_v0 y0.length c_v0] 44 (0, 0)) :: pt pb1 (.cells #[.slice a_v1 y1.length c_v1] 44 (0, 0)) :: pt pb2 (.cells #[.int .i64 y2] 3 (0, 0)) :: pt pb3 (.cells #[.func (.func 91) #[] #[.pointer (some ⟨pb8, 0, none⟩)]] 130 (0, 0)) :: pt pb4 (.cells #[.slice a_y4_0 y4.length c_y4_0] 22 (0, 0)) :: pt pb5 (.cells #[.int .i64 y5.Change, .int .i64 y5.Long, .int .i64 y5.Work, .int .i64 y5.After, .int .i64 y5.Break, .int .i64 y5.Rest, .int .i64 y5.Row] 24 (0, 0)) :: pt pb6 (.cells #[.int .i64 y6] 3 (0, 0)) :: pt pb7 (.cells #[.slice a_y7_0 y7.length c_y7_0] 44 (0, 0)) :: pt pb8 (.cells #[.slice a_y8_0 y8.length c_y8_0] 59 (0, 0)) :: vecC 3 1 a_v1 c_v1 y1.length cs_v1 :: R)) (B := fun w => St w s (vecC 3 1 a_v0 c_v0 y0.length cs_v0 :: vecC 3 1 a63 c64 q61.length cs90 :: pt pb0 (.cells #[.slice a_v0 y0.length c_v0] 44 (0, 0)) :: pt pb1 (.cells #[.slice a_v1 y1.length c_v1] 44 (0, 0)) :: pt pb2 (.cells #[.int .i64 y2] 3 (0, 0)) :: pt pb3 (.cells #[.func (.func 91) #[] #[.pointer (some ⟨pb8, 0, none⟩)]] 130 (0, 0)) :: pt pb4 (.cells #[.slice a_y4_0 y4.length c_y4_0] 22 (0, 0)) :: pt pb5 (.cells #[.int .i64 y5.Change, .int .i64 y5.Long, .int .i64 y5.Work, .int .i64 y5.After, .int .i64 y5.Break, .int .i64 y5.Rest, .int .i64 y5.Row] 24 (0, 0)) :: pt pb6 (.cells #[.int .i64 y6] 3 (0, 0)) :: pt pb7 (.cells #[.slice a_y7_0 y7.length c_y7_0] 44 (0, 0)) :: pt pb8 (.cells #[.slice a_y8_0 y8.length c_y8_0] 59 (0, 0)) :: vecC 3 1 a_v1 c_v1 y1.length cs_v1 :: R)) (w := _) (x := true) (y := true) (fun _ => hS) (fun _ => hS)
    have hF := hS; replace hS := hS
    refine Rg.take (i := 1) true rfl hE rfl (by kernel_rfl) (runs_plain rfl) (Gives.loadB hE 4 rfl rfl rfl ty3) rfl hT ?_; clear hE a; intro a hE
    replace hS := hF; clear hF hT
    refine Rg.takeP (i := 2) hE rfl (by kernel_rfl) (runs_plain rfl) (Gives.p hE rfl) rfl (tw_sel (fun _ => hS) (fun _ => hS)) ?_; clear hE a; intro a hE
    have hT := tw_sel (A := fun w => St w s (vecC 3 1 a_v0 c_v0 y0.length cs_v0 :: vecC 3 1 a63 c64 q61.length cs90 :: pt pb0 (.cells #[.slice a_v0 y0.length c_v0] 44 (0, 0)) :: pt pb1 (.cells #[.slice a_v1 y1.length c_v1] 44 (0, 0)) :: pt pb2 (.cells #[.int .i64 y2] 3 (0, 0)) :: pt pb3 (.cells #[.func (.func 91) #[] #[.pointer (some ⟨pb8, 0, none⟩)]] 130 (0, 0)) :: pt pb4 (.cells #[.slice a_y4_0 y4.length c_y4_0] 22 (0, 0)) :: pt pb5 (.cells #[.int .i64 y5.Change, .int .i64 y5.Long, .int .i64 y5.Work, .int .i64 y5.After, .int .i64 y5.Break, .int .i64 y5.Rest, .int .i64 y5.Row] 24 (0, 0)) :: pt pb6 (.cells #[.int .i64 y6] 3 (0, 0)) :: pt pb7 (.cells #[.slice a_y7_0 y7.length c_y7_0] 44 (0, 0)) :: pt pb8 (.cells #[.slice a_y8_0 y8.length c_y8_0] 59 (0, 0)) :: vecC 3 1 a_v1 c_v1 y1.length cs_v1 :: R)) (B := fun w => St w s (vecC 3 1 a_v0 c_v0 y0.length cs_v0 :: vecC 3 1 a63 c64 q61.length cs90 :: pt pb0 (.cells #[.slice a_v0 y0.length c_v0] 44 (0, 0)) :: pt pb1 (.cells #[.slice a_v1 y1.length c_v1] 44 (0, 0)) :: pt pb2 (.cells #[.int .i64 y2] 3 (0, 0)) :: pt pb3 (.cells #[.func (.func 91) #[] #[.pointer (some ⟨pb8, 0, none⟩)]] 130 (0, 0)) :: pt pb4 (.cells #[.slice a_y4_0 y4.length c_y4_0] 22 (0, 0)) :: pt pb5 (.cells #[.int .i64 y5.Change, .int .i64 y5.Long, .int .i64 y5.Work, .int .i64 y5.After, .int .i64 y5.Break, .int .i64 y5.Rest, .int .i64 y5.Row] 24 (0, 0)) :: pt pb6 (.cells #[.int .i64 y6] 3 (0, 0)) :: pt pb7 (.cells #[.slice a_y7_0 y7.length c_y7_0] 44 (0, 0)) :: pt pb8 (.cells #[.slice a_y8_0 y8.length c_y8_0] 59 (0, 0)) :: vecC 3 1 a_v1 c_v1 y1.length cs_v1 :: R)) (w := _) (x := true) (y := true) (fun _ => hS) (fun _ => hS)
    have hF := hS; replace hS := hS
    refine Rg.take (i := 4) true rfl hE rfl (by kernel_rfl) (runs_plain rfl) (Gives.loadBA hE 7 rfl rfl ty24) rfl hT ?_; clear hE a; intro a hE
    replace hS := hF; clear hF hT
    refine Rg.one (i := 3) true true rfl (by kernel_rfl) (by kernel_rfl) (by kernel_rfl) ?_
    obtain ⟨q140, hq141, hr⟩ := bindS hr
    replace hS := hS.front 1 rfl
    have hc_ := Fishref2given_v1_ok hS h89 hn91 hq141
    refine WL.fnq hE (hc_) (runs_plain rfl) bd48 rfl rfl rfl ?_
    clear hE hS hc_; rintro e w ⟨a142, c143, s145, rfl, hle146, h144, hS⟩; refine ⟨_, rfl, ?_⟩; clear a; intro a hE
    replace h_y4_0 := Sl.mono RFleetShift.mono hle146 h_y4_0
    replace h89 := Ev.mono RI.mono hle146 h89
    replace h_v0 := Ev.mono RI.mono hle146 h_v0
    replace h_y7_0 := Sl.mono RI.mono hle146 h_y7_0
    replace h_y8_0 := Sl.mono RFleetAbsence.mono hle146 h_y8_0
    replace h_v1 := Ev.mono RI.mono hle146 h_v1
    refine WL.nil ?_
    refine ⟨⟨fun _ => (St.down hle146 (St.order hS [1, 0, 0, 0, 0, 0, 0, 0, 0, 0, 0, 0] (by kernel_rfl))), fun _ => (St.down hle146 (St.order hS [1, 0, 0, 0, 0, 0, 0, 0, 0, 0, 0, 0] (by kernel_rfl)))⟩, ?_⟩
    refine Rg.one (i := 5) true true rfl (by kernel_rfl) (by kernel_rfl) (by kernel_rfl) ?_
    obtain ⟨q147, hq148, hr⟩ := bindS hr
    have hc_ := Fishref2later_ok hS h_y4_0 h144 hq148
    refine WL.fnq hE (hc_) (runs_plain rfl) bd49 rfl rfl rfl ?_
    clear hE hS hc_; rintro e w ⟨rfl, hS⟩; refine ⟨_, rfl, ?_⟩; clear a; intro a hE
    refine WL.nil ?_
    refine ⟨⟨fun _ => (St.down hle146 (St.order hS [1, 0, 0, 0, 0, 0, 0, 0, 0, 0, 0, 0] (by kernel_rfl))), fun _ => (St.down hle146 (St.order hS [1, 0, 0, 0, 0, 0, 0, 0, 0, 0, 0, 0] (by kernel_rfl)))⟩, ?_⟩
    refine Rg.takeP (i := 6) hE rfl (by kernel_rfl) (runs_plain rfl) (Gives.p hE rfl) rfl (tw_sel (fun _ => (St.down hle146 (St.order hS [1, 0, 0, 0, 0, 0, 0, 0, 0, 0, 0, 0] (by kernel_rfl)))) (fun _ => (St.down hle146 (St.order hS [1, 0, 0, 0, 0, 0, 0, 0, 0, 0, 0, 0] (by kernel_rfl))))) ?_; clear hE a; intro a hE
    refine Rg.done (by kernel_rfl) ?_
    subst hK139
    refine W.cond hE rfl (fun hc149 => ?_) (fun hc149 => ?_)
    · replace hr := iteT hc149 hr
      refine W.seq ?_
      refine W.region ?_
      refine WL.vS hS hE (runs_plain rfl) (Gives.p hE rfl) rfl ?_; clear hE a; intro a hE
      refine WL.nil ?_
      refine W.ret ?_
      refine finG (fn := Try.f93) (rs := [.tmp 10]) (vs := [_]) hE rfl ⟨rfl, trivial⟩ ?_
      obtain rfl := Option.some.inj hr
      replace hS := hS.front 11 rfl
      replace hS := hS.front 2 rfl
      replace hS := hS.front 11 rfl
      replace hS := hS.front 11 rfl
      replace hS := hS.front 11 rfl
      replace hS := hS.front 11 rfl
      replace hS := hS.front 11 rfl
      replace hS := hS.front 11 rfl
      replace hS := hS.front 11 rfl
      replace hS := hS.front 11 rfl
      replace hS := hS.front 11 rfl
      replace hS := hS.dropAt 11
      exact ⟨a_y7_0, c_y7_0, s145, rfl, hle146, h_y7_0, hS⟩
    · replace hr := iteF hc149 hr
      refine W.skip ?_
      refine W.seq ?_
      refine W.seq ?_
      obtain ⟨q151, hq150, hr⟩ := bndS hr
      refine W.cut (fun a w => ∃ (q154 : Bool), q154 = q151 ∧ Rep a 63 [(7, .pointer (some ⟨pb6, 0, none⟩)), (8, .pointer (some ⟨pb7, 0, none⟩)), (11, .slice a63 q61.length c64), (12, .int .i64 q85), (60, .bool q154)] ∧ St w s145 (vecC 3 1 a63 c64 q61.length cs90 :: vecC 3 1 a_v0 c_v0 y0.length cs_v0 :: pt pb0 (.cells #[.slice a_v0 y0.length c_v0] 44 (0, 0)) :: pt pb1 (.cells #[.slice a_v1 y1.length c_v1] 44 (0, 0)) :: pt pb2 (.cells #[.int .i64 y2] 3 (0, 0)) :: pt pb3 (.cells #[.func (.func 91) #[] #[.pointer (some ⟨pb8, 0, none⟩)]] 130 (0, 0)) :: pt pb4 (.cells #[.slice a_y4_0 y4.length c_y4_0] 22 (0, 0)) :: pt pb5 (.cells #[.int .i64 y5.Change, .int .i64 y5.Long, .int .i64 y5.Work, .int .i64 y5.After, .int .i64 y5.Break, .int .i64 y5.Rest, .int .i64 y5.Row] 24 (0, 0)) :: pt pb6 (.cells #[.int .i64 y6] 3 (0, 0)) :: pt pb7 (.cells #[.slice a_y7_0 y7.length c_y7_0] 44 (0, 0)) :: pt pb8 (.cells #[.slice a_y8_0 y8.length c_y8_0] 59 (0, 0)) :: vecC 3 1 a_v1 c_v1 y1.length cs_v1 :: R)) ?_ ?_
      · refine W.gen fun K155 hK155 => ?_
        refine W.region ?_
        refine WL.vS hS hE (runs_plain rfl) (Gives.loadB hE 8 rfl rfl rfl ty3) rfl ?_; clear hE a; intro a hE
        refine WL.vS hS hE (runs_plain rfl) (Gives.p hE rfl) rfl ?_; clear hE a; intro a hE
        refine WL.vS hS hE (runs_plain rfl) (Gives.p hE rfl) rfl ?_; clear hE a; intro a hE
        rcases Bool.eq_false_or_eq_true (decide (y6 < 0)) with hg156 | hg156
        · replace hq150 := iteT hg156 hq150
          refine WL.no hE (runs_not hE rfl rfl rfl (by rw [hg156]; decide)) rfl ?_; clear hE a; intro a hE
          refine WL.no hE (runs_not hE rfl rfl rfl (by rw [hg156]; decide)) rfl ?_; clear hE a; intro a hE
          refine WL.no hE (runs_not hE rfl rfl rfl (by rw [hg156]; decide)) rfl ?_; clear hE a; intro a hE
          refine WL.vS hS hE (runs_plain rfl) (Gives.pickT hE rfl hg156 rfl) rfl ?_; clear hE a; intro a hE
          refine WL.nil ?_
          subst hK155
          exact ⟨true, hq150, hE.pick _ ⟨rfl, rfl, rfl, rfl, rfl, trivial⟩, hS⟩
        · replace hq150 := iteF hg156 hq150
          refine WL.vS hS hE (runs_if hE rfl rfl rfl hg156) (Gives.p hE rfl) rfl ?_; clear hE a; intro a hE
          refine WL.vS hS hE (runs_if hE rfl rfl rfl hg156) (Gives.loadB hE 8 rfl rfl rfl ty3) rfl ?_; clear hE a; intro a hE
          refine WL.vS hS hE (runs_if hE rfl rfl rfl hg156) (Gives.p hE rfl) rfl ?_; clear hE a; intro a hE
          refine WL.vS hS hE (runs_plain rfl) (Gives.pickF hE rfl hg156 rfl) rfl ?_; clear hE a; intro a hE
          refine WL.nil ?_
          subst hK155
          exact ⟨decide (q85 < y6), hq150, hE.pick _ ⟨rfl, rfl, rfl, rfl, rfl, trivial⟩, hS⟩
      · clear hE hS a w; rintro a w ⟨q154, rfl, hE, hS⟩
        obtain ⟨q158, hq157, hr⟩ := bndS hr
        refine W.cut (fun a w => ∃ (q161 : Int), ∃ (q162 : List Int), ∃ (a163 : Option Addr), ∃ (c164 : Nat), ∃ (s159 : Sg), s145.Le s159 ∧ (q161, q162) = q158 ∧ Sl 1 (RI .i64) s159 a163 c164 q162 ∧ Rep a 63 [] ∧ St w s159 (vecC 3 1 a_v0 c_v0 y0.length cs_v0 :: pt pb0 (.cells #[.slice a_v0 y0.length c_v0] 44 (0, 0)) :: pt pb1 (.cells #[.slice a_v1 y1.length c_v1] 44 (0, 0)) :: pt pb2 (.cells #[.int .i64 y2] 3 (0, 0)) :: pt pb3 (.cells #[.func (.func 91) #[] #[.pointer (some ⟨pb8, 0, none⟩)]] 130 (0, 0)) :: pt pb4 (.cells #[.slice a_y4_0 y4.length c_y4_0] 22 (0, 0)) :: pt pb5 (.cells #[.int .i64 y5.Change, .int .i64 y5.Long, .int .i64 y5.Work, .int .i64 y5.After, .int .i64 y5.Break, .int .i64 y5.Rest, .int .i64 y5.Row] 24 (0, 0)) :: pt pb6 (.cells #[.int .i64 q161] 3 (0, 0)) :: pt pb7 (.cells #[.slice a163 q162.length c164] 44 (0, 0)) :: pt pb8 (.cells #[.slice a_y8_0 y8.length c_y8_0] 59 (0, 0)) :: vecC 3 1 a_v1 c_v1 y1.length cs_v1 :: R)) ?_ ?_
        · refine W.gen fun K166 hK166 => ?_
          refine W.cond hE rfl (fun hc167 => ?_) (fun hc167 => ?_)
          · replace hq157 := iteT hc167 hq157
            refine W.region ?_
            refine WL.vS hS hE (runs_plain rfl) (Gives.p hE rfl) rfl ?_; clear hE a; intro a hE
            refine WL.vS hS hE (runs_plain rfl) (Gives.p hE rfl) rfl ?_; clear hE a; intro a hE
            refine WL.storeI hE hS 9 rfl [.slice a63 q61.length c64] (runs_plain rfl) rfl rfl rfl ty44 rfl rfl rfl rfl ?_; clear hE hS a w; intro a w hE hS
            refine WL.storeI hE hS 8 rfl [.int .i64 q85] (runs_plain rfl) rfl rfl rfl ty3 rfl rfl rfl rfl ?_; clear hE hS a w; intro a w hE hS
            refine WL.nil ?_
            have hF := hS.fixD RI.mono 0 rfl h89 hn91; clear hS; obtain ⟨s168, hle169, hS, h170⟩ := hF
            (try rw [← hn91] at hE)
            (try rw [← hn91] at hS)
            replace h_v0 := Ev.mono RI.mono hle169 h_v0
            replace h_y4_0 := Sl.mono RFleetShift.mono hle169 h_y4_0
            replace h_y8_0 := Sl.mono RFleetAbsence.mono hle169 h_y8_0
            replace h_v1 := Ev.mono RI.mono hle169 h_v1
            subst hK166
            exact ⟨q85, q86, a63, c64, s168, hle169, hq157, h170, hE.pick _ trivial, hS⟩
          · replace hq157 := iteF hc167 hq157
            refine W.skip ?_
            replace hS := hS.tail
            subst hK166
            exact ⟨y6, y7, a_y7_0, c_y7_0, s145, (Sg.Le.refl _), hq157, h_y7_0, hE.pick _ trivial, hS⟩
        · clear hE hS a w; rintro a w ⟨q161, q162, a163, c164, s159, hle160, rfl, h165, hE, hS⟩
          dsimp only at hr
          replace h_v0 := Ev.mono RI.mono hle160 h_v0
          replace h_y4_0 := Sl.mono RFleetShift.mono hle160 h_y4_0
          replace h_y7_0 := Sl.mono RI.mono hle160 h_y7_0
          replace h_y8_0 := Sl.mono RFleetAbsence.mono hle160 h_y8_0
          replace h_v1 := Ev.mono RI.mono hle160 h_v1
          refine W.seq ?_
          refine W.region ?_
          refine WL.vS hS hE (runs_plain rfl) (Gives.p hE rfl) rfl ?_; clear hE a; intro a hE
          refine WL.nil ?_
          refine W.ret ?_
          refine finG (fn := Try.f93) (rs := [.tmp 10]) (vs := [_]) hE rfl ⟨rfl, trivial⟩ ?_
          obtain rfl := Option.some.inj hr
          exact ⟨a163, c164, s159, rfl, (Sg.Le.trans hle146 hle160), h165, St.order hS [1, 1, 1, 1, 1, 1, 1, 1, 1] (by kernel_rfl)⟩
end Go.Proofs.Ytfhkpdnohcidgaa
