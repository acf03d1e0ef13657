/- The walks of the functions that FleetMoves reaches: each call comes to what its mirror says. The conditions are those of each contract. -/
import Derived.Test.YtpoooohaoekbaaaProg
import Derived.Test.YtpoooohaoekbaaaFleetMovesM
import Derived.Test.YtpoooohaoekbaaaFpMore
import Derived.Test.YtpoooohaoekbaaaFleetMovesW1
namespace Go.Proofs.Ytpoooohaoekbaaa
open Go Go.Fp
set_option maxHeartbeats 8000000 in
theorem Fishlaw2FleetMoves_ok  {w : World} {s : Sg} {R : List HP} {x0 : FleetDepot} {a0_0 : Option Addr} {c0_0 : Nat} {a0_1 : Option Addr} {c0_1 : Nat} {x1 : List FleetMove} {a1 : Option Addr} {c1 : Nat} (hS : St w s (R)) (h0_0 : Sl 1 (RI .i64) s a0_0 c0_0 x0.Room) (h0_1 : Sl 1 (RL 1 (RI .i64)) s a0_1 c0_1 x0.Tracks) (h1 : Sl 2 RFleetMove s a1 c1 x1) {r : Bool} (hr : Fishlaw2FleetMoves x0 x1 = some r) :
    Calls Try.prog 5 [.agg [.slice a0_0 x0.Room.length c0_0, .slice a0_1 x0.Tracks.length c0_1].toArray, .slice a1 x1.length c1].toArray w (fun e w => e = .returned (.bool r) ∧ St w s (R)) := by
  refine enter Try.func5 rfl rfl rfl fun a hE => ?_
  rw [Fishlaw2FleetMoves] at hr
  refine W.seq ?_
  refine W.region ?_
  refine WL.box hE hS (runs_plain rfl) rfl rfl rfl ?_; clear hE hS a w; intro b51 a w hE hS
  refine WL.vS hS hE (runs_plain rfl) (Gives.p hE rfl) rfl ?_; clear hE a; intro a hE
  refine WL.nil ?_
  refine W.seq ?_
  refine W.region ?_
  refine WL.vS hS hE (runs_plain rfl) (Gives.loadBA hE 0 rfl rfl ty25) rfl ?_; clear hE a; intro a hE
  refine WL.vS hS hE (runs_plain rfl) (Gives.p hE rfl) rfl ?_; clear hE a; intro a hE
  obtain ⟨q52, hq53, hr⟩ := bindS hr
  refine WL.fn hE (FleetPlay_ok hS h0_0 h0_1 h1 hq53) (runs_plain rfl) bd20 rfl rfl ?_
  clear hE hS; rintro e w ⟨cs54, a56, c57, n58, cs59, s62, rfl, hle63, h55, h60, rfl, hS⟩; refine ⟨_, rfl, ?_⟩; clear a; intro a hE
  replace h0_0 := Sl.mono RI.mono hle63 h0_0
  replace h0_1 := Sl.mono (RL.mono RI.mono) hle63 h0_1
  replace h1 := Sl.mono RFleetMove.mono hle63 h1
  obtain ⟨a64, c65, a67, c68, rfl, h66, h69⟩ := h55
  refine WL.vS hS hE (runs_plain rfl) (Gives.p hE rfl) rfl ?_; clear hE a; intro a hE
  refine WL.vS hS hE (runs_plain rfl) (Gives.p hE rfl) rfl ?_; clear hE a; intro a hE
  refine WL.vS hS hE (runs_plain rfl) (Gives.p hE rfl) rfl ?_; clear hE a; intro a hE
  refine WL.vS hS hE (runs_plain rfl) (Gives.p hE rfl) rfl ?_; clear hE a; intro a hE
  refine WL.alloc hE hS (runs_plain rfl) zr25 rfl ?_; clear hE hS a w; intro b70 a w hE hS
  refine WL.storeI hE hS 0 rfl [.slice a64 q52.1.Room.length c65, .slice a67 q52.1.Tracks.length c68] (runs_plain rfl) rfl rfl rfl ty25 rfl rfl rfl rfl ?_; clear hE hS a w; intro a w hE hS
  refine WL.vS hS hE (runs_plain rfl) (Gives.p hE rfl) rfl ?_; clear hE a; intro a hE
  refine WL.vS hS hE (runs_plain rfl) (Gives.p hE rfl) rfl ?_; clear hE a; intro a hE
  refine WL.nil ?_
  refine W.seq ?_
  refine W.seq ?_
  refine W.region ?_
  refine WL.vS hS hE (runs_plain rfl) (Gives.loadBA hE 2 rfl rfl ty25) rfl ?_; clear hE a; intro a hE
  obtain ⟨q71, hq72, hr⟩ := bindS hr
  refine WL.fn hE (Fishref2DepotFault_ok hS h0_0 h0_1 hq72) (runs_plain rfl) bd13 rfl rfl ?_
  clear hE hS; rintro e w ⟨rfl, hS⟩; refine ⟨_, rfl, ?_⟩; clear a; intro a hE
  refine WL.vS hS hE (runs_plain rfl) (Gives.p hE rfl) rfl ?_; clear hE a; intro a hE
  refine WL.nil ?_
  refine W.seq ?_
  refine W.region ?_
  refine WL.vS hS hE (runs_plain rfl) (Gives.p hE rfl) rfl ?_; clear hE a; intro a hE
  refine WL.vS hS hE (runs_plain rfl) (Gives.p hE rfl) rfl ?_; clear hE a; intro a hE
  refine WL.nil ?_
  refine W.cond hE rfl (fun hc73 => ?_) (fun hc73 => ?_)
  · replace hr := iteT hc73 hr
    refine W.seq ?_
    refine W.region ?_
    refine WL.vS hS hE (runs_plain rfl) (Gives.loadBA hE 2 rfl rfl ty25) rfl ?_; clear hE a; intro a hE
    refine WL.vS hS hE (runs_plain rfl) (Gives.build hE (vs := [(0, .int .i64 0), (1, .int .i64 (-1))]) [.int .i64 0, .int .i64 (-1)] rfl (by kernel_rfl)) rfl ?_; clear hE a; intro a hE
    obtain ⟨q74, hq75, hr⟩ := bindS hr
    refine WL.fn hE (FleetDo_ok hS h0_0 h0_1 hq75) (runs_plain rfl) bd21 rfl rfl ?_
    clear hE hS; rintro e w ⟨cs76, s78, rfl, hle79, h77, hS⟩; refine ⟨_, rfl, ?_⟩; clear a; intro a hE
    replace h0_0 := Sl.mono RI.mono hle79 h0_0
    replace h0_1 := Sl.mono (RL.mono RI.mono) hle79 h0_1
    replace h1 := Sl.mono RFleetMove.mono hle79 h1
    replace h66 := Sl.mono RI.mono hle79 h66
    replace h69 := Sl.mono (RL.mono RI.mono) hle79 h69
    replace h60 := Ev.mono RI.mono hle79 h60
    obtain ⟨a80, c81, a83, c84, rfl, h82, h85⟩ := h77
    refine WL.vS hS hE (runs_plain rfl) (Gives.p hE rfl) rfl ?_; clear hE a; intro a hE
    refine WL.vS hS hE (runs_plain rfl) (Gives.p hE rfl) rfl ?_; clear hE a; intro a hE
    refine WL.vS hS hE (runs_plain rfl) (Gives.p hE rfl) rfl ?_; clear hE a; intro a hE
    refine WL.alloc hE hS (runs_plain rfl) zr25 rfl ?_; clear hE hS a w; intro b86 a w hE hS
    refine WL.storeI hE hS 0 rfl [.slice a80 q74.1.Room.length c81, .slice a83 q74.1.Tracks.length c84] (runs_plain rfl) rfl rfl rfl ty25 rfl rfl rfl rfl ?_; clear hE hS a w; intro a w hE hS
    refine WL.vS hS hE (runs_plain rfl) (Gives.p hE rfl) rfl ?_; clear hE a; intro a hE
    refine WL.nil ?_
    refine W.seq ?_
    obtain ⟨q88, hq87, hr⟩ := bindS hr
    refine W.cut (fun a w => ∃ (q91 : Bool), q91 = q88 ∧ Rep a 119 [(4, .bool q91)] ∧ St w s78 (pt b86 (.cells #[.slice a80 q74.1.Room.length c81, .slice a83 q74.1.Tracks.length c84] 25 (0, 0)) :: pt b70 (.cells #[.slice a64 q52.1.Room.length c65, .slice a67 q52.1.Tracks.length c68] 25 (0, 0)) :: vecC 3 1 a56 c57 q52.2.1.length cs59 :: pt b51 (.cells #[.slice a0_0 x0.Room.length c0_0, .slice a0_1 x0.Tracks.length c0_1] 25 (0, 0)) :: R)) ?_ ?_
    · refine W.gen fun K92 hK92 => ?_
      refine W.region ?_
      obtain ⟨q93, hq94, hq87⟩ := bindS hq87
      refine WL.fn hE (Fishlaw2yards_ok hS  hq94) (runs_plain rfl) bd14 rfl rfl ?_
      clear hE hS; rintro e w ⟨rfl, hS⟩; refine ⟨_, rfl, ?_⟩; clear a; intro a hE
      refine WL.vS hS hE (runs_plain rfl) (Gives.p hE rfl) rfl ?_; clear hE a; intro a hE
      rcases Bool.eq_false_or_eq_true q93 with hg95 | hg95
      · replace hq87 := iteT hg95 hq87
        refine WL.vS hS hE (runs_if hE rfl rfl rfl hg95) (Gives.p hE rfl) rfl ?_; clear hE a; intro a hE
        refine WL.vS hS hE (runs_if hE rfl rfl rfl hg95) (Gives.p hE rfl) rfl ?_; clear hE a; intro a hE
        refine WL.vS hS hE (runs_if hE rfl rfl rfl hg95) (Gives.p hE rfl) rfl ?_; clear hE a; intro a hE
        refine WL.vS hS hE (runs_plain rfl) (Gives.pickT hE rfl hg95 rfl) rfl ?_; clear hE a; intro a hE
        refine WL.vS hS hE (runs_plain rfl) (Gives.p hE rfl) rfl ?_; clear hE a; intro a hE
        rcases Bool.eq_false_or_eq_true (q52.2.2 == q71) with hg96 | hg96
        · replace hq87 := iteT hg96 hq87
          refine WL.vS hS hE (runs_if hE rfl rfl rfl hg96) (Gives.p hE rfl) rfl ?_; clear hE a; intro a hE
          refine WL.vS hS hE (runs_if hE rfl rfl rfl hg96) (Gives.p hE rfl) rfl ?_; clear hE a; intro a hE
          refine WL.vS hS hE (runs_if hE rfl rfl rfl hg96) (Gives.p hE rfl) rfl ?_; clear hE a; intro a hE
          refine WL.vS hS hE (runs_plain rfl) (Gives.pickT hE rfl hg96 rfl) rfl ?_; clear hE a; intro a hE
          refine WL.vS hS hE (runs_plain rfl) (Gives.p hE rfl) rfl ?_; clear hE a; intro a hE
          rcases Bool.eq_false_or_eq_true (q74.2 == q71) with hg97 | hg97
          · replace hq87 := iteT hg97 hq87
            refine WL.vS hS hE (runs_if hE rfl rfl rfl hg97) (Gives.p hE rfl) rfl ?_; clear hE a; intro a hE
            refine WL.vS hS hE (runs_if hE rfl rfl rfl hg97) (Gives.len hE rfl sl22) rfl ?_; clear hE a; intro a hE
            refine WL.vS hS hE (runs_if hE rfl rfl rfl hg97) (Gives.p hE rfl) rfl ?_; clear hE a; intro a hE
            refine WL.vS hS hE (runs_plain rfl) (Gives.pickT hE rfl hg97 rfl) rfl ?_; clear hE a; intro a hE
            refine WL.vS hS hE (runs_plain rfl) (Gives.p hE rfl) rfl ?_; clear hE a; intro a hE
            rcases Bool.eq_false_or_eq_true (((q52.2.1.length : Nat) : Int) == 0) with hg98 | hg98
            · replace hq87 := iteT hg98 hq87
              refine WL.vS hS hE (runs_if hE rfl rfl rfl hg98) (Gives.loadBA hE 1 rfl rfl ty25) rfl ?_; clear hE a; intro a hE
              refine WL.vS hS hE (runs_if hE rfl rfl rfl hg98) (Gives.build hE (vs := []) [.slice none 0 0, .slice none 0 0] rfl (by kernel_rfl)) rfl ?_; clear hE a; intro a hE
              obtain ⟨q99, hq100, hq87⟩ := bindS hq87
              refine WL.fn hE (Fishref2SameDepot_ok hS h66 h69 Sl.nil Sl.nil hq100) (runs_if hE rfl rfl rfl hg98) bd22 rfl rfl ?_
              clear hE hS; rintro e w ⟨rfl, hS⟩; refine ⟨_, rfl, ?_⟩; clear a; intro a hE
              refine WL.vS hS hE (runs_plain rfl) (Gives.pickT hE rfl hg98 rfl) rfl ?_; clear hE a; intro a hE
              refine WL.vS hS hE (runs_plain rfl) (Gives.p hE rfl) rfl ?_; clear hE a; intro a hE
              refine WL.nil ?_
              subst hK92
              exact ⟨q99, Option.some.inj hq87, hE.pick _ ⟨rfl, trivial⟩, hS⟩
            · replace hq87 := iteF hg98 hq87
              refine WL.no hE (runs_not hE rfl rfl rfl (by rw [hg98]; decide)) rfl ?_; clear hE a; intro a hE
              refine WL.no hE (runs_not hE rfl rfl rfl (by rw [hg98]; decide)) rfl ?_; clear hE a; intro a hE
              refine WL.no hE (runs_not hE rfl rfl rfl (by rw [hg98]; decide)) rfl ?_; clear hE a; intro a hE
              refine WL.vS hS hE (runs_plain rfl) (Gives.pickF hE rfl hg98 rfl) rfl ?_; clear hE a; intro a hE
              refine WL.vS hS hE (runs_plain rfl) (Gives.p hE rfl) rfl ?_; clear hE a; intro a hE
              refine WL.nil ?_
              subst hK92
              exact ⟨false, Option.some.inj hq87, hE.pick _ ⟨rfl, trivial⟩, hS⟩
          · replace hq87 := iteF hg97 hq87
            refine WL.no hE (runs_not hE rfl rfl rfl (by rw [hg97]; decide)) rfl ?_; clear hE a; intro a hE
            refine WL.no hE (runs_not hE rfl rfl rfl (by rw [hg97]; decide)) rfl ?_; clear hE a; intro a hE
            refine WL.no hE (runs_not hE rfl rfl rfl (by rw [hg97]; decide)) rfl ?_; clear hE a; intro a hE
            refine WL.vS hS hE (runs_plain rfl) (Gives.pickF hE rfl hg97 rfl) rfl ?_; clear hE a; intro a hE
            refine WL.vS hS hE (runs_plain rfl) (Gives.p hE rfl) rfl ?_; clear hE a; intro a hE
            refine WL.no hE (runs_not hE rfl rfl rfl (by decide)) rfl ?_; clear hE a; intro a hE
            refine WL.no hE (runs_not hE rfl rfl rfl (by decide)) rfl ?_; clear hE a; intro a hE
            refine WL.no hE (runs_not hE rfl rfl rfl (by decide)) rfl ?_; clear hE a; intro a hE
            refine WL.vS hS hE (runs_plain rfl) (Gives.pickF hE rfl rfl rfl) rfl ?_; clear hE a; intro a hE
            refine WL.vS hS hE (runs_plain rfl) (Gives.p hE rfl) rfl ?_; clear hE a; intro a hE
            refine WL.nil ?_
            subst hK92
            exact ⟨false, Option.some.inj hq87, hE.pick _ ⟨rfl, trivial⟩, hS⟩
        · replace hq87 := iteF hg96 hq87
          refine WL.no hE (runs_not hE rfl rfl rfl (by rw [hg96]; decide)) rfl ?_; clear hE a; intro a hE
          refine WL.no hE (runs_not hE rfl rfl rfl (by rw [hg96]; decide)) rfl ?_; clear hE a; intro a hE
          refine WL.no hE (runs_not hE rfl rfl rfl (by rw [hg96]; decide)) rfl ?_; clear hE a; intro a hE
          refine WL.vS hS hE (runs_plain rfl) (Gives.pickF hE rfl hg96 rfl) rfl ?_; clear hE a; intro a hE
          refine WL.vS hS hE (runs_plain rfl) (Gives.p hE rfl) rfl ?_; clear hE a; intro a hE
          refine WL.no hE (runs_not hE rfl rfl rfl (by decide)) rfl ?_; clear hE a; intro a hE
          refine WL.no hE (runs_not hE rfl rfl rfl (by decide)) rfl ?_; clear hE a; intro a hE
          refine WL.no hE (runs_not hE rfl rfl rfl (by decide)) rfl ?_; clear hE a; intro a hE
          refine WL.vS hS hE (runs_plain rfl) (Gives.pickF hE rfl rfl rfl) rfl ?_; clear hE a; intro a hE
          refine WL.vS hS hE (runs_plain rfl) (Gives.p hE rfl) rfl ?_; clear hE a; intro a hE
          refine WL.no hE (runs_not hE rfl rfl rfl (by decide)) rfl ?_; clear hE a; intro a hE
          refine WL.no hE (runs_not hE rfl rfl rfl (by decide)) rfl ?_; clear hE a; intro a hE
          refine WL.no hE (runs_not hE rfl rfl rfl (by decide)) rfl ?_; clear hE a; intro a hE
          refine WL.vS hS hE (runs_plain rfl) (Gives.pickF hE rfl rfl rfl) rfl ?_; clear hE a; intro a hE
          refine WL.vS hS hE (runs_plain rfl) (Gives.p hE rfl) rfl ?_; clear hE a; intro a hE
          refine WL.nil ?_
          subst hK92
          exact ⟨false, Option.some.inj hq87, hE.pick _ ⟨rfl, trivial⟩, hS⟩
      · replace hq87 := iteF hg95 hq87
        refine WL.no hE (runs_not hE rfl rfl rfl (by rw [hg95]; decide)) rfl ?_; clear hE a; intro a hE
        refine WL.no hE (runs_not hE rfl rfl rfl (by rw [hg95]; decide)) rfl ?_; clear hE a; intro a hE
        refine WL.no hE (runs_not hE rfl rfl rfl (by rw [hg95]; decide)) rfl ?_; clear hE a; intro a hE
        refine WL.vS hS hE (runs_plain rfl) (Gives.pickF hE rfl hg95 rfl) rfl ?_; clear hE a; intro a hE
        refine WL.vS hS hE (runs_plain rfl) (Gives.p hE rfl) rfl ?_; clear hE a; intro a hE
        refine WL.no hE (runs_not hE rfl rfl rfl (by decide)) rfl ?_; clear hE a; intro a hE
        refine WL.no hE (runs_not hE rfl rfl rfl (by decide)) rfl ?_; clear hE a; intro a hE
        refine WL.no hE (runs_not hE rfl rfl rfl (by decide)) rfl ?_; clear hE a; intro a hE
        refine WL.vS hS hE (runs_plain rfl) (Gives.pickF hE rfl rfl rfl) rfl ?_; clear hE a; intro a hE
        refine WL.vS hS hE (runs_plain rfl) (Gives.p hE rfl) rfl ?_; clear hE a; intro a hE
        refine WL.no hE (runs_not hE rfl rfl rfl (by decide)) rfl ?_; clear hE a; intro a hE
        refine WL.no hE (runs_not hE rfl rfl rfl (by decide)) rfl ?_; clear hE a; intro a hE
        refine WL.no hE (runs_not hE rfl rfl rfl (by decide)) rfl ?_; clear hE a; intro a hE
        refine WL.vS hS hE (runs_plain rfl) (Gives.pickF hE rfl rfl rfl) rfl ?_; clear hE a; intro a hE
        refine WL.vS hS hE (runs_plain rfl) (Gives.p hE rfl) rfl ?_; clear hE a; intro a hE
        refine WL.no hE (runs_not hE rfl rfl rfl (by decide)) rfl ?_; clear hE a; intro a hE
        refine WL.no hE (runs_not hE rfl rfl rfl (by decide)) rfl ?_; clear hE a; intro a hE
        refine WL.no hE (runs_not hE rfl rfl rfl (by decide)) rfl ?_; clear hE a; intro a hE
        refine WL.vS hS hE (runs_plain rfl) (Gives.pickF hE rfl rfl rfl) rfl ?_; clear hE a; intro a hE
        refine WL.vS hS hE (runs_plain rfl) (Gives.p hE rfl) rfl ?_; clear hE a; intro a hE
        refine WL.nil ?_
        subst hK92
        exact ⟨false, Option.some.inj hq87, hE.pick _ ⟨rfl, trivial⟩, hS⟩
    · clear hE hS a w; rintro a w ⟨q91, rfl, hE, hS⟩
      refine W.ret ?_
      refine finG (fn := Try.f5) (rs := [.tmp 4]) (vs := [_]) hE rfl ⟨rfl, trivial⟩ ?_
      obtain rfl := Option.some.inj hr
      replace hS := hS.tail
      replace hS := hS.tail
      replace hS := hS.tail
      replace hS := hS.tail
      exact ⟨rfl, (hS.down (Sg.Le.trans hle63 hle79))⟩
  · replace hr := iteF hc73 hr
    refine W.skip ?_
    refine W.seq ?_
    refine W.region ?_
    refine WL.vS hS hE (runs_plain rfl) (Gives.loadBA hE 2 rfl rfl ty25) rfl ?_; clear hE a; intro a hE
    refine WL.vS hS hE (runs_plain rfl) (Gives.p hE rfl) rfl ?_; clear hE a; intro a hE
    obtain ⟨q101, hq102, hr⟩ := bindS hr
    refine WL.fn hE (Fishref2PlayOf_ok hS h0_0 h0_1 h1 hq102) (runs_plain rfl) bd23 rfl rfl ?_
    clear hE hS; rintro e w ⟨cs103, a105, c106, n107, cs108, s111, rfl, hle112, h104, h109, rfl, hS⟩; refine ⟨_, rfl, ?_⟩; clear a; intro a hE
    replace h0_0 := Sl.mono RI.mono hle112 h0_0
    replace h0_1 := Sl.mono (RL.mono RI.mono) hle112 h0_1
    replace h1 := Sl.mono RFleetMove.mono hle112 h1
    replace h66 := Sl.mono RI.mono hle112 h66
    replace h69 := Sl.mono (RL.mono RI.mono) hle112 h69
    replace h60 := Ev.mono RI.mono hle112 h60
    obtain ⟨a113, c114, a116, c117, rfl, h115, h118⟩ := h104
    refine WL.vS hS hE (runs_plain rfl) (Gives.p hE rfl) rfl ?_; clear hE a; intro a hE
    refine WL.vS hS hE (runs_plain rfl) (Gives.p hE rfl) rfl ?_; clear hE a; intro a hE
    refine WL.vS hS hE (runs_plain rfl) (Gives.p hE rfl) rfl ?_; clear hE a; intro a hE
    refine WL.vS hS hE (runs_plain rfl) (Gives.p hE rfl) rfl ?_; clear hE a; intro a hE
    refine WL.alloc hE hS (runs_plain rfl) zr25 rfl ?_; clear hE hS a w; intro b119 a w hE hS
    refine WL.storeI hE hS 0 rfl [.slice a113 q101.1.Room.length c114, .slice a116 q101.1.Tracks.length c117] (runs_plain rfl) rfl rfl rfl ty25 rfl rfl rfl rfl ?_; clear hE hS a w; intro a w hE hS
    refine WL.vS hS hE (runs_plain rfl) (Gives.p hE rfl) rfl ?_; clear hE a; intro a hE
    refine WL.vS hS hE (runs_plain rfl) (Gives.p hE rfl) rfl ?_; clear hE a; intro a hE
    refine WL.nil ?_
    refine W.seq ?_
    refine W.seq ?_
    obtain ⟨q121, hq120, hr⟩ := bindS hr
    refine W.cut (fun a w => ∃ (q124 : Bool), q124 = q121 ∧ Rep a 119 [(1, .slice a1 x1.length c1), (2, .pointer (some ⟨b51, 0, none⟩)), (85, .bool q124)] ∧ St w s111 (pt b119 (.cells #[.slice a113 q101.1.Room.length c114, .slice a116 q101.1.Tracks.length c117] 25 (0, 0)) :: vecC 3 1 a105 c106 q101.2.1.length cs108 :: pt b70 (.cells #[.slice a64 q52.1.Room.length c65, .slice a67 q52.1.Tracks.length c68] 25 (0, 0)) :: vecC 3 1 a56 c57 q52.2.1.length cs59 :: pt b51 (.cells #[.slice a0_0 x0.Room.length c0_0, .slice a0_1 x0.Tracks.length c0_1] 25 (0, 0)) :: R)) ?_ ?_
    · refine W.gen fun K125 hK125 => ?_
      refine W.region ?_
      obtain ⟨q126, hq127, hq120⟩ := bindS hq120
      refine WL.fn hE (Fishlaw2yards_ok hS  hq127) (runs_plain rfl) bd14 rfl rfl ?_
      clear hE hS; rintro e w ⟨rfl, hS⟩; refine ⟨_, rfl, ?_⟩; clear a; intro a hE
      refine WL.vS hS hE (runs_plain rfl) (Gives.p hE rfl) rfl ?_; clear hE a; intro a hE
      refine WL.vS hS hE (runs_plain rfl) (Gives.p hE rfl) rfl ?_; clear hE a; intro a hE
      rcases Bool.eq_false_or_eq_true !q126 with hg128 | hg128
      · replace hq120 := iteT hg128 hq120
        refine WL.no hE (runs_not hE rfl rfl rfl (by rw [hg128]; decide)) rfl ?_; clear hE a; intro a hE
        refine WL.no hE (runs_not hE rfl rfl rfl (by rw [hg128]; decide)) rfl ?_; clear hE a; intro a hE
        refine WL.no hE (runs_not hE rfl rfl rfl (by rw [hg128]; decide)) rfl ?_; clear hE a; intro a hE
        refine WL.vS hS hE (runs_plain rfl) (Gives.pickT hE rfl hg128 rfl) rfl ?_; clear hE a; intro a hE
        refine WL.vS hS hE (runs_plain rfl) (Gives.p hE rfl) rfl ?_; clear hE a; intro a hE
        refine WL.no hE (runs_not hE rfl rfl rfl (by decide)) rfl ?_; clear hE a; intro a hE
        refine WL.no hE (runs_not hE rfl rfl rfl (by decide)) rfl ?_; clear hE a; intro a hE
        refine WL.no hE (runs_not hE rfl rfl rfl (by decide)) rfl ?_; clear hE a; intro a hE
        refine WL.no hE (runs_not hE rfl rfl rfl (by decide)) rfl ?_; clear hE a; intro a hE
        refine WL.vS hS hE (runs_plain rfl) (Gives.pickT hE rfl rfl rfl) rfl ?_; clear hE a; intro a hE
        refine WL.vS hS hE (runs_plain rfl) (Gives.p hE rfl) rfl ?_; clear hE a; intro a hE
        refine WL.no hE (runs_not hE rfl rfl rfl (by decide)) rfl ?_; clear hE a; intro a hE
        refine WL.no hE (runs_not hE rfl rfl rfl (by decide)) rfl ?_; clear hE a; intro a hE
        refine WL.no hE (runs_not hE rfl rfl rfl (by decide)) rfl ?_; clear hE a; intro a hE
        refine WL.no hE (runs_not hE rfl rfl rfl (by decide)) rfl ?_; clear hE a; intro a hE
        refine WL.vS hS hE (runs_plain rfl) (Gives.pickT hE rfl rfl rfl) rfl ?_; clear hE a; intro a hE
        refine WL.nil ?_
        subst hK125
        exact ⟨true, Option.some.inj hq120, hE.pick _ ⟨rfl, rfl, rfl, trivial⟩, hS⟩
      · replace hq120 := iteF hg128 hq120
        refine WL.vS hS hE (runs_if hE rfl rfl rfl hg128) (Gives.p hE rfl) rfl ?_; clear hE a; intro a hE
        refine WL.vS hS hE (runs_if hE rfl rfl rfl hg128) (Gives.p hE rfl) rfl ?_; clear hE a; intro a hE
        refine WL.vS hS hE (runs_if hE rfl rfl rfl hg128) (Gives.p hE rfl) rfl ?_; clear hE a; intro a hE
        refine WL.vS hS hE (runs_plain rfl) (Gives.pickF hE rfl hg128 rfl) rfl ?_; clear hE a; intro a hE
        refine WL.vS hS hE (runs_plain rfl) (Gives.p hE rfl) rfl ?_; clear hE a; intro a hE
        rcases Bool.eq_false_or_eq_true (q52.2.2 != q101.2.2) with hg129 | hg129
        · replace hq120 := iteT hg129 hq120
          refine WL.no hE (runs_not hE rfl rfl rfl (by rw [hg129]; decide)) rfl ?_; clear hE a; intro a hE
          refine WL.no hE (runs_not hE rfl rfl rfl (by rw [hg129]; decide)) rfl ?_; clear hE a; intro a hE
          refine WL.no hE (runs_not hE rfl rfl rfl (by rw [hg129]; decide)) rfl ?_; clear hE a; intro a hE
          refine WL.no hE (runs_not hE rfl rfl rfl (by rw [hg129]; decide)) rfl ?_; clear hE a; intro a hE
          refine WL.vS hS hE (runs_plain rfl) (Gives.pickT hE rfl hg129 rfl) rfl ?_; clear hE a; intro a hE
          refine WL.vS hS hE (runs_plain rfl) (Gives.p hE rfl) rfl ?_; clear hE a; intro a hE
          refine WL.no hE (runs_not hE rfl rfl rfl (by decide)) rfl ?_; clear hE a; intro a hE
          refine WL.no hE (runs_not hE rfl rfl rfl (by decide)) rfl ?_; clear hE a; intro a hE
          refine WL.no hE (runs_not hE rfl rfl rfl (by decide)) rfl ?_; clear hE a; intro a hE
          refine WL.no hE (runs_not hE rfl rfl rfl (by decide)) rfl ?_; clear hE a; intro a hE
          refine WL.vS hS hE (runs_plain rfl) (Gives.pickT hE rfl rfl rfl) rfl ?_; clear hE a; intro a hE
          refine WL.nil ?_
          subst hK125
          exact ⟨true, Option.some.inj hq120, hE.pick _ ⟨rfl, rfl, rfl, trivial⟩, hS⟩
        · replace hq120 := iteF hg129 hq120
          refine WL.vS hS hE (runs_if hE rfl rfl rfl hg129) (Gives.p hE rfl) rfl ?_; clear hE a; intro a hE
          refine WL.vS hS hE (runs_if hE rfl rfl rfl hg129) (Gives.p hE rfl) rfl ?_; clear hE a; intro a hE
          obtain ⟨q130, hq131, hq120⟩ := bindS hq120
          have hF := hS.lendV RI.mono 3 rfl h60 rfl; clear hS; obtain ⟨t132, hle133, hS, hs134, bk135⟩ := hF
          have hF := hS.lendV RI.mono 1 rfl (Ev.mono RI.mono hle133 h109) rfl; clear hS; obtain ⟨t136, hle137, hS, hs138, bk139⟩ := hF
          refine WL.fn hE (SlicesEqualLint_ok hS (Sl.mono RI.mono hle137 hs134) hs138 hq131) (runs_if hE rfl rfl rfl hg129) bd24 rfl rfl ?_
          clear hE hS; rintro e w ⟨rfl, hS⟩; refine ⟨_, rfl, ?_⟩; clear a; intro a hE
          replace hS := bk139 _ _ hS
          replace hS := bk135 _ _ hS
          refine WL.vS hS hE (runs_if hE rfl rfl rfl hg129) (Gives.p hE rfl) rfl ?_; clear hE a; intro a hE
          refine WL.vS hS hE (runs_plain rfl) (Gives.pickF hE rfl hg129 rfl) rfl ?_; clear hE a; intro a hE
          refine WL.vS hS hE (runs_plain rfl) (Gives.p hE rfl) rfl ?_; clear hE a; intro a hE
          rcases Bool.eq_false_or_eq_true !q130 with hg140 | hg140
          · replace hq120 := iteT hg140 hq120
            refine WL.no hE (runs_not hE rfl rfl rfl (by rw [hg140]; decide)) rfl ?_; clear hE a; intro a hE
            refine WL.no hE (runs_not hE rfl rfl rfl (by rw [hg140]; decide)) rfl ?_; clear hE a; intro a hE
            refine WL.no hE (runs_not hE rfl rfl rfl (by rw [hg140]; decide)) rfl ?_; clear hE a; intro a hE
            refine WL.no hE (runs_not hE rfl rfl rfl (by rw [hg140]; decide)) rfl ?_; clear hE a; intro a hE
            refine WL.vS hS hE (runs_plain rfl) (Gives.pickT hE rfl hg140 rfl) rfl ?_; clear hE a; intro a hE
            refine WL.nil ?_
            replace hS := hS.front 4 rfl
            replace hS := hS.front 1 rfl
            replace hS := hS.front 4 rfl
            replace hS := hS.front 3 rfl
            replace hS := hS.front 4 rfl
            subst hK125
            exact ⟨true, Option.some.inj hq120, hE.pick _ ⟨rfl, rfl, rfl, trivial⟩, hS⟩
          · replace hq120 := iteF hg140 hq120
            refine WL.vS hS hE (runs_if hE rfl rfl rfl hg140) (Gives.loadBA hE 3 rfl rfl ty25) rfl ?_; clear hE a; intro a hE
            refine WL.vS hS hE (runs_if hE rfl rfl rfl hg140) (Gives.loadBA hE 2 rfl rfl ty25) rfl ?_; clear hE a; intro a hE
            obtain ⟨q141, hq142, hq120⟩ := bindS hq120
            refine WL.fn hE (Fishref2SameDepot_ok hS h66 h69 h115 h118 hq142) (runs_if hE rfl rfl rfl hg140) bd22 rfl rfl ?_
            clear hE hS; rintro e w ⟨rfl, hS⟩; refine ⟨_, rfl, ?_⟩; clear a; intro a hE
            refine WL.vS hS hE (runs_if hE rfl rfl rfl hg140) (Gives.p hE rfl) rfl ?_; clear hE a; intro a hE
            refine WL.vS hS hE (runs_plain rfl) (Gives.pickF hE rfl hg140 rfl) rfl ?_; clear hE a; intro a hE
            refine WL.nil ?_
            replace hS := hS.front 4 rfl
            replace hS := hS.front 1 rfl
            replace hS := hS.front 4 rfl
            replace hS := hS.front 3 rfl
            replace hS := hS.front 4 rfl
            subst hK125
            exact ⟨!q141, Option.some.inj hq120, hE.pick _ ⟨rfl, rfl, rfl, trivial⟩, hS⟩
    · clear hE hS a w; rintro a w ⟨q124, rfl, hE, hS⟩
      refine W.cond hE rfl (fun hc143 => ?_) (fun hc143 => ?_)
      · replace hr := iteT hc143 hr
        refine W.seq ?_
        refine W.region ?_
        refine WL.vS hS hE (runs_plain rfl) (Gives.p hE rfl) rfl ?_; clear hE a; intro a hE
        refine WL.nil ?_
        refine W.ret ?_
        refine finG (fn := Try.f5) (rs := [.tmp 4]) (vs := [_]) hE rfl ⟨rfl, trivial⟩ ?_
        obtain rfl := Option.some.inj hr
        replace hS := hS.tail
        replace hS := hS.tail
        replace hS := hS.tail
        replace hS := hS.tail
        replace hS := hS.tail
        exact ⟨rfl, (hS.down (Sg.Le.trans hle63 hle112))⟩
      · replace hr := iteF hc143 hr
        refine W.skip ?_
        refine W.seq ?_
        refine W.region ?_
        refine WL.vS hS hE (runs_plain rfl) (Gives.loadBA hE 4 rfl rfl ty25) rfl ?_; clear hE a; intro a hE
        refine WL.alloc hE hS (runs_plain rfl) zr25 rfl ?_; clear hE hS a w; intro b144 a w hE hS
        refine WL.storeI hE hS 0 rfl [.slice a0_0 x0.Room.length c0_0, .slice a0_1 x0.Tracks.length c0_1] (runs_plain rfl) rfl rfl rfl ty25 rfl rfl rfl rfl ?_; clear hE hS a w; intro a w hE hS
        refine WL.nil ?_
        refine W.seq ?_
        refine W.seq ?_
        refine W.region ?_
        refine WL.vS hS hE (runs_plain rfl) (Gives.p hE rfl) rfl ?_; clear hE a; intro a hE
        refine WL.vS hS hE (runs_plain rfl) (Gives.len hE rfl sl38) rfl ?_; clear hE a; intro a hE
        refine WL.vS hS hE (runs_plain rfl) (Gives.p hE rfl) rfl ?_; clear hE a; intro a hE
        refine WL.nil ?_
        obtain ⟨q146, hq145, hr⟩ := bindS hr
        refine W.cut (fun a w => ∃ (q156 : List Int), ∃ (q160 : List (List Int)), ∃ (a157 : Option Addr), ∃ (c158 : Nat), ∃ (a161 : Option Addr), ∃ (c162 : Nat), ∃ (s154 : Sg), s111.Le s154 ∧ (.next (q156, q160)) = q146 ∧ Sl 1 (RI .i64) s154 a157 c158 q156 ∧ Sl 1 (RL 1 (RI .i64)) s154 a161 c162 q160 ∧ Rep a 119 [] ∧ St w s154 (pt b144 (.cells #[.slice a157 q156.length c158, .slice a161 q160.length c162] 25 (0, 0)) :: pt b119 (.cells #[.slice a113 q101.1.Room.length c114, .slice a116 q101.1.Tracks.length c117] 25 (0, 0)) :: vecC 3 1 a105 c106 q101.2.1.length cs108 :: pt b70 (.cells #[.slice a64 q52.1.Room.length c65, .slice a67 q52.1.Tracks.length c68] 25 (0, 0)) :: vecC 3 1 a56 c57 q52.2.1.length cs59 :: pt b51 (.cells #[.slice a0_0 x0.Room.length c0_0, .slice a0_1 x0.Tracks.length c0_1] 25 (0, 0)) :: R)) ?_ ?_
        · refine W.block ?_
          refine W.loop (fun m a w => ∃ (rest149 : List FleetMove) (k147 : Nat), ∃ (q156 : List Int), ∃ (q160 : List (List Int)), ∃ (a157 : Option Addr), ∃ (c158 : Nat), ∃ (a161 : Option Addr), ∃ (c162 : Nat), ∃ (s154 : Sg), rest149.length = m ∧ x1.drop k147 = rest149 ∧ s111.Le s154 ∧ Fishlaw2FleetMoves.loop1 rest149 q156 q160 = some q146 ∧ Sl 1 (RI .i64) s154 a157 c158 q156 ∧ Sl 1 (RL 1 (RI .i64)) s154 a161 c162 q160 ∧ Rep a 119 [(14, .pointer (some ⟨b144, 0, none⟩)), (87, .slice a1 x1.length c1), (88, .int .i64 ((x1).length : Int)), (89, .int .i64 ((k147 : Nat) : Int))] ∧ St w s154 (pt b144 (.cells #[.slice a157 q156.length c158, .slice a161 q160.length c162] 25 (0, 0)) :: pt b119 (.cells #[.slice a113 q101.1.Room.length c114, .slice a116 q101.1.Tracks.length c117] 25 (0, 0)) :: vecC 3 1 a105 c106 q101.2.1.length cs108 :: pt b70 (.cells #[.slice a64 q52.1.Room.length c65, .slice a67 q52.1.Tracks.length c68] 25 (0, 0)) :: vecC 3 1 a56 c57 q52.2.1.length cs59 :: pt b51 (.cells #[.slice a0_0 x0.Room.length c0_0, .slice a0_1 x0.Tracks.length c0_1] 25 (0, 0)) :: R)) (m := x1.length) ⟨x1, 0, x0.Room, x0.Tracks, a0_0, c0_0, a0_1, c0_1, s111, rfl, rfl, (Sg.Le.refl _), hq145, h0_0, h0_1, hE.pick _ ⟨rfl, rfl, rfl, rfl, trivial⟩, hS⟩ ?_
          clear hE hS a w hq145; rintro m153 a w ⟨rest149, k147, q156, q160, a157, c158, a161, c162, s154, rfl, hd150, hle155, hq145, h159, h163, hE, hS⟩
          refine W.gen fun K164 hK164 => ?_
          replace h1 := Sl.mono RFleetMove.mono hle155 h1
          replace h0_0 := Sl.mono RI.mono hle155 h0_0
          replace h0_1 := Sl.mono (RL.mono RI.mono) hle155 h0_1
          replace h115 := Sl.mono RI.mono hle155 h115
          replace h118 := Sl.mono (RL.mono RI.mono) hle155 h118
          replace h109 := Ev.mono RI.mono hle155 h109
          replace h66 := Sl.mono RI.mono hle155 h66
          replace h69 := Sl.mono (RL.mono RI.mono) hle155 h69
          replace h60 := Ev.mono RI.mono hle155 h60
          rcases rest149 with _ | ⟨x148, rest149⟩
          · have hlt151 := drop_nil hd150
            refine W.seq ?_
            refine W.region ?_
            refine WL.vS hS hE (runs_plain rfl) (Gives.p hE rfl) rfl ?_; clear hE a; intro a hE
            refine WL.nil ?_
            refine W.seq ?_
            refine W.condF hE rfl (decide_eq_false (by omega)) ?_
            subst hK164
            refine W.exit rfl ?_
            exact ⟨q156, q160, a157, c158, a161, c162, s154, hle155, Option.some.inj hq145, h159, h163, hE.pick _ trivial, hS⟩
          · obtain ⟨hlt151, hx152, hd150⟩ := drop_cons hd150
            rw [Fishlaw2FleetMoves.loop1] at hq145
            refine W.seq ?_
            refine W.region ?_
            refine WL.vS hS hE (runs_plain rfl) (Gives.p hE rfl) rfl ?_; clear hE a; intro a hE
            refine WL.nil ?_
            refine W.seq ?_
            refine W.condT hE rfl (decide_eq_true (by omega)) ?_
            refine W.skip ?_
            refine W.seq ?_
            refine W.block ?_
            refine W.seq ?_
            refine W.region ?_
            obtain ⟨cs165, hl166, hR167, hat168⟩ := h1.at hx152
            subst hR167
            refine WL.vS hS hE (runs_plain rfl) (Gives.idx hE k147 rfl rfl sl38 rfl hlt151 (h1.aok hlt151)) rfl ?_; clear hE a; intro a hE
            refine WL.vS hS hE (runs_plain rfl) (Gives.loadA hE rfl (fun w h => hat168 w _ h) ty44) rfl ?_; clear hE a; intro a hE
            refine WL.alloc hE hS (runs_plain rfl) zr44 rfl ?_; clear hE hS a w; intro b169 a w hE hS
            refine WL.storeI hE hS 0 rfl (FleetMove.cells x148) (runs_plain rfl) rfl rfl rfl ty44 rfl rfl rfl rfl ?_; clear hE hS a w; intro a w hE hS
            refine WL.nil ?_
            refine W.seq ?_
            refine W.region ?_
            refine WL.vS hS hE (runs_plain rfl) (Gives.loadBA hE 1 rfl rfl ty25) rfl ?_; clear hE a; intro a hE
            refine WL.vS hS hE (runs_plain rfl) (Gives.loadBA hE 0 rfl rfl ty44) rfl ?_; clear hE a; intro a hE
            obtain ⟨q170, hq171, hq145⟩ := bindS hq145
            refine WL.fn hE (FleetDo_ok hS h159 h163 hq171) (runs_plain rfl) bd21 rfl rfl ?_
            clear hE hS; rintro e w ⟨cs172, s174, rfl, hle175, h173, hS⟩; refine ⟨_, rfl, ?_⟩; clear a; intro a hE
            replace h1 := Sl.mono RFleetMove.mono hle175 h1
            replace h159 := Sl.mono RI.mono hle175 h159
            replace h163 := Sl.mono (RL.mono RI.mono) hle175 h163
            replace h115 := Sl.mono RI.mono hle175 h115
            replace h118 := Sl.mono (RL.mono RI.mono) hle175 h118
            replace h109 := Ev.mono RI.mono hle175 h109
            replace h66 := Sl.mono RI.mono hle175 h66
            replace h69 := Sl.mono (RL.mono RI.mono) hle175 h69
            replace h60 := Ev.mono RI.mono hle175 h60
            replace h0_0 := Sl.mono RI.mono hle175 h0_0
            replace h0_1 := Sl.mono (RL.mono RI.mono) hle175 h0_1
            obtain ⟨a176, c177, a179, c180, rfl, h178, h181⟩ := h173
            refine WL.vS hS hE (runs_plain rfl) (Gives.p hE rfl) rfl ?_; clear hE a; intro a hE
            refine WL.vS hS hE (runs_plain rfl) (Gives.p hE rfl) rfl ?_; clear hE a; intro a hE
            refine WL.vS hS hE (runs_plain rfl) (Gives.p hE rfl) rfl ?_; clear hE a; intro a hE
            refine WL.alloc hE hS (runs_plain rfl) zr25 rfl ?_; clear hE hS a w; intro b182 a w hE hS
            refine WL.storeI hE hS 0 rfl [.slice a176 q170.1.Room.length c177, .slice a179 q170.1.Tracks.length c180] (runs_plain rfl) rfl rfl rfl ty25 rfl rfl rfl rfl ?_; clear hE hS a w; intro a w hE hS
            refine WL.vS hS hE (runs_plain rfl) (Gives.p hE rfl) rfl ?_; clear hE a; intro a hE
            refine WL.nil ?_
            refine W.seq ?_
            refine W.region ?_
            refine WL.vS hS hE (runs_plain rfl) (Gives.loadBA hE 2 rfl rfl ty25) rfl ?_; clear hE a; intro a hE
            refine WL.vS hS hE (runs_plain rfl) (Gives.loadBA hE 1 rfl rfl ty44) rfl ?_; clear hE a; intro a hE
            obtain ⟨q183, hq184, hq145⟩ := bindS hq145
            refine WL.fn hE (Fishref2Moved_ok hS h159 h163 hq184) (runs_plain rfl) bd25 rfl rfl ?_
            clear hE hS; rintro e w ⟨cs185, s187, rfl, hle188, h186, hS⟩; refine ⟨_, rfl, ?_⟩; clear a; intro a hE
            replace h1 := Sl.mono RFleetMove.mono hle188 h1
            replace h159 := Sl.mono RI.mono hle188 h159
            replace h163 := Sl.mono (RL.mono RI.mono) hle188 h163
            replace h178 := Sl.mono RI.mono hle188 h178
            replace h181 := Sl.mono (RL.mono RI.mono) hle188 h181
            replace h115 := Sl.mono RI.mono hle188 h115
            replace h118 := Sl.mono (RL.mono RI.mono) hle188 h118
            replace h109 := Ev.mono RI.mono hle188 h109
            replace h66 := Sl.mono RI.mono hle188 h66
            replace h69 := Sl.mono (RL.mono RI.mono) hle188 h69
            replace h60 := Ev.mono RI.mono hle188 h60
            replace h0_0 := Sl.mono RI.mono hle188 h0_0
            replace h0_1 := Sl.mono (RL.mono RI.mono) hle188 h0_1
            obtain ⟨a189, c190, a192, c193, rfl, h191, h194⟩ := h186
            refine WL.vS hS hE (runs_plain rfl) (Gives.p hE rfl) rfl ?_; clear hE a; intro a hE
            refine WL.vS hS hE (runs_plain rfl) (Gives.p hE rfl) rfl ?_; clear hE a; intro a hE
            refine WL.vS hS hE (runs_plain rfl) (Gives.p hE rfl) rfl ?_; clear hE a; intro a hE
            refine WL.vS hS hE (runs_plain rfl) (Gives.p hE rfl) rfl ?_; clear hE a; intro a hE
            refine WL.alloc hE hS (runs_plain rfl) zr25 rfl ?_; clear hE hS a w; intro b195 a w hE hS
            refine WL.storeI hE hS 0 rfl [.slice a189 q183.1.Room.length c190, .slice a192 q183.1.Tracks.length c193] (runs_plain rfl) rfl rfl rfl ty25 rfl rfl rfl rfl ?_; clear hE hS a w; intro a w hE hS
            refine WL.vS hS hE (runs_plain rfl) (Gives.p hE rfl) rfl ?_; clear hE a; intro a hE
            refine WL.vS hS hE (runs_plain rfl) (Gives.p hE rfl) rfl ?_; clear hE a; intro a hE
            refine WL.nil ?_
            refine W.seq ?_
            refine W.seq ?_
            obtain ⟨q197, hq196, hq145⟩ := bindS hq145
            refine W.cut (fun a w => ∃ (q200 : Bool), q200 = q197 ∧ Rep a 119 [(14, .pointer (some ⟨b144, 0, none⟩)), (19, .pointer (some ⟨b195, 0, none⟩)), (21, .int .i64 q183.2.2), (87, .slice a1 x1.length c1), (88, .int .i64 ((x1).length : Int)), (89, .int .i64 ((k147 : Nat) : Int)), (114, .bool q200)] ∧ St w s187 (pt b195 (.cells #[.slice a189 q183.1.Room.length c190, .slice a192 q183.1.Tracks.length c193] 25 (0, 0)) :: pt b182 (.cells #[.slice a176 q170.1.Room.length c177, .slice a179 q170.1.Tracks.length c180] 25 (0, 0)) :: pt b169 (.cells (FleetMove.cells x148).toArray 44 (0, 0)) :: pt b144 (.cells #[.slice a157 q156.length c158, .slice a161 q160.length c162] 25 (0, 0)) :: pt b119 (.cells #[.slice a113 q101.1.Room.length c114, .slice a116 q101.1.Tracks.length c117] 25 (0, 0)) :: vecC 3 1 a105 c106 q101.2.1.length cs108 :: pt b70 (.cells #[.slice a64 q52.1.Room.length c65, .slice a67 q52.1.Tracks.length c68] 25 (0, 0)) :: vecC 3 1 a56 c57 q52.2.1.length cs59 :: pt b51 (.cells #[.slice a0_0 x0.Room.length c0_0, .slice a0_1 x0.Tracks.length c0_1] 25 (0, 0)) :: R)) ?_ ?_
            · refine W.gen fun K201 hK201 => ?_
              refine W.region ?_
              refine WL.vS hS hE (runs_plain rfl) (Gives.p hE rfl) rfl ?_; clear hE a; intro a hE
              refine WL.vS hS hE (runs_plain rfl) (Gives.p hE rfl) rfl ?_; clear hE a; intro a hE
              refine WL.vS hS hE (runs_plain rfl) (Gives.p hE rfl) rfl ?_; clear hE a; intro a hE
              refine WL.vS hS hE (runs_plain rfl) (Gives.p hE rfl) rfl ?_; clear hE a; intro a hE
              rcases Bool.eq_false_or_eq_true (q170.2 != q183.2.2) with hg202 | hg202
              · replace hq196 := iteT hg202 hq196
                refine WL.no hE (runs_not hE rfl rfl rfl (by rw [hg202]; decide)) rfl ?_; clear hE a; intro a hE
                refine WL.no hE (runs_not hE rfl rfl rfl (by rw [hg202]; decide)) rfl ?_; clear hE a; intro a hE
                refine WL.no hE (runs_not hE rfl rfl rfl (by rw [hg202]; decide)) rfl ?_; clear hE a; intro a hE
                refine WL.no hE (runs_not hE rfl rfl rfl (by rw [hg202]; decide)) rfl ?_; clear hE a; intro a hE
                refine WL.vS hS hE (runs_plain rfl) (Gives.pickT hE rfl hg202 rfl) rfl ?_; clear hE a; intro a hE
                refine WL.nil ?_
                subst hK201
                exact ⟨true, Option.some.inj hq196, hE.pick _ ⟨rfl, rfl, rfl, rfl, rfl, rfl, rfl, trivial⟩, hS⟩
              · replace hq196 := iteF hg202 hq196
                refine WL.vS hS hE (runs_if hE rfl rfl rfl hg202) (Gives.loadBA hE 1 rfl rfl ty25) rfl ?_; clear hE a; intro a hE
                refine WL.vS hS hE (runs_if hE rfl rfl rfl hg202) (Gives.loadBA hE 0 rfl rfl ty25) rfl ?_; clear hE a; intro a hE
                obtain ⟨q203, hq204, hq196⟩ := bindS hq196
                refine WL.fn hE (Fishref2SameDepot_ok hS h178 h181 h191 h194 hq204) (runs_if hE rfl rfl rfl hg202) bd22 rfl rfl ?_
                clear hE hS; rintro e w ⟨rfl, hS⟩; refine ⟨_, rfl, ?_⟩; clear a; intro a hE
                refine WL.vS hS hE (runs_if hE rfl rfl rfl hg202) (Gives.p hE rfl) rfl ?_; clear hE a; intro a hE
                refine WL.vS hS hE (runs_plain rfl) (Gives.pickF hE rfl hg202 rfl) rfl ?_; clear hE a; intro a hE
                refine WL.nil ?_
                subst hK201
                exact ⟨!q203, Option.some.inj hq196, hE.pick _ ⟨rfl, rfl, rfl, rfl, rfl, rfl, rfl, trivial⟩, hS⟩
            · clear hE hS a w; rintro a w ⟨q200, rfl, hE, hS⟩
              refine W.cond hE rfl (fun hc205 => ?_) (fun hc205 => ?_)
              · replace hq145 := iteT hc205 hq145
                refine W.seq ?_
                refine W.region ?_
                refine WL.vS hS hE (runs_plain rfl) (Gives.p hE rfl) rfl ?_; clear hE a; intro a hE
                refine WL.nil ?_
                refine W.ret ?_
                subst hK164
                rw [← Option.some.inj hq145] at hr
                dsimp only at hr
                refine finG (fn := Try.f5) (rs := [.tmp 4]) (vs := [_]) hE rfl ⟨rfl, trivial⟩ ?_
                obtain rfl := Option.some.inj hr
                replace hS := hS.tail
                replace hS := hS.tail
                replace hS := hS.tail
                replace hS := hS.tail
                replace hS := hS.tail
                replace hS := hS.tail
                replace hS := hS.tail
                replace hS := hS.tail
                replace hS := hS.tail
                exact ⟨rfl, (hS.down (Sg.Le.trans (Sg.Le.trans (Sg.Le.trans (Sg.Le.trans hle63 hle112) hle155) hle175) hle188))⟩
              · replace hq145 := iteF hc205 hq145
                refine W.skip ?_
                refine W.seq ?_
                refine W.seq ?_
                refine W.region ?_
                refine WL.vS hS hE (runs_plain rfl) (Gives.p hE rfl) rfl ?_; clear hE a; intro a hE
                refine WL.vS hS hE (runs_plain rfl) (Gives.p hE rfl) rfl ?_; clear hE a; intro a hE
                refine WL.nil ?_
                refine W.cond hE rfl (fun hc206 => ?_) (fun hc206 => ?_)
                · replace hq145 := iteT hc206 hq145
                  subst hK164
                  refine W.exit rfl ?_
                  replace hS := hS.tail
                  replace hS := hS.tail
                  replace hS := hS.tail
                  exact ⟨q156, q160, a157, c158, a161, c162, s187, (Sg.Le.trans (Sg.Le.trans hle155 hle175) hle188), Option.some.inj hq145, h159, h163, hE.pick _ trivial, hS⟩
                · replace hq145 := iteF hc206 hq145
                  refine W.skip ?_
                  refine W.region ?_
                  refine WL.vS hS hE (runs_plain rfl) (Gives.loadBA hE 0 rfl rfl ty25) rfl ?_; clear hE a; intro a hE
                  refine WL.storeI hE hS 3 rfl [.slice a189 q183.1.Room.length c190, .slice a192 q183.1.Tracks.length c193] (runs_plain rfl) rfl rfl rfl ty25 rfl rfl rfl rfl ?_; clear hE hS a w; intro a w hE hS
                  refine WL.nil ?_
                  refine W.region ?_
                  refine WL.vS hS hE (runs_plain rfl) (Gives.inc hE rfl (by have := h1.small; omega)) rfl ?_; clear hE a; intro a hE
                  refine WL.vS hS hE (runs_plain rfl) (Gives.p hE rfl) rfl ?_; clear hE a; intro a hE
                  refine WL.nil ?_
                  replace hS := hS.tail
                  replace hS := hS.tail
                  replace hS := hS.tail
                  subst hK164
                  exact ⟨rest149.length, Nat.lt_succ_self _, rest149, k147 + 1, q183.1.Room, q183.1.Tracks, a189, c190, a192, c193, s187, rfl, hd150, (Sg.Le.trans (Sg.Le.trans hle155 hle175) hle188), hq145, h191, h194, hE.pick _ ⟨rfl, rfl, rfl, rfl, trivial⟩, hS⟩
        · clear hE hS a w; rintro a w ⟨q156, q160, a157, c158, a161, c162, s154, hle155, rfl, h159, h163, hE, hS⟩
          dsimp only at hr
          replace h1 := Sl.mono RFleetMove.mono hle155 h1
          replace h0_0 := Sl.mono RI.mono hle155 h0_0
          replace h0_1 := Sl.mono (RL.mono RI.mono) hle155 h0_1
          replace h115 := Sl.mono RI.mono hle155 h115
          replace h118 := Sl.mono (RL.mono RI.mono) hle155 h118
          replace h109 := Ev.mono RI.mono hle155 h109
          replace h66 := Sl.mono RI.mono hle155 h66
          replace h69 := Sl.mono (RL.mono RI.mono) hle155 h69
          replace h60 := Ev.mono RI.mono hle155 h60
          refine W.seq ?_
          refine W.region ?_
          refine WL.vS hS hE (runs_plain rfl) (Gives.p hE rfl) rfl ?_; clear hE a; intro a hE
          refine WL.nil ?_
          refine W.ret ?_
          refine finG (fn := Try.f5) (rs := [.tmp 4]) (vs := [_]) hE rfl ⟨rfl, trivial⟩ ?_
          obtain rfl := Option.some.inj hr
          replace hS := hS.tail
          replace hS := hS.tail
          replace hS := hS.tail
          replace hS := hS.tail
          replace hS := hS.tail
          replace hS := hS.tail
          exact ⟨rfl, (hS.down (Sg.Le.trans (Sg.Le.trans hle63 hle112) hle155))⟩
end Go.Proofs.Ytpoooohaoekbaaa
