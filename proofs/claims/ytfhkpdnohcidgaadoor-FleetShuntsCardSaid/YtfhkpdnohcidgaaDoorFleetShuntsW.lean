/- The walks of the functions that FleetShunts reaches: each call comes to what its mirror says. The conditions are those of each contract. -/
import Derived.Test.YtfhkpdnohcidgaaDoorProg
import Derived.Test.YtfhkpdnohcidgaaDoorFleetShuntsM
import Derived.Test.YtfhkpdnohcidgaaDoorFpMore
import Derived.Test.YtfhkpdnohcidgaaDoorFpMapG
import Derived.Test.YtfhkpdnohcidgaaDoorFleetShuntsW1
namespace Go.Proofs.YtfhkpdnohcidgaaDoor
open Go Go.Fp
set_option maxHeartbeats 8000000 in
theorem Fishref2ShuntFault_ok  {w : World} {s : Sg} {R : List HP} {x0 : FleetDepot} {a0_0 : Option Addr} {c0_0 : Nat} {a0_1 : Option Addr} {c0_1 : Nat} {x1 : List Int} {a1 : Option Addr} {c1 : Nat} (hS : St w s (R)) (h0_0 : Sl 1 (RI .i64) s a0_0 c0_0 x0.Room) (h0_1 : Sl 1 (RL 1 (RI .i64)) s a0_1 c0_1 x0.Tracks) (_h1 : Sl 1 (RI .i64) s a1 c1 x1) {r : Int} (hr : Fishref2ShuntFault x0 x1 = some r) :
    Calls Tryd.prog 5 [.agg [.slice a0_0 x0.Room.length c0_0, .slice a0_1 x0.Tracks.length c0_1].toArray, .slice a1 x1.length c1].toArray w (fun e w => e = .returned (.int .i64 r) ∧ St w s (R)) := by
  refine enter Tryd.func5 rfl rfl rfl fun a hE => ?_
  rw [Fishref2ShuntFault] at hr
  refine W.seq ?_
  refine W.region ?_
  refine WL.box hE hS (runs_plain rfl) rfl rfl rfl ?_; clear hE hS a w; intro b51 a w hE hS
  refine WL.vS hS hE (runs_plain rfl) (Gives.p hE rfl) rfl ?_; clear hE a; intro a hE
  refine WL.nil ?_
  refine W.seq ?_
  refine W.seq ?_
  refine W.region ?_
  refine WL.vS hS hE (runs_plain rfl) (Gives.loadBA hE 0 rfl rfl ty25) rfl ?_; clear hE a; intro a hE
  obtain ⟨q52, hq53, hr⟩ := bindS hr
  have hc_ := Fishref2DepotFault_ok hS h0_0 h0_1 hq53
  refine WL.fnq hE (hc_) (runs_plain rfl) bd17 rfl rfl rfl ?_
  clear hE hS hc_; rintro e w ⟨rfl, hS⟩; refine ⟨_, rfl, ?_⟩; clear a; intro a hE
  refine WL.vS hS hE (runs_plain rfl) (Gives.p hE rfl) rfl ?_; clear hE a; intro a hE
  refine WL.nil ?_
  refine W.seq ?_
  refine W.region ?_
  refine WL.vS hS hE (runs_plain rfl) (Gives.p hE rfl) rfl ?_; clear hE a; intro a hE
  refine WL.vS hS hE (runs_plain rfl) (Gives.p hE rfl) rfl ?_; clear hE a; intro a hE
  refine WL.nil ?_
  refine W.cond hE rfl (fun hc54 => ?_) (fun hc54 => ?_)
  · replace hr := iteT hc54 hr
    refine W.seq ?_
    refine W.region ?_
    refine WL.vS hS hE (runs_plain rfl) (Gives.p hE rfl) rfl ?_; clear hE a; intro a hE
    refine WL.vS hS hE (runs_plain rfl) (Gives.p hE rfl) rfl ?_; clear hE a; intro a hE
    refine WL.nil ?_
    refine W.ret ?_
    refine finG (fn := Tryd.f5) (rs := [.tmp 4]) (vs := [_]) hE rfl ⟨rfl, trivial⟩ ?_
    obtain rfl := Option.some.inj hr
    replace hS := hS.tail
    exact ⟨rfl, hS⟩
  · replace hr := iteF hc54 hr
    refine W.skip ?_
    refine W.seq ?_
    refine W.region ?_
    refine WL.vS hS hE (runs_plain rfl) (Gives.p hE rfl) rfl ?_; clear hE a; intro a hE
    refine WL.nil ?_
    refine W.seq ?_
    refine W.seq ?_
    refine W.region ?_
    refine WL.vS hS hE (runs_plain rfl) (Gives.fld hE rfl fl25_1) rfl ?_; clear hE a; intro a hE
    refine WL.vS hS hE (runs_plain rfl) (Gives.loadB hE 0 rfl rfl rfl ty23) rfl ?_; clear hE a; intro a hE
    refine WL.vS hS hE (runs_plain rfl) (Gives.len hE rfl sl23) rfl ?_; clear hE a; intro a hE
    refine WL.vS hS hE (runs_plain rfl) (Gives.p hE rfl) rfl ?_; clear hE a; intro a hE
    refine WL.nil ?_
    obtain ⟨q56, hq55, hr⟩ := bndS hr
    refine W.cut (fun a w => ∃ (q66 : Int), q66 = q56 ∧ Rep a 51 [(1, .slice a1 x1.length c1), (2, .pointer (some ⟨b51, 0, none⟩)), (6, .int .i64 q66)] ∧ St w s (pt b51 (.cells #[.slice a0_0 x0.Room.length c0_0, .slice a0_1 x0.Tracks.length c0_1] 25 (0, 0)) :: R)) ?_ ?_
    · refine W.block ?_
      refine W.loop (fun m a w => ∃ (rest59 : List (List Int)) (k57 : Nat), ∃ (q66 : Int), rest59.length = m ∧ x0.Tracks.drop k57 = rest59 ∧ Fishref2ShuntFault.loop1 rest59 q66 = q56 ∧ Rep a 51 [(1, .slice a1 x1.length c1), (2, .pointer (some ⟨b51, 0, none⟩)), (6, .int .i64 q66), (19, .slice a0_1 x0.Tracks.length c0_1), (20, .int .i64 ((x0.Tracks).length : Int)), (21, .int .i64 ((k57 : Nat) : Int))] ∧ St w s (pt b51 (.cells #[.slice a0_0 x0.Room.length c0_0, .slice a0_1 x0.Tracks.length c0_1] 25 (0, 0)) :: R)) (m := x0.Tracks.length) ⟨x0.Tracks, 0, 0, rfl, rfl, hq55, hE.pick _ ⟨rfl, rfl, rfl, rfl, rfl, rfl, trivial⟩, hS⟩ ?_
      clear hE hS a w hq55; rintro m63 a w ⟨rest59, k57, q66, rfl, hd60, hq55, hE, hS⟩
      refine W.gen fun K67 hK67 => ?_
      rcases rest59 with _ | ⟨x58, rest59⟩
      · have hlt61 := drop_nil hd60
        refine W.seq ?_
        refine W.region ?_
        refine WL.vS hS hE (runs_plain rfl) (Gives.p hE rfl) rfl ?_; clear hE a; intro a hE
        refine WL.nil ?_
        refine W.seq ?_
        refine W.condF hE rfl (decide_eq_false (by omega)) ?_
        subst hK67
        refine W.exit rfl ?_
        exact ⟨q66, hq55, hE.pick _ ⟨rfl, rfl, rfl, trivial⟩, hS⟩
      · obtain ⟨hlt61, hx62, hd60⟩ := drop_cons hd60
        rw [Fishref2ShuntFault.loop1] at hq55
        refine W.seq ?_
        refine W.region ?_
        refine WL.vS hS hE (runs_plain rfl) (Gives.p hE rfl) rfl ?_; clear hE a; intro a hE
        refine WL.nil ?_
        refine W.seq ?_
        refine W.condT hE rfl (decide_eq_true (by omega)) ?_
        refine W.skip ?_
        refine W.seq ?_
        refine W.block ?_
        refine W.seq ?_
        refine W.region ?_
        obtain ⟨cs68, hl69, hR70, hat71⟩ := h0_1.at hx62
        obtain ⟨a72, c73, rfl, h74⟩ := hR70
        refine WL.vS hS hE (runs_plain rfl) (Gives.idx hE k57 rfl rfl sl23 rfl hlt61 (h0_1.aok hlt61)) rfl ?_; clear hE a; intro a hE
        refine WL.vS hS hE (runs_plain rfl) (Gives.load1 hE rfl (fun w h => hat71 w _ h) ty22) rfl ?_; clear hE a; intro a hE
        refine WL.vS hS hE (runs_plain rfl) (Gives.p hE rfl) rfl ?_; clear hE a; intro a hE
        refine WL.nil ?_
        refine W.region ?_
        refine WL.vS hS hE (runs_plain rfl) (Gives.p hE rfl) rfl ?_; clear hE a; intro a hE
        refine WL.vS hS hE (runs_plain rfl) (Gives.p hE rfl) rfl ?_; clear hE a; intro a hE
        refine WL.vS hS hE (runs_plain rfl) (Gives.len hE rfl sl22) rfl ?_; clear hE a; intro a hE
        refine WL.vS hS hE (runs_plain rfl) (Gives.p hE rfl) rfl ?_; clear hE a; intro a hE
        refine WL.vS hS hE (runs_plain rfl) (Gives.p hE rfl) rfl ?_; clear hE a; intro a hE
        refine WL.nil ?_
        refine W.region ?_
        refine WL.vS hS hE (runs_plain rfl) (Gives.inc hE rfl (by have := h0_1.small; omega)) rfl ?_; clear hE a; intro a hE
        refine WL.vS hS hE (runs_plain rfl) (Gives.p hE rfl) rfl ?_; clear hE a; intro a hE
        refine WL.nil ?_
        subst hK67
        exact ⟨rest59.length, Nat.lt_succ_self _, rest59, k57 + 1, (w64 (q66 + ((x58).length : Int))), rfl, hd60, hq55, hE.pick _ ⟨rfl, rfl, rfl, rfl, rfl, rfl, trivial⟩, hS⟩
    · clear hE hS a w; rintro a w ⟨q66, rfl, hE, hS⟩
      refine W.seq ?_
      refine W.seq ?_
      refine W.region ?_
      refine WL.vS hS hE (runs_plain rfl) (Gives.p hE rfl) rfl ?_; clear hE a; intro a hE
      refine WL.vS hS hE (runs_plain rfl) (Gives.p hE rfl) rfl ?_; clear hE a; intro a hE
      refine WL.nil ?_
      refine W.cond hE rfl (fun hc75 => ?_) (fun hc75 => ?_)
      · replace hr := iteT hc75 hr
        refine W.seq ?_
        refine W.region ?_
        refine WL.vS hS hE (runs_plain rfl) (Gives.p hE rfl) rfl ?_; clear hE a; intro a hE
        refine WL.nil ?_
        refine W.ret ?_
        refine finG (fn := Tryd.f5) (rs := [.tmp 4]) (vs := [_]) hE rfl ⟨rfl, trivial⟩ ?_
        obtain rfl := Option.some.inj hr
        replace hS := hS.tail
        exact ⟨rfl, hS⟩
      · replace hr := iteF hc75 hr
        refine W.skip ?_
        refine W.seq ?_
        refine W.seq ?_
        refine W.region ?_
        refine WL.vS hS hE (runs_plain rfl) (Gives.fld hE rfl fl25_1) rfl ?_; clear hE a; intro a hE
        refine WL.vS hS hE (runs_plain rfl) (Gives.loadB hE 0 rfl rfl rfl ty23) rfl ?_; clear hE a; intro a hE
        refine WL.vS hS hE (runs_plain rfl) (Gives.len hE rfl sl23) rfl ?_; clear hE a; intro a hE
        refine WL.vS hS hE (runs_plain rfl) (Gives.p hE rfl) rfl ?_; clear hE a; intro a hE
        refine WL.nil ?_
        obtain ⟨q77, hq76, hr⟩ := bndS hr
        refine W.cut (fun a w => (.next ()) = q77 ∧ Rep a 51 [] ∧ St w s (pt b51 (.cells #[.slice a0_0 x0.Room.length c0_0, .slice a0_1 x0.Tracks.length c0_1] 25 (0, 0)) :: R)) ?_ ?_
        · refine W.block ?_
          refine W.loop (fun m a w => ∃ (rest80 : List (List Int)) (k78 : Nat), rest80.length = m ∧ x0.Tracks.drop k78 = rest80 ∧ Fishref2ShuntFault.loop2 x1 rest80 = q77 ∧ Rep a 51 [(1, .slice a1 x1.length c1), (33, .slice a0_1 x0.Tracks.length c0_1), (34, .int .i64 ((x0.Tracks).length : Int)), (35, .int .i64 ((k78 : Nat) : Int))] ∧ St w s (pt b51 (.cells #[.slice a0_0 x0.Room.length c0_0, .slice a0_1 x0.Tracks.length c0_1] 25 (0, 0)) :: R)) (m := x0.Tracks.length) ⟨x0.Tracks, 0, rfl, rfl, hq76, hE.pick _ ⟨rfl, rfl, rfl, rfl, trivial⟩, hS⟩ ?_
          clear hE hS a w hq76; rintro m84 a w ⟨rest80, k78, rfl, hd81, hq76, hE, hS⟩
          refine W.gen fun K87 hK87 => ?_
          rcases rest80 with _ | ⟨x79, rest80⟩
          · have hlt82 := drop_nil hd81
            refine W.seq ?_
            refine W.region ?_
            refine WL.vS hS hE (runs_plain rfl) (Gives.p hE rfl) rfl ?_; clear hE a; intro a hE
            refine WL.nil ?_
            refine W.seq ?_
            refine W.condF hE rfl (decide_eq_false (by omega)) ?_
            subst hK87
            refine W.exit rfl ?_
            exact ⟨hq76, hE.pick _ trivial, hS⟩
          · obtain ⟨hlt82, hx83, hd81⟩ := drop_cons hd81
            rw [Fishref2ShuntFault.loop2] at hq76
            refine W.seq ?_
            refine W.region ?_
            refine WL.vS hS hE (runs_plain rfl) (Gives.p hE rfl) rfl ?_; clear hE a; intro a hE
            refine WL.nil ?_
            refine W.seq ?_
            refine W.condT hE rfl (decide_eq_true (by omega)) ?_
            refine W.skip ?_
            refine W.seq ?_
            refine W.block ?_
            refine W.seq ?_
            refine W.region ?_
            obtain ⟨cs88, hl89, hR90, hat91⟩ := h0_1.at hx83
            obtain ⟨a92, c93, rfl, h94⟩ := hR90
            refine WL.vS hS hE (runs_plain rfl) (Gives.idx hE k78 rfl rfl sl23 rfl hlt82 (h0_1.aok hlt82)) rfl ?_; clear hE a; intro a hE
            refine WL.vS hS hE (runs_plain rfl) (Gives.load1 hE rfl (fun w h => hat91 w _ h) ty22) rfl ?_; clear hE a; intro a hE
            refine WL.vS hS hE (runs_plain rfl) (Gives.p hE rfl) rfl ?_; clear hE a; intro a hE
            refine WL.nil ?_
            refine W.seq ?_
            refine W.region ?_
            refine WL.vS hS hE (runs_plain rfl) (Gives.p hE rfl) rfl ?_; clear hE a; intro a hE
            refine WL.vS hS hE (runs_plain rfl) (Gives.len hE rfl sl22) rfl ?_; clear hE a; intro a hE
            refine WL.vS hS hE (runs_plain rfl) (Gives.p hE rfl) rfl ?_; clear hE a; intro a hE
            refine WL.nil ?_
            obtain ⟨q96, hq95, hq76⟩ := bndS hq76
            refine W.cut (fun a w => (.next ()) = q96 ∧ Rep a 51 [(1, .slice a1 x1.length c1), (33, .slice a0_1 x0.Tracks.length c0_1), (34, .int .i64 ((x0.Tracks).length : Int)), (35, .int .i64 ((k78 : Nat) : Int))] ∧ St w s (pt b51 (.cells #[.slice a0_0 x0.Room.length c0_0, .slice a0_1 x0.Tracks.length c0_1] 25 (0, 0)) :: R)) ?_ ?_
            · refine W.block ?_
              refine W.loop (fun m a w => ∃ (rest99 : List Int) (k97 : Nat), rest99.length = m ∧ x79.drop k97 = rest99 ∧ Fishref2ShuntFault.loop3 x1 rest99 = q96 ∧ Rep a 51 [(1, .slice a1 x1.length c1), (33, .slice a0_1 x0.Tracks.length c0_1), (34, .int .i64 ((x0.Tracks).length : Int)), (35, .int .i64 ((k78 : Nat) : Int)), (39, .slice a92 x79.length c93), (40, .int .i64 ((x79).length : Int)), (41, .int .i64 ((k97 : Nat) : Int))] ∧ St w s (pt b51 (.cells #[.slice a0_0 x0.Room.length c0_0, .slice a0_1 x0.Tracks.length c0_1] 25 (0, 0)) :: R)) (m := x79.length) ⟨x79, 0, rfl, rfl, hq95, hE.pick _ ⟨rfl, rfl, rfl, rfl, rfl, rfl, rfl, trivial⟩, hS⟩ ?_
              clear hE hS a w hq95; rintro m103 a w ⟨rest99, k97, rfl, hd100, hq95, hE, hS⟩
              refine W.gen fun K106 hK106 => ?_
              rcases rest99 with _ | ⟨x98, rest99⟩
              · have hlt101 := drop_nil hd100
                refine W.seq ?_
                refine W.region ?_
                refine WL.vS hS hE (runs_plain rfl) (Gives.p hE rfl) rfl ?_; clear hE a; intro a hE
                refine WL.nil ?_
                refine W.seq ?_
                refine W.condF hE rfl (decide_eq_false (by omega)) ?_
                subst hK106
                refine W.exit rfl ?_
                exact ⟨hq95, hE.pick _ ⟨rfl, rfl, rfl, rfl, trivial⟩, hS⟩
              · obtain ⟨hlt101, hx102, hd100⟩ := drop_cons hd100
                rw [Fishref2ShuntFault.loop3] at hq95
                refine W.seq ?_
                refine W.region ?_
                refine WL.vS hS hE (runs_plain rfl) (Gives.p hE rfl) rfl ?_; clear hE a; intro a hE
                refine WL.nil ?_
                refine W.seq ?_
                refine W.condT hE rfl (decide_eq_true (by omega)) ?_
                refine W.skip ?_
                refine W.seq ?_
                refine W.block ?_
                refine W.seq ?_
                refine W.region ?_
                obtain ⟨cs107, hl108, hR109, hat110⟩ := h94.at hx102
                subst hR109
                refine WL.vS hS hE (runs_plain rfl) (Gives.idx hE k97 rfl rfl sl22 rfl hlt101 (h94.aok hlt101)) rfl ?_; clear hE a; intro a hE
                refine WL.vS hS hE (runs_plain rfl) (Gives.load1 hE rfl (fun w h => hat110 w _ h) ty3) rfl ?_; clear hE a; intro a hE
                refine WL.vS hS hE (runs_plain rfl) (Gives.p hE rfl) rfl ?_; clear hE a; intro a hE
                refine WL.nil ?_
                refine W.seq ?_
                refine W.region ?_
                refine WL.vS hS hE (runs_plain rfl) (Gives.p hE rfl) rfl ?_; clear hE a; intro a hE
                refine WL.vS hS hE (runs_plain rfl) (Gives.p hE rfl) rfl ?_; clear hE a; intro a hE
                refine WL.vS hS hE (runs_plain rfl) (Gives.len hE rfl sl22) rfl ?_; clear hE a; intro a hE
                refine WL.vS hS hE (runs_plain rfl) (Gives.p hE rfl) rfl ?_; clear hE a; intro a hE
                refine WL.nil ?_
                refine W.cond hE rfl (fun hc111 => ?_) (fun hc111 => ?_)
                · replace hq95 := iteT hc111 hq95
                  refine W.seq ?_
                  refine W.region ?_
                  refine WL.vS hS hE (runs_plain rfl) (Gives.p hE rfl) rfl ?_; clear hE a; intro a hE
                  refine WL.nil ?_
                  refine W.ret ?_
                  subst hK106
                  subst hK87
                  rw [← hq95] at hq76
                  dsimp only at hq76
                  rw [← hq76] at hr
                  dsimp only at hr
                  refine finG (fn := Tryd.f5) (rs := [.tmp 4]) (vs := [_]) hE rfl ⟨rfl, trivial⟩ ?_
                  obtain rfl := Option.some.inj hr
                  replace hS := hS.tail
                  exact ⟨rfl, hS⟩
                · replace hq95 := iteF hc111 hq95
                  refine W.skip ?_
                  refine W.region ?_
                  refine WL.vS hS hE (runs_plain rfl) (Gives.inc hE rfl (by have := h94.small; omega)) rfl ?_; clear hE a; intro a hE
                  refine WL.vS hS hE (runs_plain rfl) (Gives.p hE rfl) rfl ?_; clear hE a; intro a hE
                  refine WL.nil ?_
                  subst hK106
                  exact ⟨rest99.length, Nat.lt_succ_self _, rest99, k97 + 1, rfl, hd100, hq95, hE.pick _ ⟨rfl, rfl, rfl, rfl, rfl, rfl, rfl, trivial⟩, hS⟩
            · clear hE hS a w; rintro a w ⟨rfl, hE, hS⟩
              dsimp only at hq76
              refine W.region ?_
              refine WL.vS hS hE (runs_plain rfl) (Gives.inc hE rfl (by have := h0_1.small; omega)) rfl ?_; clear hE a; intro a hE
              refine WL.vS hS hE (runs_plain rfl) (Gives.p hE rfl) rfl ?_; clear hE a; intro a hE
              refine WL.nil ?_
              subst hK87
              exact ⟨rest80.length, Nat.lt_succ_self _, rest80, k78 + 1, rfl, hd81, hq76, hE.pick _ ⟨rfl, rfl, rfl, rfl, trivial⟩, hS⟩
        · clear hE hS a w; rintro a w ⟨rfl, hE, hS⟩
          dsimp only at hr
          refine W.seq ?_
          refine W.region ?_
          refine WL.vS hS hE (runs_plain rfl) (Gives.p hE rfl) rfl ?_; clear hE a; intro a hE
          refine WL.nil ?_
          refine W.ret ?_
          refine finG (fn := Tryd.f5) (rs := [.tmp 4]) (vs := [_]) hE rfl ⟨rfl, trivial⟩ ?_
          obtain rfl := Option.some.inj hr
          replace hS := hS.tail
          exact ⟨rfl, hS⟩
set_option maxHeartbeats 8000000 in
theorem FleetBehind_ok  {w : World} {s : Sg} {R : List HP} {x0 : FleetDepot} {a0_0 : Option Addr} {c0_0 : Nat} {a0_1 : Option Addr} {c0_1 : Nat} {x1 : Int} (hS : St w s (R)) (h0_0 : Sl 1 (RI .i64) s a0_0 c0_0 x0.Room) (h0_1 : Sl 1 (RL 1 (RI .i64)) s a0_1 c0_1 x0.Tracks) {r : Int × Int} (hr : FleetBehind x0 x1 = some r) :
    Calls Tryd.prog 18 [.agg [.slice a0_0 x0.Room.length c0_0, .slice a0_1 x0.Tracks.length c0_1].toArray, .int .i64 x1].toArray w (fun e w => e = .returned (.tuple #[.int .i64 r.1, .int .i64 r.2]) ∧ St w s (R)) := by
  refine enter Tryd.func18 rfl rfl rfl fun a hE => ?_
  rw [FleetBehind] at hr
  refine W.seq ?_
  refine W.region ?_
  refine WL.box hE hS (runs_plain rfl) rfl rfl rfl ?_; clear hE hS a w; intro b51 a w hE hS
  refine WL.vS hS hE (runs_plain rfl) (Gives.p hE rfl) rfl ?_; clear hE a; intro a hE
  refine WL.vS hS hE (runs_plain rfl) (Gives.p hE rfl) rfl ?_; clear hE a; intro a hE
  refine WL.nil ?_
  refine W.seq ?_
  refine W.seq ?_
  refine W.region ?_
  refine WL.vS hS hE (runs_plain rfl) (Gives.loadBA hE 0 rfl rfl ty25) rfl ?_; clear hE a; intro a hE
  obtain ⟨q52, hq53, hr⟩ := bindS hr
  have hc_ := FleetCheckDepot_ok hS h0_0 h0_1 hq53
  refine WL.fnq hE (hc_) (runs_plain rfl) bd9 rfl rfl rfl ?_
  clear hE hS hc_; rintro e w ⟨rfl, hS⟩; refine ⟨_, rfl, ?_⟩; clear a; intro a hE
  refine WL.vS hS hE (runs_plain rfl) (Gives.p hE rfl) rfl ?_; clear hE a; intro a hE
  refine WL.nil ?_
  refine W.seq ?_
  refine W.region ?_
  refine WL.vS hS hE (runs_plain rfl) (Gives.p hE rfl) rfl ?_; clear hE a; intro a hE
  refine WL.vS hS hE (runs_plain rfl) (Gives.p hE rfl) rfl ?_; clear hE a; intro a hE
  refine WL.nil ?_
  refine W.cond hE rfl (fun hc54 => ?_) (fun hc54 => ?_)
  · replace hr := iteT hc54 hr
    refine W.seq ?_
    refine W.region ?_
    refine WL.vS hS hE (runs_plain rfl) (Gives.p hE rfl) rfl ?_; clear hE a; intro a hE
    refine WL.vS hS hE (runs_plain rfl) (Gives.p hE rfl) rfl ?_; clear hE a; intro a hE
    refine WL.vS hS hE (runs_plain rfl) (Gives.p hE rfl) rfl ?_; clear hE a; intro a hE
    refine WL.nil ?_
    refine W.ret ?_
    refine finG (fn := Tryd.f18) (rs := [.tmp 4, .tmp 5]) (vs := [_, _]) hE rfl ⟨rfl, rfl, trivial⟩ ?_
    obtain rfl := Option.some.inj hr
    replace hS := hS.tail
    exact ⟨rfl, hS⟩
  · replace hr := iteF hc54 hr
    refine W.skip ?_
    refine W.seq ?_
    refine W.seq ?_
    refine W.region ?_
    refine WL.vS hS hE (runs_plain rfl) (Gives.fld hE rfl fl25_1) rfl ?_; clear hE a; intro a hE
    refine WL.vS hS hE (runs_plain rfl) (Gives.loadB hE 0 rfl rfl rfl ty23) rfl ?_; clear hE a; intro a hE
    refine WL.vS hS hE (runs_plain rfl) (Gives.len hE rfl sl23) rfl ?_; clear hE a; intro a hE
    refine WL.vS hS hE (runs_plain rfl) (Gives.p hE rfl) rfl ?_; clear hE a; intro a hE
    refine WL.nil ?_
    obtain ⟨q56, hq55, hr⟩ := bndS hr
    refine W.cut (fun a w => (.next ()) = q56 ∧ Rep a 33 [] ∧ St w s (pt b51 (.cells #[.slice a0_0 x0.Room.length c0_0, .slice a0_1 x0.Tracks.length c0_1] 25 (0, 0)) :: R)) ?_ ?_
    · refine W.block ?_
      refine W.loop (fun m a w => ∃ (rest59 : List (List Int)) (k57 : Nat), rest59.length = m ∧ x0.Tracks.drop k57 = rest59 ∧ FleetBehind.loop1 x1 rest59 = q56 ∧ Rep a 33 [(1, .int .i64 x1), (16, .slice a0_1 x0.Tracks.length c0_1), (17, .int .i64 ((x0.Tracks).length : Int)), (18, .int .i64 ((k57 : Nat) : Int))] ∧ St w s (pt b51 (.cells #[.slice a0_0 x0.Room.length c0_0, .slice a0_1 x0.Tracks.length c0_1] 25 (0, 0)) :: R)) (m := x0.Tracks.length) ⟨x0.Tracks, 0, rfl, rfl, hq55, hE.pick _ ⟨rfl, rfl, rfl, rfl, trivial⟩, hS⟩ ?_
      clear hE hS a w hq55; rintro m63 a w ⟨rest59, k57, rfl, hd60, hq55, hE, hS⟩
      refine W.gen fun K66 hK66 => ?_
      rcases rest59 with _ | ⟨x58, rest59⟩
      · have hlt61 := drop_nil hd60
        refine W.seq ?_
        refine W.region ?_
        refine WL.vS hS hE (runs_plain rfl) (Gives.p hE rfl) rfl ?_; clear hE a; intro a hE
        refine WL.nil ?_
        refine W.seq ?_
        refine W.condF hE rfl (decide_eq_false (by omega)) ?_
        subst hK66
        refine W.exit rfl ?_
        exact ⟨hq55, hE.pick _ trivial, hS⟩
      · obtain ⟨hlt61, hx62, hd60⟩ := drop_cons hd60
        rw [FleetBehind.loop1] at hq55
        refine W.seq ?_
        refine W.region ?_
        refine WL.vS hS hE (runs_plain rfl) (Gives.p hE rfl) rfl ?_; clear hE a; intro a hE
        refine WL.nil ?_
        refine W.seq ?_
        refine W.condT hE rfl (decide_eq_true (by omega)) ?_
        refine W.skip ?_
        refine W.seq ?_
        refine W.block ?_
        refine W.seq ?_
        refine W.region ?_
        obtain ⟨cs67, hl68, hR69, hat70⟩ := h0_1.at hx62
        obtain ⟨a71, c72, rfl, h73⟩ := hR69
        refine WL.vS hS hE (runs_plain rfl) (Gives.idx hE k57 rfl rfl sl23 rfl hlt61 (h0_1.aok hlt61)) rfl ?_; clear hE a; intro a hE
        refine WL.vS hS hE (runs_plain rfl) (Gives.load1 hE rfl (fun w h => hat70 w _ h) ty22) rfl ?_; clear hE a; intro a hE
        refine WL.vS hS hE (runs_plain rfl) (Gives.p hE rfl) rfl ?_; clear hE a; intro a hE
        refine WL.nil ?_
        refine W.seq ?_
        refine W.region ?_
        refine WL.vS hS hE (runs_plain rfl) (Gives.p hE rfl) rfl ?_; clear hE a; intro a hE
        refine WL.vS hS hE (runs_plain rfl) (Gives.p hE rfl) rfl ?_; clear hE a; intro a hE
        refine WL.fnq hE (SlicesIndexLint_ok hS h73 rfl (r := SlicesIndexLint x58 x1)) (runs_plain rfl) bd27 rfl rfl rfl ?_
        clear hE hS; rintro e w ⟨rfl, hS⟩; refine ⟨_, rfl, ?_⟩; clear a; intro a hE
        refine WL.vS hS hE (runs_plain rfl) (Gives.p hE rfl) rfl ?_; clear hE a; intro a hE
        refine WL.nil ?_
        refine W.seq ?_
        refine W.region ?_
        refine WL.vS hS hE (runs_plain rfl) (Gives.p hE rfl) rfl ?_; clear hE a; intro a hE
        refine WL.vS hS hE (runs_plain rfl) (Gives.p hE rfl) rfl ?_; clear hE a; intro a hE
        refine WL.nil ?_
        refine W.cond hE rfl (fun hc74 => ?_) (fun hc74 => ?_)
        · replace hq55 := iteT hc74 hq55
          refine W.seq ?_
          refine W.region ?_
          refine WL.vS hS hE (runs_plain rfl) (Gives.p hE rfl) rfl ?_; clear hE a; intro a hE
          refine WL.vS hS hE (runs_plain rfl) (Gives.len hE rfl sl22) rfl ?_; clear hE a; intro a hE
          refine WL.vS hS hE (runs_plain rfl) (Gives.p hE rfl) rfl ?_; clear hE a; intro a hE
          refine WL.vS hS hE (runs_plain rfl) (Gives.p hE rfl) rfl ?_; clear hE a; intro a hE
          refine WL.vS hS hE (runs_plain rfl) (Gives.p hE rfl) rfl ?_; clear hE a; intro a hE
          refine WL.vS hS hE (runs_plain rfl) (Gives.p hE rfl) rfl ?_; clear hE a; intro a hE
          refine WL.vS hS hE (runs_plain rfl) (Gives.p hE rfl) rfl ?_; clear hE a; intro a hE
          refine WL.nil ?_
          refine W.ret ?_
          subst hK66
          rw [← hq55] at hr
          dsimp only at hr
          refine finG (fn := Tryd.f18) (rs := [.tmp 4, .tmp 5]) (vs := [_, _]) hE rfl ⟨rfl, rfl, trivial⟩ ?_
          obtain rfl := Option.some.inj hr
          replace hS := hS.tail
          exact ⟨rfl, hS⟩
        · replace hq55 := iteF hc74 hq55
          refine W.skip ?_
          refine W.region ?_
          refine WL.vS hS hE (runs_plain rfl) (Gives.inc hE rfl (by have := h0_1.small; omega)) rfl ?_; clear hE a; intro a hE
          refine WL.vS hS hE (runs_plain rfl) (Gives.p hE rfl) rfl ?_; clear hE a; intro a hE
          refine WL.nil ?_
          subst hK66
          exact ⟨rest59.length, Nat.lt_succ_self _, rest59, k57 + 1, rfl, hd60, hq55, hE.pick _ ⟨rfl, rfl, rfl, rfl, trivial⟩, hS⟩
    · clear hE hS a w; rintro a w ⟨rfl, hE, hS⟩
      dsimp only at hr
      refine W.seq ?_
      refine W.region ?_
      refine WL.vS hS hE (runs_plain rfl) (Gives.p hE rfl) rfl ?_; clear hE a; intro a hE
      refine WL.vS hS hE (runs_plain rfl) (Gives.p hE rfl) rfl ?_; clear hE a; intro a hE
      refine WL.nil ?_
      refine W.ret ?_
      refine finG (fn := Tryd.f18) (rs := [.tmp 4, .tmp 5]) (vs := [_, _]) hE rfl ⟨rfl, rfl, trivial⟩ ?_
      obtain rfl := Option.some.inj hr
      replace hS := hS.tail
      exact ⟨rfl, hS⟩
set_option maxHeartbeats 8000000 in
theorem Fishlaw2yards_ok  {w : World} {s : Sg} {R : List HP}  (hS : St w s (R))  {r : Bool} (hr : Fishlaw2yards = some r) :
    Calls Tryd.prog 6 [].toArray w (fun e w => e = .returned (.bool r) ∧ St w s (R)) := by
  refine enter Tryd.func6 rfl rfl rfl fun a hE => ?_
  rw [Fishlaw2yards] at hr
  refine W.seq ?_
  refine W.region ?_
  refine WL.vS hS hE (runs_plain rfl) (Gives.p hE rfl) rfl ?_; clear hE a; intro a hE
  refine WL.nil ?_
  refine W.seq ?_
  refine W.region ?_
  refine WL.lit hE hS (e := 3) (es := 1) (vs := [(0, .int .i64 3), (1, .int .i64 1)]) (cs := [.int .i64 3, .int .i64 1]) (runs_plain rfl) rfl (by kernel_rfl) rfl ?_; clear hE hS a w; intro b51 a w hE hS
  replace hS := hS.ptVec (es := 1) (m := 2) rfl (by decide)
  have h53 : Ev 1 (RI .i64) s [.int .i64 3, .int .i64 1] [3, 1] := (Ev.cons (c1 := [.int .i64 3]) rfl rfl (Ev.cons (c1 := [.int .i64 1]) rfl rfl (Ev.nil)))
  have hF := hS.fixD RI.mono 0 rfl h53 (rfl); clear hS; obtain ⟨s54, hle55, hS, h56⟩ := hF
  refine WL.lit hE hS (e := 3) (es := 1) (vs := [(0, .int .i64 0), (1, .int .i64 1)]) (cs := [.int .i64 0, .int .i64 1]) (runs_plain rfl) rfl (by kernel_rfl) rfl ?_; clear hE hS a w; intro b57 a w hE hS
  replace hS := hS.ptVec (es := 1) (m := 2) rfl (by decide)
  have h59 : Ev 1 (RI .i64) s54 [.int .i64 0, .int .i64 1] [0, 1] := (Ev.cons (c1 := [.int .i64 0]) rfl rfl (Ev.cons (c1 := [.int .i64 1]) rfl rfl (Ev.nil)))
  have hF := hS.fixD RI.mono 0 rfl h59 (rfl); clear hS; obtain ⟨s60, hle61, hS, h62⟩ := hF
  replace h56 := Sl.mono RI.mono hle61 h56
  refine WL.lit hE hS (e := 3) (es := 1) (vs := []) (cs := []) (runs_plain rfl) rfl (by kernel_rfl) rfl ?_; clear hE hS a w; intro b63 a w hE hS
  replace hS := hS.ptVec (es := 1) (m := 0) rfl (by decide)
  have h65 : Ev 1 (RI .i64) s60 [] [] := (Ev.nil)
  have hF := hS.fixD RI.mono 0 rfl h65 (rfl); clear hS; obtain ⟨s66, hle67, hS, h68⟩ := hF
  replace h56 := Sl.mono RI.mono hle67 h56
  replace h62 := Sl.mono RI.mono hle67 h62
  refine WL.lit hE hS (e := 22) (es := 1) (vs := [(0, .slice (some ⟨b57, 0, none⟩) 2 2), (1, .slice (some ⟨b63, 0, none⟩) 0 0)]) (cs := [.slice (some ⟨b57, 0, none⟩) 2 2, .slice (some ⟨b63, 0, none⟩) 0 0]) (runs_plain rfl) rfl (by kernel_rfl) rfl ?_; clear hE hS a w; intro b69 a w hE hS
  replace hS := hS.ptVec (es := 1) (m := 2) rfl (by decide)
  have h71 : Ev 1 (RL 1 (RI .i64)) s66 [.slice (some ⟨b57, 0, none⟩) 2 2, .slice (some ⟨b63, 0, none⟩) 0 0] [[0, 1], []] := (Ev.cons (c1 := [.slice (some ⟨b57, 0, none⟩) 2 2]) ⟨_, _, rfl, h62⟩ rfl (Ev.cons (c1 := [.slice (some ⟨b63, 0, none⟩) 0 0]) ⟨_, _, rfl, h68⟩ rfl (Ev.nil)))
  have hF := hS.fixD (RL.mono RI.mono) 0 rfl h71 (rfl); clear hS; obtain ⟨s72, hle73, hS, h74⟩ := hF
  replace h56 := Sl.mono RI.mono hle73 h56
  replace h62 := Sl.mono RI.mono hle73 h62
  replace h68 := Sl.mono RI.mono hle73 h68
  refine WL.vS hS hE (runs_plain rfl) (Gives.build hE (vs := [(0, .slice (some ⟨b51, 0, none⟩) 2 2), (1, .slice (some ⟨b69, 0, none⟩) 2 2)]) [.slice (some ⟨b51, 0, none⟩) 2 2, .slice (some ⟨b69, 0, none⟩) 2 2] rfl (by kernel_rfl)) rfl ?_; clear hE a; intro a hE
  refine WL.alloc hE hS (runs_plain rfl) zr25 rfl ?_; clear hE hS a w; intro b75 a w hE hS
  refine WL.storeI hE hS 0 rfl [.slice (some ⟨b51, 0, none⟩) 2 2, .slice (some ⟨b69, 0, none⟩) 2 2] (runs_plain rfl) rfl rfl rfl ty25 rfl rfl rfl rfl ?_; clear hE hS a w; intro a w hE hS
  refine WL.nil ?_
  refine W.seq ?_
  refine W.region ?_
  refine WL.vS hS hE (runs_plain rfl) (Gives.loadBA hE 0 rfl rfl ty25) rfl ?_; clear hE a; intro a hE
  obtain ⟨q76, hq77, hr⟩ := bindS hr
  have hc_ := FleetBehind_ok hS h56 h74 hq77
  refine WL.fnq hE (hc_) (runs_plain rfl) bd18 rfl rfl rfl ?_
  clear hE hS hc_; rintro e w ⟨rfl, hS⟩; refine ⟨_, rfl, ?_⟩; clear a; intro a hE
  refine WL.vS hS hE (runs_plain rfl) (Gives.p hE rfl) rfl ?_; clear hE a; intro a hE
  refine WL.vS hS hE (runs_plain rfl) (Gives.p hE rfl) rfl ?_; clear hE a; intro a hE
  refine WL.vS hS hE (runs_plain rfl) (Gives.p hE rfl) rfl ?_; clear hE a; intro a hE
  refine WL.vS hS hE (runs_plain rfl) (Gives.p hE rfl) rfl ?_; clear hE a; intro a hE
  refine WL.vS hS hE (runs_plain rfl) (Gives.p hE rfl) rfl ?_; clear hE a; intro a hE
  refine WL.nil ?_
  refine W.seq ?_
  obtain ⟨q79, hq78, hr⟩ := bndS hr
  refine W.cut (fun a w => ∃ (q82 : Bool), q82 = q79 ∧ Rep a 20 [(0, .bool q82)] ∧ St w s72 (pt b75 (.cells #[.slice (some ⟨b51, 0, none⟩) 2 2, .slice (some ⟨b69, 0, none⟩) 2 2] 25 (0, 0)) :: R)) ?_ ?_
  · refine W.gen fun K83 hK83 => ?_
    refine W.region ?_
    refine WL.vS hS hE (runs_plain rfl) (Gives.p hE rfl) rfl ?_; clear hE a; intro a hE
    refine WL.vS hS hE (runs_plain rfl) (Gives.p hE rfl) rfl ?_; clear hE a; intro a hE
    refine WL.vS hS hE (runs_plain rfl) (Gives.p hE rfl) rfl ?_; clear hE a; intro a hE
    rcases Bool.eq_false_or_eq_true (q76.2 == 0) with hg84 | hg84
    · replace hq78 := iteT hg84 hq78
      refine WL.vS hS hE (runs_if hE rfl rfl rfl hg84) (Gives.p hE rfl) rfl ?_; clear hE a; intro a hE
      refine WL.vS hS hE (runs_if hE rfl rfl rfl hg84) (Gives.p hE rfl) rfl ?_; clear hE a; intro a hE
      refine WL.vS hS hE (runs_plain rfl) (Gives.pickT hE rfl hg84 rfl) rfl ?_; clear hE a; intro a hE
      refine WL.vS hS hE (runs_plain rfl) (Gives.p hE rfl) rfl ?_; clear hE a; intro a hE
      refine WL.nil ?_
      subst hK83
      exact ⟨(q76.1 == 1), hq78, hE.pick _ ⟨rfl, trivial⟩, hS⟩
    · replace hq78 := iteF hg84 hq78
      refine WL.no hE (runs_not hE rfl rfl rfl (by rw [hg84]; decide)) rfl ?_; clear hE a; intro a hE
      refine WL.no hE (runs_not hE rfl rfl rfl (by rw [hg84]; decide)) rfl ?_; clear hE a; intro a hE
      refine WL.vS hS hE (runs_plain rfl) (Gives.pickF hE rfl hg84 rfl) rfl ?_; clear hE a; intro a hE
      refine WL.vS hS hE (runs_plain rfl) (Gives.p hE rfl) rfl ?_; clear hE a; intro a hE
      refine WL.nil ?_
      subst hK83
      exact ⟨false, hq78, hE.pick _ ⟨rfl, trivial⟩, hS⟩
  · clear hE hS a w; rintro a w ⟨q82, rfl, hE, hS⟩
    refine W.ret ?_
    refine finG (fn := Tryd.f6) (rs := [.tmp 0]) (vs := [_]) hE rfl ⟨rfl, trivial⟩ ?_
    obtain rfl := Option.some.inj hr
    replace hS := hS.tail
    exact ⟨rfl, (hS.down (Sg.Le.trans (Sg.Le.trans (Sg.Le.trans hle55 hle61) hle67) hle73))⟩
set_option maxHeartbeats 8000000 in
theorem InternalStrconvsmall_ok  {w : World} {s : Sg} {R : List HP} {x0 : Int} (hS : St w s (R))  {r : ByteArray} (hr : InternalStrconvsmall x0 = some r) :
    Calls Tryd.prog 31 [.int .i64 x0].toArray w (fun e w => e = .returned (.string r) ∧ St w s (R)) := by
  refine enter Tryd.func31 rfl rfl rfl fun a hE => ?_
  rw [InternalStrconvsmall] at hr
  refine W.seq ?_
  refine W.region ?_
  refine WL.vS hS hE (runs_plain rfl) (Gives.p hE rfl) rfl ?_; clear hE a; intro a hE
  refine WL.nil ?_
  refine W.seq ?_
  refine W.seq ?_
  refine W.region ?_
  refine WL.vS hS hE (runs_plain rfl) (Gives.p hE rfl) rfl ?_; clear hE a; intro a hE
  refine WL.vS hS hE (runs_plain rfl) (Gives.p hE rfl) rfl ?_; clear hE a; intro a hE
  refine WL.nil ?_
  refine W.cond hE rfl (fun hc51 => ?_) (fun hc51 => ?_)
  · replace hr := iteT hc51 hr
    refine W.seq ?_
    refine W.region ?_
    refine WL.vS hS hE (runs_plain rfl) (Gives.p hE rfl) rfl ?_; clear hE a; intro a hE
    refine WL.vS hS hE (runs_plain rfl) (Gives.p hE rfl) rfl ?_; clear hE a; intro a hE
    refine WL.vS hS hE (runs_plain rfl) (Gives.p hE rfl) rfl ?_; clear hE a; intro a hE
    obtain ⟨x52, hx53, hr⟩ := bindS hr
    refine WL.vS hS hE (runs_plain rfl) (Gives.cutS hE st9 rfl rfl rfl hx53) rfl ?_; clear hE a; intro a hE
    refine WL.vS hS hE (runs_plain rfl) (Gives.p hE rfl) rfl ?_; clear hE a; intro a hE
    refine WL.nil ?_
    refine W.ret ?_
    refine finG (fn := Tryd.f31) (rs := [.tmp 2]) (vs := [_]) hE rfl ⟨rfl, trivial⟩ ?_
    obtain rfl := Option.some.inj hr
    exact ⟨rfl, hS⟩
  · replace hr := iteF hc51 hr
    refine W.skip ?_
    refine W.seq ?_
    refine W.region ?_
    refine WL.vS hS hE (runs_plain rfl) (Gives.p hE rfl) rfl ?_; clear hE a; intro a hE
    refine WL.vS hS hE (runs_plain rfl) (Gives.p hE rfl) rfl ?_; clear hE a; intro a hE
    refine WL.vS hS hE (runs_plain rfl) (Gives.p hE rfl) rfl ?_; clear hE a; intro a hE
    refine WL.vS hS hE (runs_plain rfl) (Gives.p hE rfl) rfl ?_; clear hE a; intro a hE
    refine WL.vS hS hE (runs_plain rfl) (Gives.p hE rfl) rfl ?_; clear hE a; intro a hE
    obtain ⟨x54, hx55, hr⟩ := bindS hr
    refine WL.vS hS hE (runs_plain rfl) (Gives.cutS hE st9 rfl rfl rfl hx55) rfl ?_; clear hE a; intro a hE
    refine WL.vS hS hE (runs_plain rfl) (Gives.p hE rfl) rfl ?_; clear hE a; intro a hE
    refine WL.nil ?_
    refine W.ret ?_
    refine finG (fn := Tryd.f31) (rs := [.tmp 2]) (vs := [_]) hE rfl ⟨rfl, trivial⟩ ?_
    obtain rfl := Option.some.inj hr
    exact ⟨rfl, hS⟩
set_option maxHeartbeats 8000000 in
theorem MathBitsLen64_ok  {w : World} {s : Sg} {R : List HP} {x0 : Int} (hS : St w s (R))  {r : Int} (hr : MathBitsLen64 x0 = some r) :
    Calls Tryd.prog 36 [.int .u64 x0].toArray w (fun e w => e = .returned (.int .i64 r) ∧ St w s (R)) := by
  refine enter Tryd.func36 rfl rfl rfl fun a hE => ?_
  rw [MathBitsLen64] at hr
  refine W.seq ?_
  refine W.region ?_
  refine WL.vS hS hE (runs_plain rfl) (Gives.p hE rfl) rfl ?_; clear hE a; intro a hE
  refine WL.nil ?_
  refine W.seq ?_
  refine W.seq ?_
  refine W.region ?_
  refine WL.vS hS hE (runs_plain rfl) (Gives.p hE rfl) rfl ?_; clear hE a; intro a hE
  refine WL.vS hS hE (runs_plain rfl) (Gives.p hE rfl) rfl ?_; clear hE a; intro a hE
  refine WL.nil ?_
  obtain ⟨q52, hq51, hr⟩ := bndS hr
  refine W.cut (fun a w => ∃ (q55 : Int), ∃ (q56 : Int), (q55, q56) = q52 ∧ Rep a 25 [(0, .int .u64 q55), (2, .int .i64 q56)] ∧ St w s (R)) ?_ ?_
  · refine W.gen fun K57 hK57 => ?_
    refine W.cond hE rfl (fun hc58 => ?_) (fun hc58 => ?_)
    · replace hq51 := iteT hc58 hq51
      refine W.seq ?_
      refine W.region ?_
      refine WL.vS hS hE (runs_plain rfl) (Gives.p hE rfl) rfl ?_; clear hE a; intro a hE
      refine WL.vS hS hE (runs_plain rfl) (Gives.shr hE rfl rfl (by decide)) rfl ?_; clear hE a; intro a hE
      refine WL.vS hS hE (runs_plain rfl) (Gives.p hE rfl) rfl ?_; clear hE a; intro a hE
      refine WL.nil ?_
      refine W.region ?_
      refine WL.vS hS hE (runs_plain rfl) (Gives.p hE rfl) rfl ?_; clear hE a; intro a hE
      refine WL.nil ?_
      subst hK57
      exact ⟨Int.fdiv x0 (2 ^ (min (Int.toNat 32) (IntKind.bits .u64))), 32, hq51, hE.pick _ ⟨rfl, rfl, trivial⟩, hS⟩
    · replace hq51 := iteF hc58 hq51
      refine W.skip ?_
      subst hK57
      exact ⟨x0, 0, hq51, hE.pick _ ⟨rfl, rfl, trivial⟩, hS⟩
  · clear hE hS a w; rintro a w ⟨q55, q56, rfl, hE, hS⟩
    dsimp only at hr
    refine W.seq ?_
    refine W.seq ?_
    refine W.region ?_
    refine WL.vS hS hE (runs_plain rfl) (Gives.p hE rfl) rfl ?_; clear hE a; intro a hE
    refine WL.vS hS hE (runs_plain rfl) (Gives.p hE rfl) rfl ?_; clear hE a; intro a hE
    refine WL.nil ?_
    obtain ⟨q60, hq59, hr⟩ := bndS hr
    refine W.cut (fun a w => ∃ (q63 : Int), ∃ (q64 : Int), (q63, q64) = q60 ∧ Rep a 25 [(0, .int .u64 q63), (2, .int .i64 q64)] ∧ St w s (R)) ?_ ?_
    · refine W.gen fun K65 hK65 => ?_
      refine W.cond hE rfl (fun hc66 => ?_) (fun hc66 => ?_)
      · replace hq59 := iteT hc66 hq59
        refine W.seq ?_
        refine W.region ?_
        refine WL.vS hS hE (runs_plain rfl) (Gives.p hE rfl) rfl ?_; clear hE a; intro a hE
        refine WL.vS hS hE (runs_plain rfl) (Gives.shr hE rfl rfl (by decide)) rfl ?_; clear hE a; intro a hE
        refine WL.vS hS hE (runs_plain rfl) (Gives.p hE rfl) rfl ?_; clear hE a; intro a hE
        refine WL.nil ?_
        refine W.region ?_
        refine WL.vS hS hE (runs_plain rfl) (Gives.p hE rfl) rfl ?_; clear hE a; intro a hE
        refine WL.vS hS hE (runs_plain rfl) (Gives.p hE rfl) rfl ?_; clear hE a; intro a hE
        refine WL.vS hS hE (runs_plain rfl) (Gives.p hE rfl) rfl ?_; clear hE a; intro a hE
        refine WL.nil ?_
        subst hK65
        exact ⟨Int.fdiv q55 (2 ^ (min (Int.toNat 16) (IntKind.bits .u64))), w64 (q56 + 16), hq59, hE.pick _ ⟨rfl, rfl, trivial⟩, hS⟩
      · replace hq59 := iteF hc66 hq59
        refine W.skip ?_
        subst hK65
        exact ⟨q55, q56, hq59, hE.pick _ ⟨rfl, rfl, trivial⟩, hS⟩
    · clear hE hS a w; rintro a w ⟨q63, q64, rfl, hE, hS⟩
      dsimp only at hr
      refine W.seq ?_
      refine W.seq ?_
      refine W.region ?_
      refine WL.vS hS hE (runs_plain rfl) (Gives.p hE rfl) rfl ?_; clear hE a; intro a hE
      refine WL.vS hS hE (runs_plain rfl) (Gives.p hE rfl) rfl ?_; clear hE a; intro a hE
      refine WL.nil ?_
      obtain ⟨q68, hq67, hr⟩ := bndS hr
      refine W.cut (fun a w => ∃ (q71 : Int), ∃ (q72 : Int), (q71, q72) = q68 ∧ Rep a 25 [(0, .int .u64 q71), (2, .int .i64 q72)] ∧ St w s (R)) ?_ ?_
      · refine W.gen fun K73 hK73 => ?_
        refine W.cond hE rfl (fun hc74 => ?_) (fun hc74 => ?_)
        · replace hq67 := iteT hc74 hq67
          refine W.seq ?_
          refine W.region ?_
          refine WL.vS hS hE (runs_plain rfl) (Gives.p hE rfl) rfl ?_; clear hE a; intro a hE
          refine WL.vS hS hE (runs_plain rfl) (Gives.shr hE rfl rfl (by decide)) rfl ?_; clear hE a; intro a hE
          refine WL.vS hS hE (runs_plain rfl) (Gives.p hE rfl) rfl ?_; clear hE a; intro a hE
          refine WL.nil ?_
          refine W.region ?_
          refine WL.vS hS hE (runs_plain rfl) (Gives.p hE rfl) rfl ?_; clear hE a; intro a hE
          refine WL.vS hS hE (runs_plain rfl) (Gives.p hE rfl) rfl ?_; clear hE a; intro a hE
          refine WL.vS hS hE (runs_plain rfl) (Gives.p hE rfl) rfl ?_; clear hE a; intro a hE
          refine WL.nil ?_
          subst hK73
          exact ⟨Int.fdiv q63 (2 ^ (min (Int.toNat 8) (IntKind.bits .u64))), w64 (q64 + 8), hq67, hE.pick _ ⟨rfl, rfl, trivial⟩, hS⟩
        · replace hq67 := iteF hc74 hq67
          refine W.skip ?_
          subst hK73
          exact ⟨q63, q64, hq67, hE.pick _ ⟨rfl, rfl, trivial⟩, hS⟩
      · clear hE hS a w; rintro a w ⟨q71, q72, rfl, hE, hS⟩
        dsimp only at hr
        refine W.seq ?_
        refine W.region ?_
        refine WL.vS hS hE (runs_plain rfl) (Gives.p hE rfl) rfl ?_; clear hE a; intro a hE
        refine WL.vS hS hE (runs_plain rfl) (Gives.p hE rfl) rfl ?_; clear hE a; intro a hE
        refine WL.vS hS hE (runs_plain rfl) (Gives.conv hE rfl hu72 ui5) rfl ?_; clear hE a; intro a hE
        obtain ⟨x75, hx76, hr⟩ := bindS hr
        refine WL.vS hS hE (runs_plain rfl) (Gives.idxS hE st9 rfl rfl hx76) rfl ?_; clear hE a; intro a hE
        refine WL.vS hS hE (runs_plain rfl) (Gives.conv hE rfl hu5 ui3) rfl ?_; clear hE a; intro a hE
        refine WL.vS hS hE (runs_plain rfl) (Gives.p hE rfl) rfl ?_; clear hE a; intro a hE
        refine WL.vS hS hE (runs_plain rfl) (Gives.p hE rfl) rfl ?_; clear hE a; intro a hE
        refine WL.nil ?_
        refine W.ret ?_
        refine finG (fn := Tryd.f36) (rs := [.tmp 2]) (vs := [_]) hE rfl ⟨rfl, trivial⟩ ?_
        obtain rfl := Option.some.inj hr
        exact ⟨rfl, hS⟩
set_option maxHeartbeats 8000000 in
theorem InternalStrconvlog10Pow2_ok  {w : World} {s : Sg} {R : List HP} {x0 : Int} (hS : St w s (R))  {r : Int} (hr : InternalStrconvlog10Pow2 x0 = r) :
    Calls Tryd.prog 35 [.int .i64 x0].toArray w (fun e w => e = .returned (.int .i64 r) ∧ St w s (R)) := by
  refine enter Tryd.func35 rfl rfl rfl fun a hE => ?_
  rw [InternalStrconvlog10Pow2] at hr
  refine W.seq ?_
  refine W.region ?_
  refine WL.vS hS hE (runs_plain rfl) (Gives.p hE rfl) rfl ?_; clear hE a; intro a hE
  refine WL.nil ?_
  refine W.seq ?_
  refine W.region ?_
  refine WL.vS hS hE (runs_plain rfl) (Gives.p hE rfl) rfl ?_; clear hE a; intro a hE
  refine WL.vS hS hE (runs_plain rfl) (Gives.p hE rfl) rfl ?_; clear hE a; intro a hE
  refine WL.vS hS hE (runs_plain rfl) (Gives.shr hE rfl rfl (by decide)) rfl ?_; clear hE a; intro a hE
  refine WL.vS hS hE (runs_plain rfl) (Gives.p hE rfl) rfl ?_; clear hE a; intro a hE
  refine WL.nil ?_
  refine W.ret ?_
  refine finG (fn := Tryd.f35) (rs := [.tmp 2]) (vs := [_]) hE rfl ⟨rfl, trivial⟩ ?_
  subst hr
  exact ⟨rfl, hS⟩
set_option maxHeartbeats 8000000 in
theorem InternalStrconvisPowerOfTwo_ok  {w : World} {s : Sg} {R : List HP} {x0 : Int} (hS : St w s (R))  {r : Bool} (hr : InternalStrconvisPowerOfTwo x0 = r) :
    Calls Tryd.prog 38 [.int .i64 x0].toArray w (fun e w => e = .returned (.bool r) ∧ St w s (R)) := by
  refine enter Tryd.func38 rfl rfl rfl fun a hE => ?_
  rw [InternalStrconvisPowerOfTwo] at hr
  refine W.seq ?_
  refine W.region ?_
  refine WL.vS hS hE (runs_plain rfl) (Gives.p hE rfl) rfl ?_; clear hE a; intro a hE
  refine WL.nil ?_
  refine W.seq ?_
  refine W.region ?_
  refine WL.vS hS hE (runs_plain rfl) (Gives.p hE rfl) rfl ?_; clear hE a; intro a hE
  refine WL.vS hS hE (runs_plain rfl) (Gives.p hE rfl) rfl ?_; clear hE a; intro a hE
  refine WL.vS hS hE (runs_plain rfl) (Gives.p hE rfl) rfl ?_; clear hE a; intro a hE
  refine WL.vS hS hE (runs_plain rfl) (Gives.p hE rfl) rfl ?_; clear hE a; intro a hE
  refine WL.vS hS hE (runs_plain rfl) (Gives.p hE rfl) rfl ?_; clear hE a; intro a hE
  refine WL.vS hS hE (runs_plain rfl) (Gives.p hE rfl) rfl ?_; clear hE a; intro a hE
  refine WL.nil ?_
  refine W.ret ?_
  refine finG (fn := Tryd.f38) (rs := [.tmp 2]) (vs := [_]) hE rfl ⟨rfl, trivial⟩ ?_
  subst hr
  exact ⟨rfl, hS⟩
set_option maxHeartbeats 8000000 in
theorem MathBitsTrailingZeros_ok  {w : World} {s : Sg} {R : List HP} {x0 : Int} (hS : St w s (R))  {r : Int} (hr : MathBitsTrailingZeros x0 = some r) :
    Calls Tryd.prog 39 [.int .u64 x0].toArray w (fun e w => e = .returned (.int .i64 r) ∧ St w s (R)) := by
  refine enter Tryd.func39 rfl rfl rfl fun a hE => ?_
  rw [MathBitsTrailingZeros] at hr
  refine W.seq ?_
  refine W.region ?_
  refine WL.vS hS hE (runs_plain rfl) (Gives.p hE rfl) rfl ?_; clear hE a; intro a hE
  refine WL.nil ?_
  refine W.seq ?_
  refine W.condF hE rfl rfl ?_
  refine W.skip ?_
  refine W.seq ?_
  refine W.region ?_
  refine WL.vS hS hE (runs_plain rfl) (Gives.p hE rfl) rfl ?_; clear hE a; intro a hE
  exact absurd hr (by simp)
set_option maxHeartbeats 8000000 in
theorem InternalStrconvFormatInt_ok  {w : World} {s : Sg} {R : List HP} {x0 : Int} {x1 : Int} (hS : St w s (R))  {r : ByteArray} (hr : InternalStrconvFormatInt x0 x1 = some r) :
    Calls Tryd.prog 30 [.int .i64 x0, .int .i64 x1].toArray w (fun e w => e = .returned (.string r) ∧ St w s (R)) := by
  refine enter Tryd.func30 rfl rfl rfl fun a hE => ?_
  rw [InternalStrconvFormatInt] at hr
  refine W.seq ?_
  refine W.region ?_
  refine WL.vS hS hE (runs_plain rfl) (Gives.p hE rfl) rfl ?_; clear hE a; intro a hE
  refine WL.nil ?_
  refine W.seq ?_
  refine W.seq ?_
  refine W.region ?_
  refine WL.vS hS hE (runs_plain rfl) (Gives.p hE rfl) rfl ?_; clear hE a; intro a hE
  refine WL.vS hS hE (runs_plain rfl) (Gives.p hE rfl) rfl ?_; clear hE a; intro a hE
  refine WL.nil ?_
  refine W.cond hE rfl (fun hc51 => ?_) (fun hc51 => ?_)
  · replace hr := iteT hc51 hr
    refine W.seq ?_
    refine W.seq ?_
    obtain ⟨q53, hq52, hr⟩ := bndS hr
    refine W.cut (fun a w => ∃ (q56 : Bool), q56 = q53 ∧ Rep a 54 [(0, .int .i64 x0), (17, .bool q56)] ∧ St w s (R)) ?_ ?_
    · refine W.gen fun K57 hK57 => ?_
      refine W.region ?_
      refine WL.vS hS hE (runs_plain rfl) (Gives.p hE rfl) rfl ?_; clear hE a; intro a hE
      refine WL.vS hS hE (runs_plain rfl) (Gives.p hE rfl) rfl ?_; clear hE a; intro a hE
      refine WL.vS hS hE (runs_plain rfl) (Gives.p hE rfl) rfl ?_; clear hE a; intro a hE
      rcases Bool.eq_false_or_eq_true (decide (0 ≤ x0)) with hg58 | hg58
      · replace hq52 := iteT hg58 hq52
        refine WL.vS hS hE (runs_if hE rfl rfl rfl hg58) (Gives.p hE rfl) rfl ?_; clear hE a; intro a hE
        refine WL.vS hS hE (runs_if hE rfl rfl rfl hg58) (Gives.p hE rfl) rfl ?_; clear hE a; intro a hE
        refine WL.vS hS hE (runs_plain rfl) (Gives.pickT hE rfl hg58 rfl) rfl ?_; clear hE a; intro a hE
        refine WL.nil ?_
        subst hK57
        exact ⟨decide (x0 < 100), hq52, hE.pick _ ⟨rfl, rfl, trivial⟩, hS⟩
      · replace hq52 := iteF hg58 hq52
        refine WL.no hE (runs_not hE rfl rfl rfl (by rw [hg58]; decide)) rfl ?_; clear hE a; intro a hE
        refine WL.no hE (runs_not hE rfl rfl rfl (by rw [hg58]; decide)) rfl ?_; clear hE a; intro a hE
        refine WL.vS hS hE (runs_plain rfl) (Gives.pickF hE rfl hg58 rfl) rfl ?_; clear hE a; intro a hE
        refine WL.nil ?_
        subst hK57
        exact ⟨false, hq52, hE.pick _ ⟨rfl, rfl, trivial⟩, hS⟩
    · clear hE hS a w; rintro a w ⟨q56, rfl, hE, hS⟩
      refine W.cond hE rfl (fun hc59 => ?_) (fun hc59 => ?_)
      · replace hr := iteT hc59 hr
        refine W.seq ?_
        refine W.region ?_
        refine WL.vS hS hE (runs_plain rfl) (Gives.p hE rfl) rfl ?_; clear hE a; intro a hE
        obtain ⟨q60, hq61, hr⟩ := bindS hr
        have hc_ := InternalStrconvsmall_ok hS  hq61
        refine WL.fnq hE (hc_) (runs_plain rfl) bd31 rfl rfl rfl ?_
        clear hE hS hc_; rintro e w ⟨rfl, hS⟩; refine ⟨_, rfl, ?_⟩; clear a; intro a hE
        refine WL.vS hS hE (runs_plain rfl) (Gives.p hE rfl) rfl ?_; clear hE a; intro a hE
        refine WL.nil ?_
        refine W.ret ?_
        refine finG (fn := Tryd.f30) (rs := [.tmp 4]) (vs := [_]) hE rfl ⟨rfl, trivial⟩ ?_
        obtain rfl := Option.some.inj hr
        exact ⟨rfl, hS⟩
      · replace hr := iteF hc59 hr
        refine W.skip ?_
        refine W.seq ?_
        refine W.region ?_
        refine WL.alloc hE hS (runs_plain rfl) zr71 rfl ?_; clear hE hS a w; intro b62 a w hE hS
        replace hS := hS.ptVec (es := 1) (m := 24) rfl (by decide)
        have h63 : Ev 1 (RI .u8) s [.int .u8 0, .int .u8 0, .int .u8 0, .int .u8 0, .int .u8 0, .int .u8 0, .int .u8 0, .int .u8 0, .int .u8 0, .int .u8 0, .int .u8 0, .int .u8 0, .int .u8 0, .int .u8 0, .int .u8 0, .int .u8 0, .int .u8 0, .int .u8 0, .int .u8 0, .int .u8 0, .int .u8 0, .int .u8 0, .int .u8 0, .int .u8 0] (List.replicate 24 (0 : Int)) := (Ev.ofMap (k := .u8) (List.replicate 24 (0 : Int)))
        refine WL.nil ?_
        refine W.seq ?_
        refine W.region ?_
        refine WL.vS hS hE (runs_plain rfl) (Gives.p hE rfl) rfl ?_; clear hE a; intro a hE
        refine WL.vS hS hE (runs_plain rfl) (Gives.conv hE rfl hu2 ui72) rfl ?_; clear hE a; intro a hE
        refine WL.vS hS hE (runs_plain rfl) (Gives.p hE rfl) rfl ?_; clear hE a; intro a hE
        refine WL.nil ?_
        refine W.seq ?_
        refine W.seq ?_
        refine W.region ?_
        refine WL.vS hS hE (runs_plain rfl) (Gives.p hE rfl) rfl ?_; clear hE a; intro a hE
        refine WL.vS hS hE (runs_plain rfl) (Gives.p hE rfl) rfl ?_; clear hE a; intro a hE
        refine WL.nil ?_
        obtain ⟨q66, hq65, hr⟩ := bndS hr
        refine W.cut (fun a w => ∃ (q69 : Int), q69 = q66 ∧ Rep a 54 [(0, .int .i64 x0), (5, .pointer (some ⟨b62, 0, none⟩)), (6, .int .u64 q69)] ∧ St w s (vecC 71 1 (some ⟨b62, 0, none⟩) 24 24 [.int .u8 0, .int .u8 0, .int .u8 0, .int .u8 0, .int .u8 0, .int .u8 0, .int .u8 0, .int .u8 0, .int .u8 0, .int .u8 0, .int .u8 0, .int .u8 0, .int .u8 0, .int .u8 0, .int .u8 0, .int .u8 0, .int .u8 0, .int .u8 0, .int .u8 0, .int .u8 0, .int .u8 0, .int .u8 0, .int .u8 0, .int .u8 0] :: R)) ?_ ?_
        · refine W.gen fun K70 hK70 => ?_
          refine W.cond hE rfl (fun hc71 => ?_) (fun hc71 => ?_)
          · replace hq65 := iteT hc71 hq65
            refine W.region ?_
            refine WL.vS hS hE (runs_plain rfl) (Gives.p hE rfl) rfl ?_; clear hE a; intro a hE
            refine WL.vS hS hE (runs_plain rfl) (Gives.p hE rfl) rfl ?_; clear hE a; intro a hE
            refine WL.vS hS hE (runs_plain rfl) (Gives.p hE rfl) rfl ?_; clear hE a; intro a hE
            refine WL.nil ?_
            subst hK70
            exact ⟨IntKind.wrap .u64 (0 - (IntKind.wrap .u64 x0)), hq65, hE.pick _ ⟨rfl, rfl, rfl, trivial⟩, hS⟩
          · replace hq65 := iteF hc71 hq65
            refine W.skip ?_
            subst hK70
            exact ⟨IntKind.wrap .u64 x0, hq65, hE.pick _ ⟨rfl, rfl, rfl, trivial⟩, hS⟩
        · clear hE hS a w; rintro a w ⟨q69, rfl, hE, hS⟩
          refine W.seq ?_
          refine W.region ?_
          refine WL.vS hS hE (runs_plain rfl) (Gives.p hE rfl) rfl ?_; clear hE a; intro a hE
          exact absurd hr (by simp)
  · replace hr := iteF hc51 hr
    refine W.skip ?_
    refine W.seq ?_
    refine W.region ?_
    refine WL.vS hS hE (runs_plain rfl) (Gives.p hE rfl) rfl ?_; clear hE a; intro a hE
    refine WL.vS hS hE (runs_plain rfl) (Gives.conv hE rfl hu2 ui72) rfl ?_; clear hE a; intro a hE
    refine WL.vS hS hE (runs_plain rfl) (Gives.p hE rfl) rfl ?_; clear hE a; intro a hE
    refine WL.vS hS hE (runs_plain rfl) (Gives.p hE rfl) rfl ?_; clear hE a; intro a hE
    refine WL.vS hS hE (runs_plain rfl) (Gives.p hE rfl) rfl ?_; clear hE a; intro a hE
    exact absurd hr (by simp)
set_option maxHeartbeats 8000000 in
theorem InternalStrconvItoa_ok  {w : World} {s : Sg} {R : List HP} {x0 : Int} (hS : St w s (R))  {r : ByteArray} (hr : InternalStrconvItoa x0 = some r) :
    Calls Tryd.prog 29 [.int .i64 x0].toArray w (fun e w => e = .returned (.string r) ∧ St w s (R)) := by
  refine enter Tryd.func29 rfl rfl rfl fun a hE => ?_
  rw [InternalStrconvItoa] at hr
  refine W.seq ?_
  refine W.region ?_
  refine WL.vS hS hE (runs_plain rfl) (Gives.p hE rfl) rfl ?_; clear hE a; intro a hE
  refine WL.nil ?_
  refine W.seq ?_
  refine W.region ?_
  refine WL.vS hS hE (runs_plain rfl) (Gives.p hE rfl) rfl ?_; clear hE a; intro a hE
  obtain ⟨q51, hq52, hr⟩ := bindS hr
  have hc_ := InternalStrconvFormatInt_ok hS  hq52
  refine WL.fnq hE (hc_) (runs_plain rfl) bd30 rfl rfl rfl ?_
  clear hE hS hc_; rintro e w ⟨rfl, hS⟩; refine ⟨_, rfl, ?_⟩; clear a; intro a hE
  refine WL.vS hS hE (runs_plain rfl) (Gives.p hE rfl) rfl ?_; clear hE a; intro a hE
  refine WL.nil ?_
  refine W.ret ?_
  refine finG (fn := Tryd.f29) (rs := [.tmp 2]) (vs := [_]) hE rfl ⟨rfl, trivial⟩ ?_
  obtain rfl := Option.some.inj hr
  exact ⟨rfl, hS⟩
set_option maxHeartbeats 8000000 in
theorem StrconvItoa_ok  {w : World} {s : Sg} {R : List HP} {x0 : Int} (hS : St w s (R))  {r : ByteArray} (hr : StrconvItoa x0 = some r) :
    Calls Tryd.prog 28 [.int .i64 x0].toArray w (fun e w => e = .returned (.string r) ∧ St w s (R)) := by
  refine enter Tryd.func28 rfl rfl rfl fun a hE => ?_
  rw [StrconvItoa] at hr
  refine W.seq ?_
  refine W.region ?_
  refine WL.vS hS hE (runs_plain rfl) (Gives.p hE rfl) rfl ?_; clear hE a; intro a hE
  refine WL.nil ?_
  refine W.seq ?_
  refine W.region ?_
  refine WL.vS hS hE (runs_plain rfl) (Gives.p hE rfl) rfl ?_; clear hE a; intro a hE
  obtain ⟨q51, hq52, hr⟩ := bindS hr
  have hc_ := InternalStrconvItoa_ok hS  hq52
  refine WL.fnq hE (hc_) (runs_plain rfl) bd29 rfl rfl rfl ?_
  clear hE hS hc_; rintro e w ⟨rfl, hS⟩; refine ⟨_, rfl, ?_⟩; clear a; intro a hE
  refine WL.vS hS hE (runs_plain rfl) (Gives.p hE rfl) rfl ?_; clear hE a; intro a hE
  refine WL.nil ?_
  refine W.ret ?_
  refine finG (fn := Tryd.f28) (rs := [.tmp 2]) (vs := [_]) hE rfl ⟨rfl, trivial⟩ ?_
  obtain rfl := Option.some.inj hr
  exact ⟨rfl, hS⟩
set_option maxHeartbeats 8000000 in
theorem Fishref2Yardname_ok  {w : World} {s : Sg} {R : List HP} {x0 : Fishref2Yard} {a0_0 : Option Addr} {c0_0 : Nat} {a0_1 : Option Addr} {c0_1 : Nat} {a0_2 : Option Addr} {c0_2 : Nat} (hS : St w s (R)) (_h0_0 : Sl 1 (RI .i64) s a0_0 c0_0 x0.d.Room) (h0_1 : Sl 1 (RL 1 (RI .i64)) s a0_1 c0_1 x0.d.Tracks) (_h0_2 : Sl 2 RFleetMove s a0_2 c0_2 x0.moves) {r : ByteArray} (hr : Fishref2Yardname x0 = some r) :
    Calls Tryd.prog 19 [.agg [.slice a0_0 x0.d.Room.length c0_0, .slice a0_1 x0.d.Tracks.length c0_1, .int .i64 x0.gone, .slice a0_2 x0.moves.length c0_2].toArray].toArray w (fun e w => e = .returned (.string r) ∧ St w s (R)) := by
  refine enter Tryd.func19 rfl rfl rfl fun a hE => ?_
  rw [Fishref2Yardname] at hr
  refine W.seq ?_
  refine W.region ?_
  refine WL.box hE hS (runs_plain rfl) rfl rfl rfl ?_; clear hE hS a w; intro b51 a w hE hS
  refine WL.vS hS hE (runs_plain rfl) (Gives.p hE rfl) rfl ?_; clear hE a; intro a hE
  refine WL.nil ?_
  refine W.seq ?_
  refine W.region ?_
  refine WL.vS hS hE (runs_plain rfl) (Gives.fld hE rfl fl59_1) rfl ?_; clear hE a; intro a hE
  refine WL.vS hS hE (runs_plain rfl) (Gives.loadB hE 0 rfl rfl rfl ty3) rfl ?_; clear hE a; intro a hE
  obtain ⟨q52, hq53, hr⟩ := bindS hr
  have hc_ := StrconvItoa_ok hS  hq53
  refine WL.fnq hE (hc_) (runs_plain rfl) bd28 rfl rfl rfl ?_
  clear hE hS hc_; rintro e w ⟨rfl, hS⟩; refine ⟨_, rfl, ?_⟩; clear a; intro a hE
  refine WL.vS hS hE (runs_plain rfl) (Gives.p hE rfl) rfl ?_; clear hE a; intro a hE
  refine WL.nil ?_
  refine W.seq ?_
  refine W.seq ?_
  refine W.region ?_
  refine WL.vS hS hE (runs_plain rfl) (Gives.fld hE rfl fl59_0) rfl ?_; clear hE a; intro a hE
  refine WL.vS hS hE (runs_plain rfl) (Gives.fld hE rfl fl25_1) rfl ?_; clear hE a; intro a hE
  refine WL.vS hS hE (runs_plain rfl) (Gives.loadB hE 0 rfl rfl rfl ty23) rfl ?_; clear hE a; intro a hE
  refine WL.vS hS hE (runs_plain rfl) (Gives.len hE rfl sl23) rfl ?_; clear hE a; intro a hE
  refine WL.vS hS hE (runs_plain rfl) (Gives.p hE rfl) rfl ?_; clear hE a; intro a hE
  refine WL.nil ?_
  obtain ⟨q55, hq54, hr⟩ := bindS hr
  refine W.cut (fun a w => ∃ (q65 : ByteArray), q65 = q55 ∧ Rep a 35 [(3, .string q65)] ∧ St w s (pt b51 (.cells #[.slice a0_0 x0.d.Room.length c0_0, .slice a0_1 x0.d.Tracks.length c0_1, .int .i64 x0.gone, .slice a0_2 x0.moves.length c0_2] 59 (0, 0)) :: R)) ?_ ?_
  · refine W.block ?_
    refine W.loop (fun m a w => ∃ (rest58 : List (List Int)) (k56 : Nat), ∃ (q65 : ByteArray), rest58.length = m ∧ x0.d.Tracks.drop k56 = rest58 ∧ Fishref2Yardname.loop1 rest58 q65 = some q55 ∧ Rep a 35 [(3, .string q65), (13, .slice a0_1 x0.d.Tracks.length c0_1), (14, .int .i64 ((x0.d.Tracks).length : Int)), (15, .int .i64 ((k56 : Nat) : Int))] ∧ St w s (pt b51 (.cells #[.slice a0_0 x0.d.Room.length c0_0, .slice a0_1 x0.d.Tracks.length c0_1, .int .i64 x0.gone, .slice a0_2 x0.moves.length c0_2] 59 (0, 0)) :: R)) (m := x0.d.Tracks.length) ⟨x0.d.Tracks, 0, q52, rfl, rfl, hq54, hE.pick _ ⟨rfl, rfl, rfl, rfl, trivial⟩, hS⟩ ?_
    clear hE hS a w hq54; rintro m62 a w ⟨rest58, k56, q65, rfl, hd59, hq54, hE, hS⟩
    refine W.gen fun K66 hK66 => ?_
    rcases rest58 with _ | ⟨x57, rest58⟩
    · have hlt60 := drop_nil hd59
      refine W.seq ?_
      refine W.region ?_
      refine WL.vS hS hE (runs_plain rfl) (Gives.p hE rfl) rfl ?_; clear hE a; intro a hE
      refine WL.nil ?_
      refine W.seq ?_
      refine W.condF hE rfl (decide_eq_false (by omega)) ?_
      subst hK66
      refine W.exit rfl ?_
      exact ⟨q65, Option.some.inj hq54, hE.pick _ ⟨rfl, trivial⟩, hS⟩
    · obtain ⟨hlt60, hx61, hd59⟩ := drop_cons hd59
      rw [Fishref2Yardname.loop1] at hq54
      refine W.seq ?_
      refine W.region ?_
      refine WL.vS hS hE (runs_plain rfl) (Gives.p hE rfl) rfl ?_; clear hE a; intro a hE
      refine WL.nil ?_
      refine W.seq ?_
      refine W.condT hE rfl (decide_eq_true (by omega)) ?_
      refine W.skip ?_
      refine W.seq ?_
      refine W.block ?_
      refine W.seq ?_
      refine W.region ?_
      obtain ⟨cs67, hl68, hR69, hat70⟩ := h0_1.at hx61
      obtain ⟨a71, c72, rfl, h73⟩ := hR69
      refine WL.vS hS hE (runs_plain rfl) (Gives.idx hE k56 rfl rfl sl23 rfl hlt60 (h0_1.aok hlt60)) rfl ?_; clear hE a; intro a hE
      refine WL.vS hS hE (runs_plain rfl) (Gives.load1 hE rfl (fun w h => hat70 w _ h) ty22) rfl ?_; clear hE a; intro a hE
      refine WL.vS hS hE (runs_plain rfl) (Gives.p hE rfl) rfl ?_; clear hE a; intro a hE
      refine WL.nil ?_
      refine W.seq ?_
      refine W.region ?_
      refine WL.vS hS hE (runs_plain rfl) (Gives.p hE rfl) rfl ?_; clear hE a; intro a hE
      obtain ⟨x74, hx75, hq54⟩ := bindS hq54
      refine WL.vS hS hE (runs_plain rfl) (Gives.catS hE rfl rfl hx75) rfl ?_; clear hE a; intro a hE
      refine WL.vS hS hE (runs_plain rfl) (Gives.p hE rfl) rfl ?_; clear hE a; intro a hE
      refine WL.nil ?_
      refine W.seq ?_
      refine W.region ?_
      refine WL.vS hS hE (runs_plain rfl) (Gives.p hE rfl) rfl ?_; clear hE a; intro a hE
      refine WL.vS hS hE (runs_plain rfl) (Gives.len hE rfl sl22) rfl ?_; clear hE a; intro a hE
      refine WL.vS hS hE (runs_plain rfl) (Gives.p hE rfl) rfl ?_; clear hE a; intro a hE
      refine WL.nil ?_
      obtain ⟨q77, hq76, hq54⟩ := bindS hq54
      refine W.cut (fun a w => ∃ (q87 : ByteArray), q87 = q77 ∧ Rep a 35 [(3, .string q87), (13, .slice a0_1 x0.d.Tracks.length c0_1), (14, .int .i64 ((x0.d.Tracks).length : Int)), (15, .int .i64 ((k56 : Nat) : Int))] ∧ St w s (pt b51 (.cells #[.slice a0_0 x0.d.Room.length c0_0, .slice a0_1 x0.d.Tracks.length c0_1, .int .i64 x0.gone, .slice a0_2 x0.moves.length c0_2] 59 (0, 0)) :: R)) ?_ ?_
      · refine W.block ?_
        refine W.loop (fun m a w => ∃ (rest80 : List Int) (k78 : Nat), ∃ (q87 : ByteArray), rest80.length = m ∧ x57.drop k78 = rest80 ∧ Fishref2Yardname.loop2 rest80 q87 = some q77 ∧ Rep a 35 [(3, .string q87), (13, .slice a0_1 x0.d.Tracks.length c0_1), (14, .int .i64 ((x0.d.Tracks).length : Int)), (15, .int .i64 ((k56 : Nat) : Int)), (21, .slice a71 x57.length c72), (22, .int .i64 ((x57).length : Int)), (23, .int .i64 ((k78 : Nat) : Int))] ∧ St w s (pt b51 (.cells #[.slice a0_0 x0.d.Room.length c0_0, .slice a0_1 x0.d.Tracks.length c0_1, .int .i64 x0.gone, .slice a0_2 x0.moves.length c0_2] 59 (0, 0)) :: R)) (m := x57.length) ⟨x57, 0, x74, rfl, rfl, hq76, hE.pick _ ⟨rfl, rfl, rfl, rfl, rfl, rfl, rfl, trivial⟩, hS⟩ ?_
        clear hE hS a w hq76; rintro m84 a w ⟨rest80, k78, q87, rfl, hd81, hq76, hE, hS⟩
        refine W.gen fun K88 hK88 => ?_
        rcases rest80 with _ | ⟨x79, rest80⟩
        · have hlt82 := drop_nil hd81
          refine W.seq ?_
          refine W.region ?_
          refine WL.vS hS hE (runs_plain rfl) (Gives.p hE rfl) rfl ?_; clear hE a; intro a hE
          refine WL.nil ?_
          refine W.seq ?_
          refine W.condF hE rfl (decide_eq_false (by omega)) ?_
          subst hK88
          refine W.exit rfl ?_
          exact ⟨q87, Option.some.inj hq76, hE.pick _ ⟨rfl, rfl, rfl, rfl, trivial⟩, hS⟩
        · obtain ⟨hlt82, hx83, hd81⟩ := drop_cons hd81
          rw [Fishref2Yardname.loop2] at hq76
          refine W.seq ?_
          refine W.region ?_
          refine WL.vS hS hE (runs_plain rfl) (Gives.p hE rfl) rfl ?_; clear hE a; intro a hE
          refine WL.nil ?_
          refine W.seq ?_
          refine W.condT hE rfl (decide_eq_true (by omega)) ?_
          refine W.skip ?_
          refine W.seq ?_
          refine W.block ?_
          refine W.seq ?_
          refine W.region ?_
          obtain ⟨cs89, hl90, hR91, hat92⟩ := h73.at hx83
          subst hR91
          refine WL.vS hS hE (runs_plain rfl) (Gives.idx hE k78 rfl rfl sl22 rfl hlt82 (h73.aok hlt82)) rfl ?_; clear hE a; intro a hE
          refine WL.vS hS hE (runs_plain rfl) (Gives.load1 hE rfl (fun w h => hat92 w _ h) ty3) rfl ?_; clear hE a; intro a hE
          refine WL.vS hS hE (runs_plain rfl) (Gives.p hE rfl) rfl ?_; clear hE a; intro a hE
          refine WL.nil ?_
          refine W.region ?_
          refine WL.vS hS hE (runs_plain rfl) (Gives.p hE rfl) rfl ?_; clear hE a; intro a hE
          refine WL.vS hS hE (runs_plain rfl) (Gives.p hE rfl) rfl ?_; clear hE a; intro a hE
          obtain ⟨q93, hq94, hq76⟩ := bindS hq76
          have hc_ := StrconvItoa_ok hS  hq94
          refine WL.fnq hE (hc_) (runs_plain rfl) bd28 rfl rfl rfl ?_
          clear hE hS hc_; rintro e w ⟨rfl, hS⟩; refine ⟨_, rfl, ?_⟩; clear a; intro a hE
          obtain ⟨x95, hx96, hq76⟩ := bindS hq76
          refine WL.vS hS hE (runs_plain rfl) (Gives.catS hE rfl rfl hx96) rfl ?_; clear hE a; intro a hE
          obtain ⟨x97, hx98, hq76⟩ := bindS hq76
          refine WL.vS hS hE (runs_plain rfl) (Gives.catS hE rfl rfl hx98) rfl ?_; clear hE a; intro a hE
          refine WL.vS hS hE (runs_plain rfl) (Gives.p hE rfl) rfl ?_; clear hE a; intro a hE
          refine WL.nil ?_
          refine W.region ?_
          refine WL.vS hS hE (runs_plain rfl) (Gives.inc hE rfl (by have := h73.small; omega)) rfl ?_; clear hE a; intro a hE
          refine WL.vS hS hE (runs_plain rfl) (Gives.p hE rfl) rfl ?_; clear hE a; intro a hE
          refine WL.nil ?_
          subst hK88
          exact ⟨rest80.length, Nat.lt_succ_self _, rest80, k78 + 1, x97, rfl, hd81, hq76, hE.pick _ ⟨rfl, rfl, rfl, rfl, rfl, rfl, rfl, trivial⟩, hS⟩
      · clear hE hS a w; rintro a w ⟨q87, rfl, hE, hS⟩
        refine W.region ?_
        refine WL.vS hS hE (runs_plain rfl) (Gives.inc hE rfl (by have := h0_1.small; omega)) rfl ?_; clear hE a; intro a hE
        refine WL.vS hS hE (runs_plain rfl) (Gives.p hE rfl) rfl ?_; clear hE a; intro a hE
        refine WL.nil ?_
        subst hK66
        exact ⟨rest58.length, Nat.lt_succ_self _, rest58, k56 + 1, q87, rfl, hd59, hq54, hE.pick _ ⟨rfl, rfl, rfl, rfl, trivial⟩, hS⟩
  · clear hE hS a w; rintro a w ⟨q65, rfl, hE, hS⟩
    refine W.seq ?_
    refine W.region ?_
    refine WL.vS hS hE (runs_plain rfl) (Gives.p hE rfl) rfl ?_; clear hE a; intro a hE
    refine WL.vS hS hE (runs_plain rfl) (Gives.p hE rfl) rfl ?_; clear hE a; intro a hE
    refine WL.nil ?_
    refine W.ret ?_
    refine finG (fn := Tryd.f19) (rs := [.tmp 2]) (vs := [_]) hE rfl ⟨rfl, trivial⟩ ?_
    obtain rfl := Option.some.inj hr
    replace hS := hS.tail
    exact ⟨rfl, hS⟩
set_option maxHeartbeats 8000000 in
theorem Fishref2Moved_ok  {w : World} {s : Sg} {R : List HP} {x0 : FleetDepot} {a0_0 : Option Addr} {c0_0 : Nat} {a0_1 : Option Addr} {c0_1 : Nat} {x1 : FleetMove} (hS : St w s (R)) (h0_0 : Sl 1 (RI .i64) s a0_0 c0_0 x0.Room) (h0_1 : Sl 1 (RL 1 (RI .i64)) s a0_1 c0_1 x0.Tracks) {r : FleetDepot × Int × Int} (hr : Fishref2Moved x0 x1 = some r) :
    Calls Tryd.prog 20 [.agg [.slice a0_0 x0.Room.length c0_0, .slice a0_1 x0.Tracks.length c0_1].toArray, .agg (FleetMove.cells x1).toArray].toArray w (fun e w => ∃ (cs0 : List Value) (t : Sg), e = .returned (.tuple #[.agg cs0.toArray, .int .i64 r.2.1, .int .i64 r.2.2]) ∧ s.Le t ∧ RFleetDepot t cs0 r.1 ∧ St w t (R)) := by
  refine enter Tryd.func20 rfl rfl rfl fun a hE => ?_
  rw [Fishref2Moved] at hr
  refine W.seq ?_
  refine W.region ?_
  refine WL.box hE hS (runs_plain rfl) rfl rfl rfl ?_; clear hE hS a w; intro b51 a w hE hS
  refine WL.box hE hS (runs_plain rfl) rfl rfl rfl ?_; clear hE hS a w; intro b52 a w hE hS
  refine WL.alloc hE hS (runs_plain rfl) zr25 rfl ?_; clear hE hS a w; intro b53 a w hE hS
  refine WL.vS hS hE (runs_plain rfl) (Gives.p hE rfl) rfl ?_; clear hE a; intro a hE
  refine WL.vS hS hE (runs_plain rfl) (Gives.p hE rfl) rfl ?_; clear hE a; intro a hE
  refine WL.nil ?_
  refine W.seq ?_
  refine W.region ?_
  refine WL.vS hS hE (runs_plain rfl) (Gives.fld hE rfl fl25_0) rfl ?_; clear hE a; intro a hE
  refine WL.vS hS hE (runs_plain rfl) (Gives.loadB hE 2 rfl rfl rfl ty22) rfl ?_; clear hE a; intro a hE
  refine WL.vS hS hE (runs_plain rfl) (Gives.len hE rfl sl22) rfl ?_; clear hE a; intro a hE
  refine WL.vS hS hE (runs_plain rfl) (Gives.p hE rfl) rfl ?_; clear hE a; intro a hE
  refine WL.nil ?_
  refine W.seq ?_
  refine W.seq ?_
  obtain ⟨q55, hq54, hr⟩ := bndS hr
  refine W.cut (fun a w => ∃ (q58 : Bool), q58 = q55 ∧ Rep a 133 [(2, .pointer (some ⟨b51, 0, none⟩)), (3, .pointer (some ⟨b52, 0, none⟩)), (4, .pointer (some ⟨b53, 0, none⟩)), (35, .bool q58)] ∧ St w s (pt b53 (.cells #[.slice none 0 0, .slice none 0 0] 25 (0, 0)) :: pt b52 (.cells (FleetMove.cells x1).toArray 34 (0, 0)) :: pt b51 (.cells #[.slice a0_0 x0.Room.length c0_0, .slice a0_1 x0.Tracks.length c0_1] 25 (0, 0)) :: R)) ?_ ?_
  · refine W.gen fun K59 hK59 => ?_
    refine W.region ?_
    refine WL.vS hS hE (runs_plain rfl) (Gives.fld hE rfl fl34_0) rfl ?_; clear hE a; intro a hE
    refine WL.vS hS hE (runs_plain rfl) (Gives.loadB hE 1 rfl rfl rfl ty3) rfl ?_; clear hE a; intro a hE
    refine WL.vS hS hE (runs_plain rfl) (Gives.p hE rfl) rfl ?_; clear hE a; intro a hE
    refine WL.vS hS hE (runs_plain rfl) (Gives.p hE rfl) rfl ?_; clear hE a; intro a hE
    rcases Bool.eq_false_or_eq_true (decide (x1.From < 0)) with hg60 | hg60
    · replace hq54 := iteT hg60 hq54
      refine WL.no hE (runs_not hE rfl rfl rfl (by rw [hg60]; decide)) rfl ?_; clear hE a; intro a hE
      refine WL.no hE (runs_not hE rfl rfl rfl (by rw [hg60]; decide)) rfl ?_; clear hE a; intro a hE
      refine WL.no hE (runs_not hE rfl rfl rfl (by rw [hg60]; decide)) rfl ?_; clear hE a; intro a hE
      refine WL.no hE (runs_not hE rfl rfl rfl (by rw [hg60]; decide)) rfl ?_; clear hE a; intro a hE
      refine WL.vS hS hE (runs_plain rfl) (Gives.pickT hE rfl hg60 rfl) rfl ?_; clear hE a; intro a hE
      refine WL.vS hS hE (runs_plain rfl) (Gives.p hE rfl) rfl ?_; clear hE a; intro a hE
      refine WL.no hE (runs_not hE rfl rfl rfl (by decide)) rfl ?_; clear hE a; intro a hE
      refine WL.no hE (runs_not hE rfl rfl rfl (by decide)) rfl ?_; clear hE a; intro a hE
      refine WL.no hE (runs_not hE rfl rfl rfl (by decide)) rfl ?_; clear hE a; intro a hE
      refine WL.vS hS hE (runs_plain rfl) (Gives.pickT hE rfl rfl rfl) rfl ?_; clear hE a; intro a hE
      refine WL.vS hS hE (runs_plain rfl) (Gives.p hE rfl) rfl ?_; clear hE a; intro a hE
      refine WL.no hE (runs_not hE rfl rfl rfl (by decide)) rfl ?_; clear hE a; intro a hE
      refine WL.no hE (runs_not hE rfl rfl rfl (by decide)) rfl ?_; clear hE a; intro a hE
      refine WL.no hE (runs_not hE rfl rfl rfl (by decide)) rfl ?_; clear hE a; intro a hE
      refine WL.no hE (runs_not hE rfl rfl rfl (by decide)) rfl ?_; clear hE a; intro a hE
      refine WL.vS hS hE (runs_plain rfl) (Gives.pickT hE rfl rfl rfl) rfl ?_; clear hE a; intro a hE
      refine WL.nil ?_
      subst hK59
      exact ⟨true, hq54, hE.pick _ ⟨rfl, rfl, rfl, rfl, trivial⟩, hS⟩
    · replace hq54 := iteF hg60 hq54
      refine WL.vS hS hE (runs_if hE rfl rfl rfl hg60) (Gives.fld hE rfl fl34_0) rfl ?_; clear hE a; intro a hE
      refine WL.vS hS hE (runs_if hE rfl rfl rfl hg60) (Gives.loadB hE 1 rfl rfl rfl ty3) rfl ?_; clear hE a; intro a hE
      refine WL.vS hS hE (runs_if hE rfl rfl rfl hg60) (Gives.p hE rfl) rfl ?_; clear hE a; intro a hE
      refine WL.vS hS hE (runs_if hE rfl rfl rfl hg60) (Gives.p hE rfl) rfl ?_; clear hE a; intro a hE
      refine WL.vS hS hE (runs_plain rfl) (Gives.pickF hE rfl hg60 rfl) rfl ?_; clear hE a; intro a hE
      refine WL.vS hS hE (runs_plain rfl) (Gives.p hE rfl) rfl ?_; clear hE a; intro a hE
      rcases Bool.eq_false_or_eq_true (decide (x1.From ≥ ((x0.Room).length : Int))) with hg61 | hg61
      · replace hq54 := iteT hg61 hq54
        refine WL.no hE (runs_not hE rfl rfl rfl (by rw [hg61]; decide)) rfl ?_; clear hE a; intro a hE
        refine WL.no hE (runs_not hE rfl rfl rfl (by rw [hg61]; decide)) rfl ?_; clear hE a; intro a hE
        refine WL.no hE (runs_not hE rfl rfl rfl (by rw [hg61]; decide)) rfl ?_; clear hE a; intro a hE
        refine WL.vS hS hE (runs_plain rfl) (Gives.pickT hE rfl hg61 rfl) rfl ?_; clear hE a; intro a hE
        refine WL.vS hS hE (runs_plain rfl) (Gives.p hE rfl) rfl ?_; clear hE a; intro a hE
        refine WL.no hE (runs_not hE rfl rfl rfl (by decide)) rfl ?_; clear hE a; intro a hE
        refine WL.no hE (runs_not hE rfl rfl rfl (by decide)) rfl ?_; clear hE a; intro a hE
        refine WL.no hE (runs_not hE rfl rfl rfl (by decide)) rfl ?_; clear hE a; intro a hE
        refine WL.no hE (runs_not hE rfl rfl rfl (by decide)) rfl ?_; clear hE a; intro a hE
        refine WL.vS hS hE (runs_plain rfl) (Gives.pickT hE rfl rfl rfl) rfl ?_; clear hE a; intro a hE
        refine WL.nil ?_
        subst hK59
        exact ⟨true, hq54, hE.pick _ ⟨rfl, rfl, rfl, rfl, trivial⟩, hS⟩
      · replace hq54 := iteF hg61 hq54
        refine WL.vS hS hE (runs_if hE rfl rfl rfl hg61) (Gives.fld hE rfl fl34_1) rfl ?_; clear hE a; intro a hE
        refine WL.vS hS hE (runs_if hE rfl rfl rfl hg61) (Gives.loadB hE 1 rfl rfl rfl ty3) rfl ?_; clear hE a; intro a hE
        refine WL.vS hS hE (runs_if hE rfl rfl rfl hg61) (Gives.p hE rfl) rfl ?_; clear hE a; intro a hE
        refine WL.vS hS hE (runs_plain rfl) (Gives.pickF hE rfl hg61 rfl) rfl ?_; clear hE a; intro a hE
        refine WL.vS hS hE (runs_plain rfl) (Gives.p hE rfl) rfl ?_; clear hE a; intro a hE
        rcases Bool.eq_false_or_eq_true (decide (x1.To < (-1))) with hg62 | hg62
        · replace hq54 := iteT hg62 hq54
          refine WL.no hE (runs_not hE rfl rfl rfl (by rw [hg62]; decide)) rfl ?_; clear hE a; intro a hE
          refine WL.no hE (runs_not hE rfl rfl rfl (by rw [hg62]; decide)) rfl ?_; clear hE a; intro a hE
          refine WL.no hE (runs_not hE rfl rfl rfl (by rw [hg62]; decide)) rfl ?_; clear hE a; intro a hE
          refine WL.no hE (runs_not hE rfl rfl rfl (by rw [hg62]; decide)) rfl ?_; clear hE a; intro a hE
          refine WL.vS hS hE (runs_plain rfl) (Gives.pickT hE rfl hg62 rfl) rfl ?_; clear hE a; intro a hE
          refine WL.nil ?_
          subst hK59
          exact ⟨true, hq54, hE.pick _ ⟨rfl, rfl, rfl, rfl, trivial⟩, hS⟩
        · replace hq54 := iteF hg62 hq54
          refine WL.vS hS hE (runs_if hE rfl rfl rfl hg62) (Gives.fld hE rfl fl34_1) rfl ?_; clear hE a; intro a hE
          refine WL.vS hS hE (runs_if hE rfl rfl rfl hg62) (Gives.loadB hE 1 rfl rfl rfl ty3) rfl ?_; clear hE a; intro a hE
          refine WL.vS hS hE (runs_if hE rfl rfl rfl hg62) (Gives.p hE rfl) rfl ?_; clear hE a; intro a hE
          refine WL.vS hS hE (runs_if hE rfl rfl rfl hg62) (Gives.p hE rfl) rfl ?_; clear hE a; intro a hE
          refine WL.vS hS hE (runs_plain rfl) (Gives.pickF hE rfl hg62 rfl) rfl ?_; clear hE a; intro a hE
          refine WL.nil ?_
          subst hK59
          exact ⟨decide (x1.To ≥ ((x0.Room).length : Int)), hq54, hE.pick _ ⟨rfl, rfl, rfl, rfl, trivial⟩, hS⟩
  · clear hE hS a w; rintro a w ⟨q58, rfl, hE, hS⟩
    refine W.cond hE rfl (fun hc63 => ?_) (fun hc63 => ?_)
    · replace hr := iteT hc63 hr
      refine W.seq ?_
      refine W.region ?_
      refine WL.vS hS hE (runs_plain rfl) (Gives.build hE (vs := []) [.slice none 0 0, .slice none 0 0] rfl (by kernel_rfl)) rfl ?_; clear hE a; intro a hE
      refine WL.storeI hE hS 0 rfl [.slice none 0 0, .slice none 0 0] (runs_plain rfl) rfl rfl rfl ty25 rfl rfl rfl rfl ?_; clear hE hS a w; intro a w hE hS
      refine WL.vS hS hE (runs_plain rfl) (Gives.p hE rfl) rfl ?_; clear hE a; intro a hE
      refine WL.vS hS hE (runs_plain rfl) (Gives.p hE rfl) rfl ?_; clear hE a; intro a hE
      refine WL.nil ?_
      refine W.ret ?_
      refine finG (fn := Tryd.f20) (rs := [.cell 4 25, .tmp 5, .tmp 6]) (vs := [_, _, _]) hE rfl ⟨⟨_, rfl, .inl ⟨_, rfl, hS.seesAt 0 rfl, ty25⟩⟩, rfl, rfl, trivial⟩ ?_
      obtain rfl := Option.some.inj hr
      replace hS := hS.tail
      replace hS := hS.tail
      replace hS := hS.tail
      exact ⟨_, s, rfl, (Sg.Le.refl _), ⟨_, _, _, _, rfl, Sl.nil, Sl.nil⟩, hS⟩
    · replace hr := iteF hc63 hr
      refine W.skip ?_
      refine W.seq ?_
      refine W.seq ?_
      refine W.region ?_
      refine WL.vS hS hE (runs_plain rfl) (Gives.fld hE rfl fl34_0) rfl ?_; clear hE a; intro a hE
      refine WL.vS hS hE (runs_plain rfl) (Gives.loadB hE 1 rfl rfl rfl ty3) rfl ?_; clear hE a; intro a hE
      refine WL.vS hS hE (runs_plain rfl) (Gives.fld hE rfl fl34_1) rfl ?_; clear hE a; intro a hE
      refine WL.vS hS hE (runs_plain rfl) (Gives.loadB hE 1 rfl rfl rfl ty3) rfl ?_; clear hE a; intro a hE
      refine WL.vS hS hE (runs_plain rfl) (Gives.p hE rfl) rfl ?_; clear hE a; intro a hE
      refine WL.nil ?_
      refine W.cond hE rfl (fun hc64 => ?_) (fun hc64 => ?_)
      · replace hr := iteT hc64 hr
        refine W.seq ?_
        refine W.region ?_
        refine WL.vS hS hE (runs_plain rfl) (Gives.build hE (vs := []) [.slice none 0 0, .slice none 0 0] rfl (by kernel_rfl)) rfl ?_; clear hE a; intro a hE
        refine WL.storeI hE hS 0 rfl [.slice none 0 0, .slice none 0 0] (runs_plain rfl) rfl rfl rfl ty25 rfl rfl rfl rfl ?_; clear hE hS a w; intro a w hE hS
        refine WL.vS hS hE (runs_plain rfl) (Gives.p hE rfl) rfl ?_; clear hE a; intro a hE
        refine WL.vS hS hE (runs_plain rfl) (Gives.p hE rfl) rfl ?_; clear hE a; intro a hE
        refine WL.nil ?_
        refine W.ret ?_
        refine finG (fn := Tryd.f20) (rs := [.cell 4 25, .tmp 5, .tmp 6]) (vs := [_, _, _]) hE rfl ⟨⟨_, rfl, .inl ⟨_, rfl, hS.seesAt 0 rfl, ty25⟩⟩, rfl, rfl, trivial⟩ ?_
        obtain rfl := Option.some.inj hr
        replace hS := hS.tail
        replace hS := hS.tail
        replace hS := hS.tail
        exact ⟨_, s, rfl, (Sg.Le.refl _), ⟨_, _, _, _, rfl, Sl.nil, Sl.nil⟩, hS⟩
      · replace hr := iteF hc64 hr
        refine W.skip ?_
        refine W.seq ?_
        refine W.seq ?_
        refine W.region ?_
        refine WL.vS hS hE (runs_plain rfl) (Gives.fld hE rfl fl25_1) rfl ?_; clear hE a; intro a hE
        refine WL.vS hS hE (runs_plain rfl) (Gives.loadB hE 2 rfl rfl rfl ty23) rfl ?_; clear hE a; intro a hE
        refine WL.vS hS hE (runs_plain rfl) (Gives.fld hE rfl fl34_0) rfl ?_; clear hE a; intro a hE
        refine WL.vS hS hE (runs_plain rfl) (Gives.loadB hE 1 rfl rfl rfl ty3) rfl ?_; clear hE a; intro a hE
        obtain ⟨x65, hx66, hr⟩ := bindS hr
        obtain ⟨hi67, hlt68, hy69⟩ := gx_some hx66
        obtain ⟨cs70, hl71, hR72, hat73⟩ := h0_1.at hy69
        obtain ⟨a74, c75, rfl, h76⟩ := hR72
        refine WL.vS hS hE (runs_plain rfl) (Gives.idx hE (x1.From).toNat rfl rfl sl23 hi67 hlt68 (h0_1.aok hlt68)) rfl ?_; clear hE a; intro a hE
        refine WL.vS hS hE (runs_plain rfl) (Gives.load1 hE rfl (fun w h => hat73 w _ h) ty22) rfl ?_; clear hE a; intro a hE
        refine WL.vS hS hE (runs_plain rfl) (Gives.len hE rfl sl22) rfl ?_; clear hE a; intro a hE
        refine WL.vS hS hE (runs_plain rfl) (Gives.p hE rfl) rfl ?_; clear hE a; intro a hE
        refine WL.nil ?_
        refine W.cond hE rfl (fun hc77 => ?_) (fun hc77 => ?_)
        · replace hr := iteT hc77 hr
          refine W.seq ?_
          refine W.region ?_
          refine WL.vS hS hE (runs_plain rfl) (Gives.build hE (vs := []) [.slice none 0 0, .slice none 0 0] rfl (by kernel_rfl)) rfl ?_; clear hE a; intro a hE
          refine WL.storeI hE hS 0 rfl [.slice none 0 0, .slice none 0 0] (runs_plain rfl) rfl rfl rfl ty25 rfl rfl rfl rfl ?_; clear hE hS a w; intro a w hE hS
          refine WL.vS hS hE (runs_plain rfl) (Gives.p hE rfl) rfl ?_; clear hE a; intro a hE
          refine WL.vS hS hE (runs_plain rfl) (Gives.p hE rfl) rfl ?_; clear hE a; intro a hE
          refine WL.nil ?_
          refine W.ret ?_
          refine finG (fn := Tryd.f20) (rs := [.cell 4 25, .tmp 5, .tmp 6]) (vs := [_, _, _]) hE rfl ⟨⟨_, rfl, .inl ⟨_, rfl, hS.seesAt 0 rfl, ty25⟩⟩, rfl, rfl, trivial⟩ ?_
          obtain rfl := Option.some.inj hr
          replace hS := hS.tail
          replace hS := hS.tail
          replace hS := hS.tail
          exact ⟨_, s, rfl, (Sg.Le.refl _), ⟨_, _, _, _, rfl, Sl.nil, Sl.nil⟩, hS⟩
        · replace hr := iteF hc77 hr
          refine W.skip ?_
          refine W.seq ?_
          refine W.seq ?_
          obtain ⟨q79, hq78, hr⟩ := bindS hr
          refine W.cut (fun a w => ∃ (q82 : Bool), q82 = q79 ∧ Rep a 133 [(2, .pointer (some ⟨b51, 0, none⟩)), (3, .pointer (some ⟨b52, 0, none⟩)), (4, .pointer (some ⟨b53, 0, none⟩)), (70, .bool q82)] ∧ St w s (pt b53 (.cells #[.slice none 0 0, .slice none 0 0] 25 (0, 0)) :: pt b52 (.cells (FleetMove.cells x1).toArray 34 (0, 0)) :: pt b51 (.cells #[.slice a0_0 x0.Room.length c0_0, .slice a0_1 x0.Tracks.length c0_1] 25 (0, 0)) :: R)) ?_ ?_
          · refine W.gen fun K83 hK83 => ?_
            refine W.regionQ (C := fun w => St w s (pt b53 (.cells #[.slice none 0 0, .slice none 0 0] 25 (0, 0)) :: pt b52 (.cells (FleetMove.cells x1).toArray 34 (0, 0)) :: pt b51 (.cells #[.slice a0_0 x0.Room.length c0_0, .slice a0_1 x0.Tracks.length c0_1] 25 (0, 0)) :: R)) mixed (by kernel_rfl) hS.drew ?_
            refine QL.v hE (runs_plain rfl) (Gives.fld hE rfl fl34_1) rfl ?_; clear hE a; intro a hE
            refine QL.v hE (runs_plain rfl) (Gives.loadB hE 1 rfl rfl rfl ty3) rfl ?_; clear hE a; intro a hE
            refine QL.v hE (runs_plain rfl) (Gives.p hE rfl) rfl ?_; clear hE a; intro a hE
            refine QL.v hE (runs_plain rfl) (Gives.p hE rfl) rfl ?_; clear hE a; intro a hE
            rcases Bool.eq_false_or_eq_true (decide (x1.To ≥ 0)) with hg84 | hg84
            · replace hq78 := iteT hg84 hq78
              refine QL.v hE (runs_if hE rfl rfl rfl hg84) (Gives.fld hE rfl fl25_1) rfl ?_; clear hE a; intro a hE
              refine QL.v hE (runs_if hE rfl rfl rfl hg84) (Gives.loadB hE 2 rfl rfl rfl ty23) rfl ?_; clear hE a; intro a hE
              refine QL.v hE (runs_if hE rfl rfl rfl hg84) (Gives.fld hE rfl fl34_1) rfl ?_; clear hE a; intro a hE
              refine QL.v hE (runs_if hE rfl rfl rfl hg84) (Gives.loadB hE 1 rfl rfl rfl ty3) rfl ?_; clear hE a; intro a hE
              obtain ⟨x85, hx86, hq78⟩ := bindS hq78
              obtain ⟨hi87, hlt88, hy89⟩ := gx_some hx86
              obtain ⟨cs90, hl91, hR92, hat93⟩ := h0_1.at hy89
              obtain ⟨a94, c95, rfl, h96⟩ := hR92
              refine QL.v hE (runs_if hE rfl rfl rfl hg84) (Gives.idx hE (x1.To).toNat rfl rfl sl23 hi87 hlt88 (h0_1.aok hlt88)) rfl ?_; clear hE a; intro a hE
              refine QL.v hE (runs_if hE rfl rfl rfl hg84) (Gives.load1 hE rfl (fun w h => hat93 w _ h) ty22) rfl ?_; clear hE a; intro a hE
              refine QL.v hE (runs_if hE rfl rfl rfl hg84) (Gives.len hE rfl sl22) rfl ?_; clear hE a; intro a hE
              refine QL.v hE (runs_if hE rfl rfl rfl hg84) (Gives.fld hE rfl fl25_0) rfl ?_; clear hE a; intro a hE
              refine QL.v hE (runs_if hE rfl rfl rfl hg84) (Gives.loadB hE 2 rfl rfl rfl ty22) rfl ?_; clear hE a; intro a hE
              refine QL.v hE (runs_if hE rfl rfl rfl hg84) (Gives.fld hE rfl fl34_1) rfl ?_; clear hE a; intro a hE
              refine QL.v hE (runs_if hE rfl rfl rfl hg84) (Gives.loadB hE 1 rfl rfl rfl ty3) rfl ?_; clear hE a; intro a hE
              obtain ⟨x97, hx98, hq78⟩ := bindS hq78
              obtain ⟨hi99, hlt100, hy101⟩ := gx_some hx98
              obtain ⟨cs102, hl103, hR104, hat105⟩ := h0_0.at hy101
              subst hR104
              refine QL.v hE (runs_if hE rfl rfl rfl hg84) (Gives.idx hE (x1.To).toNat rfl rfl sl22 hi99 hlt100 (h0_0.aok hlt100)) rfl ?_; clear hE a; intro a hE
              refine QL.v hE (runs_if hE rfl rfl rfl hg84) (Gives.load1 hE rfl (fun w h => hat105 w _ h) ty3) rfl ?_; clear hE a; intro a hE
              refine QL.v hE (runs_if hE rfl rfl rfl hg84) (Gives.p hE rfl) rfl ?_; clear hE a; intro a hE
              refine QL.v hE (runs_plain rfl) (Gives.pickT hE rfl hg84 rfl) rfl ?_; clear hE a; intro a hE
              refine QL.nil ?_; clear hS w; intro w hS
              subst hK83
              exact ⟨decide (((x85).length : Int) ≥ x97), Option.some.inj hq78, hE.pick _ ⟨rfl, rfl, rfl, rfl, trivial⟩, hS⟩
            · replace hq78 := iteF hg84 hq78
              refine QL.no hE (runs_not hE rfl rfl rfl (by rw [hg84]; decide)) rfl ?_; clear hE a; intro a hE
              refine QL.no hE (runs_not hE rfl rfl rfl (by rw [hg84]; decide)) rfl ?_; clear hE a; intro a hE
              refine QL.no hE (runs_not hE rfl rfl rfl (by rw [hg84]; decide)) rfl ?_; clear hE a; intro a hE
              refine QL.no hE (runs_not hE rfl rfl rfl (by rw [hg84]; decide)) rfl ?_; clear hE a; intro a hE
              refine QL.no hE (runs_not hE rfl rfl rfl (by rw [hg84]; decide)) rfl ?_; clear hE a; intro a hE
              refine QL.no hE (runs_not hE rfl rfl rfl (by rw [hg84]; decide)) rfl ?_; clear hE a; intro a hE
              refine QL.no hE (runs_not hE rfl rfl rfl (by rw [hg84]; decide)) rfl ?_; clear hE a; intro a hE
              refine QL.no hE (runs_not hE rfl rfl rfl (by rw [hg84]; decide)) rfl ?_; clear hE a; intro a hE
              refine QL.no hE (runs_not hE rfl rfl rfl (by rw [hg84]; decide)) rfl ?_; clear hE a; intro a hE
              refine QL.no hE (runs_not hE rfl rfl rfl (by rw [hg84]; decide)) rfl ?_; clear hE a; intro a hE
              refine QL.no hE (runs_not hE rfl rfl rfl (by rw [hg84]; decide)) rfl ?_; clear hE a; intro a hE
              refine QL.no hE (runs_not hE rfl rfl rfl (by rw [hg84]; decide)) rfl ?_; clear hE a; intro a hE
              refine QL.no hE (runs_not hE rfl rfl rfl (by rw [hg84]; decide)) rfl ?_; clear hE a; intro a hE
              refine QL.no hE (runs_not hE rfl rfl rfl (by rw [hg84]; decide)) rfl ?_; clear hE a; intro a hE
              refine QL.v hE (runs_plain rfl) (Gives.pickF hE rfl hg84 rfl) rfl ?_; clear hE a; intro a hE
              refine QL.nil ?_; clear hS w; intro w hS
              subst hK83
              exact ⟨false, Option.some.inj hq78, hE.pick _ ⟨rfl, rfl, rfl, rfl, trivial⟩, hS⟩
          · clear hE hS a w; rintro a w ⟨q82, rfl, hE, hS⟩
            refine W.cond hE rfl (fun hc106 => ?_) (fun hc106 => ?_)
            · replace hr := iteT hc106 hr
              refine W.seq ?_
              refine W.region ?_
              refine WL.vS hS hE (runs_plain rfl) (Gives.build hE (vs := []) [.slice none 0 0, .slice none 0 0] rfl (by kernel_rfl)) rfl ?_; clear hE a; intro a hE
              refine WL.storeI hE hS 0 rfl [.slice none 0 0, .slice none 0 0] (runs_plain rfl) rfl rfl rfl ty25 rfl rfl rfl rfl ?_; clear hE hS a w; intro a w hE hS
              refine WL.vS hS hE (runs_plain rfl) (Gives.p hE rfl) rfl ?_; clear hE a; intro a hE
              refine WL.vS hS hE (runs_plain rfl) (Gives.p hE rfl) rfl ?_; clear hE a; intro a hE
              refine WL.nil ?_
              refine W.ret ?_
              refine finG (fn := Tryd.f20) (rs := [.cell 4 25, .tmp 5, .tmp 6]) (vs := [_, _, _]) hE rfl ⟨⟨_, rfl, .inl ⟨_, rfl, hS.seesAt 0 rfl, ty25⟩⟩, rfl, rfl, trivial⟩ ?_
              obtain rfl := Option.some.inj hr
              replace hS := hS.tail
              replace hS := hS.tail
              replace hS := hS.tail
              exact ⟨_, s, rfl, (Sg.Le.refl _), ⟨_, _, _, _, rfl, Sl.nil, Sl.nil⟩, hS⟩
            · replace hr := iteF hc106 hr
              refine W.skip ?_
              refine W.seq ?_
              refine W.region ?_
              refine WL.vS hS hE (runs_plain rfl) (Gives.fld hE rfl fl25_0) rfl ?_; clear hE a; intro a hE
              refine WL.vS hS hE (runs_plain rfl) (Gives.loadB hE 2 rfl rfl rfl ty22) rfl ?_; clear hE a; intro a hE
              obtain ⟨q107, hq108, hr⟩ := bindS hr
              have hc_ := SlicesCloneLint_ok hS h0_0 hq108
              refine WL.fnq hE (hc_) (runs_plain rfl) bd24 rfl rfl rfl ?_
              clear hE hS hc_; rintro e w ⟨a109, c110, n111, cs112, rfl, h113, rfl, hS⟩; refine ⟨_, rfl, ?_⟩; clear a; intro a hE
              refine WL.vS hS hE (runs_plain rfl) (Gives.build hE (vs := [(0, .slice a109 q107.length c110)]) [.slice a109 q107.length c110, .slice none 0 0] rfl (by kernel_rfl)) rfl ?_; clear hE a; intro a hE
              refine WL.alloc hE hS (runs_plain rfl) zr25 rfl ?_; clear hE hS a w; intro b115 a w hE hS
              refine WL.storeI hE hS 0 rfl [.slice a109 q107.length c110, .slice none 0 0] (runs_plain rfl) rfl rfl rfl ty25 rfl rfl rfl rfl ?_; clear hE hS a w; intro a w hE hS
              refine WL.nil ?_
              refine W.seq ?_
              refine W.seq ?_
              refine W.region ?_
              refine WL.vS hS hE (runs_plain rfl) (Gives.fld hE rfl fl25_1) rfl ?_; clear hE a; intro a hE
              refine WL.vS hS hE (runs_plain rfl) (Gives.loadB hE 4 rfl rfl rfl ty23) rfl ?_; clear hE a; intro a hE
              refine WL.vS hS hE (runs_plain rfl) (Gives.len hE rfl sl23) rfl ?_; clear hE a; intro a hE
              refine WL.vS hS hE (runs_plain rfl) (Gives.p hE rfl) rfl ?_; clear hE a; intro a hE
              refine WL.nil ?_
              replace hS := hS.nestNil 22 3 1
              obtain ⟨q118, hq117, hr⟩ := bindS hr
              refine W.cut (fun a w => ∃ (q128 : List (List Int)), ∃ (a129 : Option Addr), ∃ (c130 : Nat), ∃ (n131 : Nat), ∃ (ds132 : List In), q128 = q118 ∧ NEv 1 (RI .i64) s ds132 q128 ∧ q128.length = n131 ∧ Rep a 133 [(3, .pointer (some ⟨b52, 0, none⟩)), (4, .pointer (some ⟨b53, 0, none⟩)), (8, .pointer (some ⟨b115, 0, none⟩))] ∧ St w s (nestC 22 3 1 a129 c130 n131 ds132 :: pt b115 (.cells #[.slice a109 q107.length c110, .slice a129 n131 c130] 25 (0, 0)) :: vecC 3 1 a109 c110 q107.length cs112 :: pt b53 (.cells #[.slice none 0 0, .slice none 0 0] 25 (0, 0)) :: pt b52 (.cells (FleetMove.cells x1).toArray 34 (0, 0)) :: pt b51 (.cells #[.slice a0_0 x0.Room.length c0_0, .slice a0_1 x0.Tracks.length c0_1] 25 (0, 0)) :: R)) ?_ ?_
              · refine W.block ?_
                refine W.loop (fun m a w => ∃ (rest121 : List (List Int)) (k119 : Nat), ∃ (q128 : List (List Int)), ∃ (a129 : Option Addr), ∃ (c130 : Nat), ∃ (n131 : Nat), ∃ (ds132 : List In), rest121.length = m ∧ x0.Tracks.drop k119 = rest121 ∧ Fishref2Moved.loop1 rest121 q128 = some q118 ∧ NEv 1 (RI .i64) s ds132 q128 ∧ q128.length = n131 ∧ Rep a 133 [(3, .pointer (some ⟨b52, 0, none⟩)), (4, .pointer (some ⟨b53, 0, none⟩)), (8, .pointer (some ⟨b115, 0, none⟩)), (77, .slice a0_1 x0.Tracks.length c0_1), (78, .int .i64 ((x0.Tracks).length : Int)), (79, .int .i64 ((k119 : Nat) : Int))] ∧ St w s (nestC 22 3 1 a129 c130 n131 ds132 :: pt b115 (.cells #[.slice a109 q107.length c110, .slice a129 n131 c130] 25 (0, 0)) :: vecC 3 1 a109 c110 q107.length cs112 :: pt b53 (.cells #[.slice none 0 0, .slice none 0 0] 25 (0, 0)) :: pt b52 (.cells (FleetMove.cells x1).toArray 34 (0, 0)) :: pt b51 (.cells #[.slice a0_0 x0.Room.length c0_0, .slice a0_1 x0.Tracks.length c0_1] 25 (0, 0)) :: R)) (m := x0.Tracks.length) ⟨x0.Tracks, 0, [], none, 0, 0, [], rfl, rfl, hq117, (NEv.nil), (rfl), hE.pick _ ⟨rfl, rfl, rfl, rfl, rfl, rfl, trivial⟩, hS⟩ ?_
                clear hE hS a w hq117; rintro m125 a w ⟨rest121, k119, q128, a129, c130, n131, ds132, rfl, hd122, hq117, h133, rfl, hE, hS⟩
                refine W.gen fun K135 hK135 => ?_
                rcases rest121 with _ | ⟨x120, rest121⟩
                · have hlt123 := drop_nil hd122
                  refine W.seq ?_
                  refine W.region ?_
                  refine WL.vS hS hE (runs_plain rfl) (Gives.p hE rfl) rfl ?_; clear hE a; intro a hE
                  refine WL.nil ?_
                  refine W.seq ?_
                  refine W.condF hE rfl (decide_eq_false (by omega)) ?_
                  subst hK135
                  refine W.exit rfl ?_
                  exact ⟨q128, a129, c130, q128.length, ds132, Option.some.inj hq117, h133, rfl, hE.pick _ ⟨rfl, rfl, rfl, trivial⟩, hS⟩
                · obtain ⟨hlt123, hx124, hd122⟩ := drop_cons hd122
                  rw [Fishref2Moved.loop1] at hq117
                  refine W.seq ?_
                  refine W.region ?_
                  refine WL.vS hS hE (runs_plain rfl) (Gives.p hE rfl) rfl ?_; clear hE a; intro a hE
                  refine WL.nil ?_
                  refine W.seq ?_
                  refine W.condT hE rfl (decide_eq_true (by omega)) ?_
                  refine W.skip ?_
                  refine W.seq ?_
                  refine W.block ?_
                  refine W.seq ?_
                  refine W.region ?_
                  obtain ⟨cs136, hl137, hR138, hat139⟩ := h0_1.at hx124
                  obtain ⟨a140, c141, rfl, h142⟩ := hR138
                  refine WL.vS hS hE (runs_plain rfl) (Gives.idx hE k119 rfl rfl sl23 rfl hlt123 (h0_1.aok hlt123)) rfl ?_; clear hE a; intro a hE
                  refine WL.vS hS hE (runs_plain rfl) (Gives.load1 hE rfl (fun w h => hat139 w _ h) ty22) rfl ?_; clear hE a; intro a hE
                  refine WL.vS hS hE (runs_plain rfl) (Gives.p hE rfl) rfl ?_; clear hE a; intro a hE
                  refine WL.nil ?_
                  refine W.gen fun K143 hK143 => ?_
                  refine W.regionE (sel (fun w => St w s (nestC 22 3 1 a129 c130 q128.length ds132 :: pt b115 (.cells #[.slice a109 q107.length c110, .slice a129 q128.length c130] 25 (0, 0)) :: vecC 3 1 a109 c110 q107.length cs112 :: pt b53 (.cells #[.slice none 0 0, .slice none 0 0] 25 (0, 0)) :: pt b52 (.cells (FleetMove.cells x1).toArray 34 (0, 0)) :: pt b51 (.cells #[.slice a0_0 x0.Room.length c0_0, .slice a0_1 x0.Tracks.length c0_1] 25 (0, 0)) :: R)) (fun w => St w s (pt b115 (.cells #[.slice a109 q107.length c110, .slice a129 q128.length c130] 25 (0, 0)) :: vecC 3 1 a109 c110 q107.length cs112 :: pt b53 (.cells #[.slice none 0 0, .slice none 0 0] 25 (0, 0)) :: pt b52 (.cells (FleetMove.cells x1).toArray 34 (0, 0)) :: pt b51 (.cells #[.slice a0_0 x0.Room.length c0_0, .slice a0_1 x0.Tracks.length c0_1] 25 (0, 0)) :: R))) (fun b i => cond b ([0, 1, 2, 3, 4, 6].contains i) ([0, 1, 2, 3, 4, 5, 6].contains i)) mixed ?_
                  replace hS := hS.drew
                  refine Rg.takeP (i := 0) hE rfl (by kernel_rfl) (runs_plain rfl) (Gives.fld hE rfl fl25_1) rfl (tw_sel (fun _ => hS) (fun _ => (hS.tail))) ?_; clear hE a; intro a hE
                  have hT := tw_sel (A := fun w => St w s (nestC 22 3 1 a129 c130 q128.length ds132 :: pt b115 (.cells #[.slice a109 q107.length c110, .slice a129 q128.length c130] 25 (0, 0)) :: vecC 3 1 a109 c110 q107.length cs112 :: pt b53 (.cells #[.slice none 0 0, .slice none 0 0] 25 (0, 0)) :: pt b52 (.cells (FleetMove.cells x1).toArray 34 (0, 0)) :: pt b51 (.cells #[.slice a0_0 x0.Room.length c0_0, .slice a0_1 x0.Tracks.length c0_1] 25 (0, 0)) :: R)) (B := fun w => St w s (pt b115 (.cells #[.slice a109 q107.length c110, .slice a129 q128.length c130] 25 (0, 0)) :: vecC 3 1 a109 c110 q107.length cs112 :: pt b53 (.cells #[.slice none 0 0, .slice none 0 0] 25 (0, 0)) :: pt b52 (.cells (FleetMove.cells x1).toArray 34 (0, 0)) :: pt b51 (.cells #[.slice a0_0 x0.Room.length c0_0, .slice a0_1 x0.Tracks.length c0_1] 25 (0, 0)) :: R)) (w := _) (x := true) (y := true) (fun _ => hS) (fun _ => (hS.tail))
                  have hF := hS; replace hS := hS
                  refine Rg.take (i := 1) true rfl hE rfl (by kernel_rfl) (runs_plain rfl) (Gives.loadB hE 1 rfl rfl rfl ty23) rfl hT ?_; clear hE a; intro a hE
                  replace hS := hF; clear hF hT
                  refine Rg.takeP (i := 2) hE rfl (by kernel_rfl) (runs_plain rfl) (Gives.p hE rfl) rfl (tw_sel (fun _ => hS) (fun _ => (hS.tail))) ?_; clear hE a; intro a hE
                  refine Rg.one (i := 3) true true rfl (by kernel_rfl) (by kernel_rfl) (by kernel_rfl) ?_
                  obtain ⟨q144, hq145, hq117⟩ := bindS hq117
                  have hc_ := SlicesCloneLint_ok hS h142 hq145
                  refine WL.fnq hE (hc_) (runs_plain rfl) bd24 rfl rfl rfl ?_
                  clear hE hS hc_; rintro e w ⟨a146, c147, n148, cs149, rfl, h150, rfl, hS⟩; refine ⟨_, rfl, ?_⟩; clear a; intro a hE
                  refine WL.nil ?_
                  refine ⟨⟨fun _ => (hS.tail), fun _ => ((hS.tail).tail)⟩, ?_⟩
                  refine Rg.one (i := 4) true true rfl (by kernel_rfl) (by kernel_rfl) (by kernel_rfl) ?_
                  refine WL.lit hE hS (e := 22) (es := 1) (vs := [(0, .slice a146 q144.length c147)]) (cs := [.slice a146 q144.length c147]) (runs_plain rfl) rfl (by kernel_rfl) rfl ?_; clear hE hS a w; intro b152 a w hE hS
                  refine WL.nil ?_
                  refine ⟨⟨fun _ => ((hS.tail).tail), fun _ => (((hS.tail).tail).tail)⟩, ?_⟩
                  refine Rg.one (i := 5) false true rfl (by kernel_rfl) (by kernel_rfl) (by kernel_rfl) ?_
                  obtain ⟨x153, hx154, hq117⟩ := bindS hq117
                  replace hS := hS.front 1 rfl
                  replace hS := hS.front 1 rfl
                  refine WL.appND hE hS 0 rfl (runs_plain rfl) rfl rfl ap23 h133 rfl h150 rfl hx154 rfl ?_; clear hE hS a w; intro a155 c156 ds157 a w h158 hE hS
                  refine WL.nil ?_
                  refine ⟨⟨fun h => absurd h (by decide), fun _ => (hS.tail)⟩, ?_⟩
                  refine Rg.takeP (i := 6) hE rfl (by kernel_rfl) (runs_plain rfl) (Gives.fld hE rfl fl25_1) rfl (tw_sel (fun h => absurd h (by decide)) (fun _ => (hS.tail))) ?_; clear hE a; intro a hE
                  refine Rg.one (i := 7) false false rfl (by kernel_rfl) (by kernel_rfl) (by kernel_rfl) ?_
                  refine WL.storeI hE hS 1 rfl [.slice a109 q107.length c110, .slice a155 x153.length c156] (runs_plain rfl) rfl rfl rfl ty23 rfl rfl rfl rfl ?_; clear hE hS a w; intro a w hE hS
                  refine WL.nil ?_
                  refine ⟨⟨fun h => absurd h (by decide), fun h => absurd h (by decide)⟩, ?_⟩
                  refine Rg.done (by kernel_rfl) ?_
                  subst hK143
                  refine W.region ?_
                  refine WL.vS hS hE (runs_plain rfl) (Gives.inc hE rfl (by have := h0_1.small; omega)) rfl ?_; clear hE a; intro a hE
                  refine WL.vS hS hE (runs_plain rfl) (Gives.p hE rfl) rfl ?_; clear hE a; intro a hE
                  refine WL.nil ?_
                  subst hK135
                  exact ⟨rest121.length, Nat.lt_succ_self _, rest121, k119 + 1, x153, a155, c156, x153.length, ds157, rfl, hd122, hq117, h158, (rfl), hE.pick _ ⟨rfl, rfl, rfl, rfl, rfl, rfl, trivial⟩, hS⟩
              · clear hE hS a w; rintro a w ⟨q128, a129, c130, n131, ds132, rfl, h133, rfl, hE, hS⟩
                refine W.seq ?_
                refine W.region ?_
                refine WL.vS hS hE (runs_plain rfl) (Gives.fld hE rfl fl25_1) rfl ?_; clear hE a; intro a hE
                refine WL.vS hS hE (runs_plain rfl) (Gives.loadB hE 1 rfl rfl rfl ty23) rfl ?_; clear hE a; intro a hE
                refine WL.vS hS hE (runs_plain rfl) (Gives.fld hE rfl fl34_0) rfl ?_; clear hE a; intro a hE
                refine WL.vS hS hE (runs_plain rfl) (Gives.loadB hE 4 rfl rfl rfl ty3) rfl ?_; clear hE a; intro a hE
                obtain ⟨x159, hx160, hr⟩ := bindS hr
                obtain ⟨hi161, hlt162, hy163⟩ := gx_some hx160
                obtain ⟨a164, c165, cs166, hd167, hev168⟩ := h133.at hy163
                refine WL.vS hS hE (runs_plain rfl) (Gives.idx hE ((x1.From).toNat) rfl rfl sl23 hi161 (by omega) (hS.nAok 0 rfl (by omega : (x1.From).toNat < q128.length))) rfl ?_; clear hE a; intro a hE
                refine WL.vS hS hE (runs_plain rfl) (Gives.load1 (v := .slice a164 x159.length c165) hE rfl (fun w h => St.nSees h 0 rfl hd167) ty22) rfl ?_; clear hE a; intro a hE
                refine WL.vS hS hE (runs_plain rfl) (Gives.p hE rfl) rfl ?_; clear hE a; intro a hE
                refine WL.nil ?_
                refine W.seq ?_
                refine W.region ?_
                refine WL.vS hS hE (runs_plain rfl) (Gives.p hE rfl) rfl ?_; clear hE a; intro a hE
                refine WL.vS hS hE (runs_plain rfl) (Gives.p hE rfl) rfl ?_; clear hE a; intro a hE
                refine WL.vS hS hE (runs_plain rfl) (Gives.len hE rfl sl22) rfl ?_; clear hE a; intro a hE
                refine WL.vS hS hE (runs_plain rfl) (Gives.p hE rfl) rfl ?_; clear hE a; intro a hE
                obtain ⟨x169, hx170, hr⟩ := bindS hr
                obtain ⟨hi171, hlt172, hy173⟩ := gx_some hx170
                obtain ⟨vs174, hl175, hR176, hd177, hget178⟩ := hev168.at hy173
                subst hR176
                refine WL.vS hS hE (runs_plain rfl) (Gives.idx hE ((w64 (((x159).length : Int) - 1)).toNat) rfl rfl sl22 hi171 hlt172 (hS.nnAok 0 rfl hd167 hlt172)) rfl ?_; clear hE a; intro a hE
                refine WL.vS hS hE (runs_plain rfl) (Gives.load1 hE rfl (fun w h => St.nnSees h 0 rfl hd167 ((w64 (((x159).length : Int) - 1)).toNat * 1) _ hget178) ty3) rfl ?_; clear hE a; intro a hE
                refine WL.vS hS hE (runs_plain rfl) (Gives.p hE rfl) rfl ?_; clear hE a; intro a hE
                refine WL.nil ?_
                refine W.seq ?_
                refine W.gen fun K179 hK179 => ?_
                refine W.regionE (sel (fun w => St w s (pt b115 (.cells #[.slice a109 q107.length c110, .slice a129 q128.length c130] 25 (0, 0)) :: vecC 3 1 a109 c110 q107.length cs112 :: pt b53 (.cells #[.slice none 0 0, .slice none 0 0] 25 (0, 0)) :: pt b52 (.cells (FleetMove.cells x1).toArray 34 (0, 0)) :: pt b51 (.cells #[.slice a0_0 x0.Room.length c0_0, .slice a0_1 x0.Tracks.length c0_1] 25 (0, 0)) :: R)) (fun w => St w s (pt b115 (.cells #[.slice a109 q107.length c110, .slice a129 q128.length c130] 25 (0, 0)) :: vecC 3 1 a109 c110 q107.length cs112 :: pt b53 (.cells #[.slice none 0 0, .slice none 0 0] 25 (0, 0)) :: pt b52 (.cells (FleetMove.cells x1).toArray 34 (0, 0)) :: pt b51 (.cells #[.slice a0_0 x0.Room.length c0_0, .slice a0_1 x0.Tracks.length c0_1] 25 (0, 0)) :: R))) (fun b i => cond b ([0, 1, 2, 3, 4, 5, 6, 7, 8, 9, 10].contains i) ([0, 1, 2, 3, 4, 5, 6, 7, 8, 9, 10].contains i)) mixed ?_
                replace hS := hS.drew
                refine Rg.takeP (i := 0) hE rfl (by kernel_rfl) (runs_plain rfl) (Gives.fld hE rfl fl25_1) rfl (tw_sel (fun _ => (hS.tail)) (fun _ => (hS.tail))) ?_; clear hE a; intro a hE
                have hT := tw_sel (A := fun w => St w s (pt b115 (.cells #[.slice a109 q107.length c110, .slice a129 q128.length c130] 25 (0, 0)) :: vecC 3 1 a109 c110 q107.length cs112 :: pt b53 (.cells #[.slice none 0 0, .slice none 0 0] 25 (0, 0)) :: pt b52 (.cells (FleetMove.cells x1).toArray 34 (0, 0)) :: pt b51 (.cells #[.slice a0_0 x0.Room.length c0_0, .slice a0_1 x0.Tracks.length c0_1] 25 (0, 0)) :: R)) (B := fun w => St w s (pt b115 (.cells #[.slice a109 q107.length c110, .slice a129 q128.length c130] 25 (0, 0)) :: vecC 3 1 a109 c110 q107.length cs112 :: pt b53 (.cells #[.slice none 0 0, .slice none 0 0] 25 (0, 0)) :: pt b52 (.cells (FleetMove.cells x1).toArray 34 (0, 0)) :: pt b51 (.cells #[.slice a0_0 x0.Room.length c0_0, .slice a0_1 x0.Tracks.length c0_1] 25 (0, 0)) :: R)) (w := _) (x := true) (y := true) (fun _ => (hS.tail)) (fun _ => (hS.tail))
                have hF := hS; replace hS := (hS.tail)
                refine Rg.take (i := 1) true rfl hE rfl (by kernel_rfl) (runs_plain rfl) (Gives.loadB hE 0 rfl rfl rfl ty23) rfl hT ?_; clear hE a; intro a hE
                replace hS := hF; clear hF hT
                refine Rg.takeP (i := 2) hE rfl (by kernel_rfl) (runs_plain rfl) (Gives.fld hE rfl fl34_0) rfl (tw_sel (fun _ => (hS.tail)) (fun _ => (hS.tail))) ?_; clear hE a; intro a hE
                have hT := tw_sel (A := fun w => St w s (pt b115 (.cells #[.slice a109 q107.length c110, .slice a129 q128.length c130] 25 (0, 0)) :: vecC 3 1 a109 c110 q107.length cs112 :: pt b53 (.cells #[.slice none 0 0, .slice none 0 0] 25 (0, 0)) :: pt b52 (.cells (FleetMove.cells x1).toArray 34 (0, 0)) :: pt b51 (.cells #[.slice a0_0 x0.Room.length c0_0, .slice a0_1 x0.Tracks.length c0_1] 25 (0, 0)) :: R)) (B := fun w => St w s (pt b115 (.cells #[.slice a109 q107.length c110, .slice a129 q128.length c130] 25 (0, 0)) :: vecC 3 1 a109 c110 q107.length cs112 :: pt b53 (.cells #[.slice none 0 0, .slice none 0 0] 25 (0, 0)) :: pt b52 (.cells (FleetMove.cells x1).toArray 34 (0, 0)) :: pt b51 (.cells #[.slice a0_0 x0.Room.length c0_0, .slice a0_1 x0.Tracks.length c0_1] 25 (0, 0)) :: R)) (w := _) (x := true) (y := true) (fun _ => (hS.tail)) (fun _ => (hS.tail))
                have hF := hS; replace hS := (hS.tail)
                refine Rg.take (i := 3) true rfl hE rfl (by kernel_rfl) (runs_plain rfl) (Gives.loadB hE 3 rfl rfl rfl ty3) rfl hT ?_; clear hE a; intro a hE
                replace hS := hF; clear hF hT
                refine Rg.takeP (i := 4) hE rfl (by kernel_rfl) (runs_plain rfl) (Gives.p hE rfl) rfl (tw_sel (fun _ => (hS.tail)) (fun _ => (hS.tail))) ?_; clear hE a; intro a hE
                refine Rg.takeP (i := 5) hE rfl (by kernel_rfl) (runs_plain rfl) (Gives.p hE rfl) rfl (tw_sel (fun _ => (hS.tail)) (fun _ => (hS.tail))) ?_; clear hE a; intro a hE
                refine Rg.takeP (i := 6) hE rfl (by kernel_rfl) (runs_plain rfl) (Gives.len hE rfl sl22) rfl (tw_sel (fun _ => (hS.tail)) (fun _ => (hS.tail))) ?_; clear hE a; intro a hE
                refine Rg.takeP (i := 7) hE rfl (by kernel_rfl) (runs_plain rfl) (Gives.p hE rfl) rfl (tw_sel (fun _ => (hS.tail)) (fun _ => (hS.tail))) ?_; clear hE a; intro a hE
                replace hS := hS.borrowM 0 rfl hd167
                obtain ⟨x181, hx182, hr⟩ := bindS hr
                obtain ⟨_, h183, h184, h185, h186, _⟩ := cutl_some hx182
                have h187 := (hS.vecCap 0 rfl).1
                have h188 : Ev 1 (RI .i64) s (cs166.take ((w64 (((x159).length : Int) - 1)).toNat * 1)) x181 := by rw [h185]; exact hev168.take _
                have hn189 : x181.length = (w64 (((x159).length : Int) - 1)).toNat := by rw [h185]; simp; omega
                replace hS := hS.vecTake 0 rfl (by omega)
                refine Rg.takeP (i := 8) hE rfl (by kernel_rfl) (runs_plain rfl) (Gives.slH hE sl22 rfl rfl h183 (Int.le_trans h184 (by omega)) (sliced_zero _ _ _ _)) rfl (tw_sel (fun _ => ((hS.tail).tail)) (fun _ => ((hS.tail).tail))) ?_; clear hE a; intro a hE
                obtain ⟨_, hx190, hr⟩ := bindS hr
                obtain ⟨h191, h192⟩ := ix_some hx190
                refine Rg.takeP (i := 9) hE rfl (by kernel_rfl) (runs_plain rfl) (Gives.idx hE ((x1.From).toNat) rfl rfl sl23 h191 (by omega) (hS.hAok 1 rfl (by omega : (x1.From).toNat < q128.length))) rfl (tw_sel (fun _ => ((hS.tail).tail)) (fun _ => ((hS.tail).tail))) ?_; clear hE a; intro a hE
                refine Rg.one (i := 10) true true rfl (by kernel_rfl) (by kernel_rfl) (by kernel_rfl) ?_
                obtain ⟨x193, hx194, hr⟩ := bindS hr
                refine WL.storeND hE hS 0 rfl (runs_plain rfl) rfl rfl ty22 h133 rfl (by have := (sx_some hx194).1; omega) hx194 h188 hn189 rfl ?_; clear hE hS a w; intro ds195 a w h196 hn197 hE hS
                refine WL.nil ?_
                refine ⟨⟨fun _ => (hS.tail), fun _ => (hS.tail)⟩, ?_⟩
                refine Rg.done (by kernel_rfl) ?_
                subst hK179
                refine W.seq ?_
                refine W.seq ?_
                refine W.region ?_
                refine WL.vS hS hE (runs_plain rfl) (Gives.fld hE rfl fl34_1) rfl ?_; clear hE a; intro a hE
                refine WL.vS hS hE (runs_plain rfl) (Gives.loadB hE 4 rfl rfl rfl ty3) rfl ?_; clear hE a; intro a hE
                refine WL.vS hS hE (runs_plain rfl) (Gives.p hE rfl) rfl ?_; clear hE a; intro a hE
                refine WL.nil ?_
                refine W.cond hE rfl (fun hc198 => ?_) (fun hc198 => ?_)
                · replace hr := iteT hc198 hr
                  refine W.seq ?_
                  refine W.region ?_
                  refine WL.vS hS hE (runs_plain rfl) (Gives.loadBA hE 1 rfl rfl ty25) rfl ?_; clear hE a; intro a hE
                  refine WL.vS hS hE (runs_plain rfl) (Gives.p hE rfl) rfl ?_; clear hE a; intro a hE
                  refine WL.storeI hE hS 3 rfl [.slice a109 q107.length c110, .slice a129 q128.length c130] (runs_plain rfl) rfl rfl rfl ty25 rfl rfl rfl rfl ?_; clear hE hS a w; intro a w hE hS
                  refine WL.vS hS hE (runs_plain rfl) (Gives.p hE rfl) rfl ?_; clear hE a; intro a hE
                  refine WL.vS hS hE (runs_plain rfl) (Gives.p hE rfl) rfl ?_; clear hE a; intro a hE
                  refine WL.nil ?_
                  refine W.ret ?_
                  have hF := hS.fixD RI.mono 2 rfl h113 rfl; clear hS; obtain ⟨s199, hle200, hS, h201⟩ := hF
                  replace h196 := NEv.mono RI.mono hle200 h196
                  replace h0_0 := Sl.mono RI.mono hle200 h0_0
                  replace h0_1 := Sl.mono (RL.mono RI.mono) hle200 h0_1
                  have hF := hS.fixN RI.mono 0 rfl h196 hn197; clear hS; obtain ⟨s202, hle203, hS, h204⟩ := hF
                  (try rw [← hn197] at hE)
                  (try rw [← hn197] at hS)
                  replace h201 := Sl.mono RI.mono hle203 h201
                  replace h0_0 := Sl.mono RI.mono hle203 h0_0
                  replace h0_1 := Sl.mono (RL.mono RI.mono) hle203 h0_1
                  refine finG (fn := Tryd.f20) (rs := [.cell 4 25, .tmp 5, .tmp 6]) (vs := [_, _, _]) hE rfl ⟨⟨_, rfl, .inl ⟨_, rfl, hS.seesAt 1 rfl, ty25⟩⟩, rfl, rfl, trivial⟩ ?_
                  obtain rfl := Option.some.inj hr
                  replace hS := hS.tail
                  replace hS := hS.tail
                  replace hS := hS.tail
                  replace hS := hS.tail
                  exact ⟨_, s202, rfl, (Sg.Le.trans hle200 hle203), ⟨_, _, _, _, rfl, h201, h204⟩, hS⟩
                · replace hr := iteF hc198 hr
                  refine W.skip ?_
                  refine W.seq ?_
                  refine W.gen fun K205 hK205 => ?_
                  refine W.regionE (sel (fun w => St w s (nestC 22 3 1 a129 c130 q128.length ds195 :: pt b115 (.cells #[.slice a109 q107.length c110, .slice a129 q128.length c130] 25 (0, 0)) :: vecC 3 1 a109 c110 q107.length cs112 :: pt b53 (.cells #[.slice none 0 0, .slice none 0 0] 25 (0, 0)) :: pt b52 (.cells (FleetMove.cells x1).toArray 34 (0, 0)) :: pt b51 (.cells #[.slice a0_0 x0.Room.length c0_0, .slice a0_1 x0.Tracks.length c0_1] 25 (0, 0)) :: R)) (fun w => St w s (pt b115 (.cells #[.slice a109 q107.length c110, .slice a129 q128.length c130] 25 (0, 0)) :: vecC 3 1 a109 c110 q107.length cs112 :: pt b53 (.cells #[.slice none 0 0, .slice none 0 0] 25 (0, 0)) :: pt b52 (.cells (FleetMove.cells x1).toArray 34 (0, 0)) :: pt b51 (.cells #[.slice a0_0 x0.Room.length c0_0, .slice a0_1 x0.Tracks.length c0_1] 25 (0, 0)) :: R))) (fun b i => cond b ([0, 1, 2, 3, 4, 5, 6, 7, 8, 9, 10, 11, 13].contains i) ([0, 1, 2, 3, 4, 5, 6, 7, 8, 9, 10, 11, 12, 13, 14].contains i)) mixed ?_
                  replace hS := hS.drew
                  refine Rg.takeP (i := 0) hE rfl (by kernel_rfl) (runs_plain rfl) (Gives.fld hE rfl fl25_1) rfl (tw_sel (fun _ => hS) (fun _ => (hS.tail))) ?_; clear hE a; intro a hE
                  have hT := tw_sel (A := fun w => St w s (nestC 22 3 1 a129 c130 q128.length ds195 :: pt b115 (.cells #[.slice a109 q107.length c110, .slice a129 q128.length c130] 25 (0, 0)) :: vecC 3 1 a109 c110 q107.length cs112 :: pt b53 (.cells #[.slice none 0 0, .slice none 0 0] 25 (0, 0)) :: pt b52 (.cells (FleetMove.cells x1).toArray 34 (0, 0)) :: pt b51 (.cells #[.slice a0_0 x0.Room.length c0_0, .slice a0_1 x0.Tracks.length c0_1] 25 (0, 0)) :: R)) (B := fun w => St w s (pt b115 (.cells #[.slice a109 q107.length c110, .slice a129 q128.length c130] 25 (0, 0)) :: vecC 3 1 a109 c110 q107.length cs112 :: pt b53 (.cells #[.slice none 0 0, .slice none 0 0] 25 (0, 0)) :: pt b52 (.cells (FleetMove.cells x1).toArray 34 (0, 0)) :: pt b51 (.cells #[.slice a0_0 x0.Room.length c0_0, .slice a0_1 x0.Tracks.length c0_1] 25 (0, 0)) :: R)) (w := _) (x := true) (y := true) (fun _ => hS) (fun _ => (hS.tail))
                  have hF := hS; replace hS := (hS.tail)
                  refine Rg.take (i := 1) false rfl hE rfl (by kernel_rfl) (runs_plain rfl) (Gives.loadB hE 0 rfl rfl rfl ty23) rfl hT ?_; clear hE a; intro a hE
                  replace hS := hF; clear hF hT
                  refine Rg.takeP (i := 2) hE rfl (by kernel_rfl) (runs_plain rfl) (Gives.fld hE rfl fl34_1) rfl (tw_sel (fun _ => hS) (fun _ => (hS.tail))) ?_; clear hE a; intro a hE
                  have hT := tw_sel (A := fun w => St w s (nestC 22 3 1 a129 c130 q128.length ds195 :: pt b115 (.cells #[.slice a109 q107.length c110, .slice a129 q128.length c130] 25 (0, 0)) :: vecC 3 1 a109 c110 q107.length cs112 :: pt b53 (.cells #[.slice none 0 0, .slice none 0 0] 25 (0, 0)) :: pt b52 (.cells (FleetMove.cells x1).toArray 34 (0, 0)) :: pt b51 (.cells #[.slice a0_0 x0.Room.length c0_0, .slice a0_1 x0.Tracks.length c0_1] 25 (0, 0)) :: R)) (B := fun w => St w s (pt b115 (.cells #[.slice a109 q107.length c110, .slice a129 q128.length c130] 25 (0, 0)) :: vecC 3 1 a109 c110 q107.length cs112 :: pt b53 (.cells #[.slice none 0 0, .slice none 0 0] 25 (0, 0)) :: pt b52 (.cells (FleetMove.cells x1).toArray 34 (0, 0)) :: pt b51 (.cells #[.slice a0_0 x0.Room.length c0_0, .slice a0_1 x0.Tracks.length c0_1] 25 (0, 0)) :: R)) (w := _) (x := true) (y := true) (fun _ => hS) (fun _ => (hS.tail))
                  have hF := hS; replace hS := (hS.tail)
                  refine Rg.take (i := 3) false rfl hE rfl (by kernel_rfl) (runs_plain rfl) (Gives.loadB hE 3 rfl rfl rfl ty3) rfl hT ?_; clear hE a; intro a hE
                  replace hS := hF; clear hF hT
                  refine Rg.takeP (i := 4) hE rfl (by kernel_rfl) (runs_plain rfl) (Gives.fld hE rfl fl25_1) rfl (tw_sel (fun _ => hS) (fun _ => (hS.tail))) ?_; clear hE a; intro a hE
                  have hT := tw_sel (A := fun w => St w s (nestC 22 3 1 a129 c130 q128.length ds195 :: pt b115 (.cells #[.slice a109 q107.length c110, .slice a129 q128.length c130] 25 (0, 0)) :: vecC 3 1 a109 c110 q107.length cs112 :: pt b53 (.cells #[.slice none 0 0, .slice none 0 0] 25 (0, 0)) :: pt b52 (.cells (FleetMove.cells x1).toArray 34 (0, 0)) :: pt b51 (.cells #[.slice a0_0 x0.Room.length c0_0, .slice a0_1 x0.Tracks.length c0_1] 25 (0, 0)) :: R)) (B := fun w => St w s (pt b115 (.cells #[.slice a109 q107.length c110, .slice a129 q128.length c130] 25 (0, 0)) :: vecC 3 1 a109 c110 q107.length cs112 :: pt b53 (.cells #[.slice none 0 0, .slice none 0 0] 25 (0, 0)) :: pt b52 (.cells (FleetMove.cells x1).toArray 34 (0, 0)) :: pt b51 (.cells #[.slice a0_0 x0.Room.length c0_0, .slice a0_1 x0.Tracks.length c0_1] 25 (0, 0)) :: R)) (w := _) (x := true) (y := true) (fun _ => hS) (fun _ => (hS.tail))
                  have hF := hS; replace hS := (hS.tail)
                  refine Rg.take (i := 5) false rfl hE rfl (by kernel_rfl) (runs_plain rfl) (Gives.loadB hE 0 rfl rfl rfl ty23) rfl hT ?_; clear hE a; intro a hE
                  replace hS := hF; clear hF hT
                  refine Rg.takeP (i := 6) hE rfl (by kernel_rfl) (runs_plain rfl) (Gives.fld hE rfl fl34_1) rfl (tw_sel (fun _ => hS) (fun _ => (hS.tail))) ?_; clear hE a; intro a hE
                  have hT := tw_sel (A := fun w => St w s (nestC 22 3 1 a129 c130 q128.length ds195 :: pt b115 (.cells #[.slice a109 q107.length c110, .slice a129 q128.length c130] 25 (0, 0)) :: vecC 3 1 a109 c110 q107.length cs112 :: pt b53 (.cells #[.slice none 0 0, .slice none 0 0] 25 (0, 0)) :: pt b52 (.cells (FleetMove.cells x1).toArray 34 (0, 0)) :: pt b51 (.cells #[.slice a0_0 x0.Room.length c0_0, .slice a0_1 x0.Tracks.length c0_1] 25 (0, 0)) :: R)) (B := fun w => St w s (pt b115 (.cells #[.slice a109 q107.length c110, .slice a129 q128.length c130] 25 (0, 0)) :: vecC 3 1 a109 c110 q107.length cs112 :: pt b53 (.cells #[.slice none 0 0, .slice none 0 0] 25 (0, 0)) :: pt b52 (.cells (FleetMove.cells x1).toArray 34 (0, 0)) :: pt b51 (.cells #[.slice a0_0 x0.Room.length c0_0, .slice a0_1 x0.Tracks.length c0_1] 25 (0, 0)) :: R)) (w := _) (x := true) (y := true) (fun _ => hS) (fun _ => (hS.tail))
                  have hF := hS; replace hS := (hS.tail)
                  refine Rg.take (i := 7) false rfl hE rfl (by kernel_rfl) (runs_plain rfl) (Gives.loadB hE 3 rfl rfl rfl ty3) rfl hT ?_; clear hE a; intro a hE
                  replace hS := hF; clear hF hT
                  obtain ⟨x206, hx207, hr⟩ := bindS hr
                  obtain ⟨hi208, hlt209, hy210⟩ := gx_some hx207
                  obtain ⟨a211, c212, cs213, hd214, hev215⟩ := h196.at hy210
                  refine Rg.takeP (i := 8) hE rfl (by kernel_rfl) (runs_plain rfl) (Gives.idx hE ((x1.To).toNat) rfl rfl sl23 hi208 (by have := hn197; omega) (hS.nAok 0 rfl (by have := hn197; omega : (x1.To).toNat < q128.length))) rfl (tw_sel (fun _ => hS) (fun _ => (hS.tail))) ?_; clear hE a; intro a hE
                  have hT := tw_sel (A := fun w => St w s (nestC 22 3 1 a129 c130 q128.length ds195 :: pt b115 (.cells #[.slice a109 q107.length c110, .slice a129 q128.length c130] 25 (0, 0)) :: vecC 3 1 a109 c110 q107.length cs112 :: pt b53 (.cells #[.slice none 0 0, .slice none 0 0] 25 (0, 0)) :: pt b52 (.cells (FleetMove.cells x1).toArray 34 (0, 0)) :: pt b51 (.cells #[.slice a0_0 x0.Room.length c0_0, .slice a0_1 x0.Tracks.length c0_1] 25 (0, 0)) :: R)) (B := fun w => St w s (pt b115 (.cells #[.slice a109 q107.length c110, .slice a129 q128.length c130] 25 (0, 0)) :: vecC 3 1 a109 c110 q107.length cs112 :: pt b53 (.cells #[.slice none 0 0, .slice none 0 0] 25 (0, 0)) :: pt b52 (.cells (FleetMove.cells x1).toArray 34 (0, 0)) :: pt b51 (.cells #[.slice a0_0 x0.Room.length c0_0, .slice a0_1 x0.Tracks.length c0_1] 25 (0, 0)) :: R)) (w := _) (x := true) (y := true) (fun _ => hS) (fun _ => (hS.tail))
                  have hF := hS; replace hS := hS
                  refine Rg.take (i := 9) true rfl hE rfl (by kernel_rfl) (runs_plain rfl) (Gives.load1 (v := .slice a211 x206.length c212) hE rfl (fun w h => St.nSees h 0 rfl hd214) ty22) rfl hT ?_; clear hE a; intro a hE
                  replace hS := hF; clear hF hT
                  refine Rg.takeP (i := 10) hE rfl (by kernel_rfl) (runs_plain rfl) (Gives.p hE rfl) rfl (tw_sel (fun _ => hS) (fun _ => (hS.tail))) ?_; clear hE a; intro a hE
                  refine Rg.one (i := 11) true true rfl (by kernel_rfl) (by kernel_rfl) (by kernel_rfl) ?_
                  refine WL.lit hE hS (e := 3) (es := 1) (vs := [(0, .int .i64 x169)]) (cs := [.int .i64 x169]) (runs_plain rfl) rfl (by kernel_rfl) rfl ?_; clear hE hS a w; intro b216 a w hE hS
                  refine WL.nil ?_
                  refine ⟨⟨fun _ => (hS.tail), fun _ => ((hS.tail).tail)⟩, ?_⟩
                  refine Rg.one (i := 12) false true rfl (by kernel_rfl) (by kernel_rfl) (by kernel_rfl) ?_
                  replace hS := hS.borrowM 1 rfl hd214
                  replace hS := hS.front 1 rfl
                  obtain ⟨x218, hx219, hr⟩ := bindS hr
                  refine WL.appD hE hS 0 (m := 1) (runs_plain rfl) rfl rfl rfl ap22 rfl hev215 (rfl) (xs := [x169]) (Ev.cons (c1 := [.int .i64 x169]) rfl rfl (Ev.nil)) rfl rfl hx219 rfl ?_; clear hE hS a w; intro a220 c221 cs222 a w h223 hE hS
                  refine WL.nil ?_
                  refine ⟨⟨fun h => absurd h (by decide), fun _ => ((hS.tail).tail)⟩, ?_⟩
                  obtain ⟨_, hx224, hr⟩ := bindS hr
                  obtain ⟨h225, h226⟩ := ix_some hx224
                  refine Rg.takeP (i := 13) hE rfl (by kernel_rfl) (runs_plain rfl) (Gives.idx hE ((x1.To).toNat) rfl rfl sl23 h225 (by have := hn197; omega) (hS.hAok 1 rfl (by have := hn197; omega : (x1.To).toNat < q128.length))) rfl (tw_sel (fun h => absurd h (by decide)) (fun _ => ((hS.tail).tail))) ?_; clear hE a; intro a hE
                  refine Rg.one (i := 14) false true rfl (by kernel_rfl) (by kernel_rfl) (by kernel_rfl) ?_
                  obtain ⟨x227, hx228, hr⟩ := bindS hr
                  refine WL.storeND hE hS 0 rfl (runs_plain rfl) rfl rfl ty22 h196 hn197 (by have := (sx_some hx228).1; omega) hx228 h223 (rfl) rfl ?_; clear hE hS a w; intro ds229 a w h230 hn231 hE hS
                  refine WL.nil ?_
                  refine ⟨⟨fun h => absurd h (by decide), fun _ => (hS.tail)⟩, ?_⟩
                  refine Rg.done (by kernel_rfl) ?_
                  subst hK205
                  refine W.seq ?_
                  refine W.region ?_
                  refine WL.vS hS hE (runs_plain rfl) (Gives.loadBA hE 1 rfl rfl ty25) rfl ?_; clear hE a; intro a hE
                  refine WL.storeI hE hS 3 rfl [.slice a109 q107.length c110, .slice a129 q128.length c130] (runs_plain rfl) rfl rfl rfl ty25 rfl rfl rfl rfl ?_; clear hE hS a w; intro a w hE hS
                  refine WL.vS hS hE (runs_plain rfl) (Gives.p hE rfl) rfl ?_; clear hE a; intro a hE
                  refine WL.vS hS hE (runs_plain rfl) (Gives.p hE rfl) rfl ?_; clear hE a; intro a hE
                  refine WL.nil ?_
                  refine W.ret ?_
                  have hF := hS.fixD RI.mono 2 rfl h113 rfl; clear hS; obtain ⟨s232, hle233, hS, h234⟩ := hF
                  replace h230 := NEv.mono RI.mono hle233 h230
                  replace h0_0 := Sl.mono RI.mono hle233 h0_0
                  replace h0_1 := Sl.mono (RL.mono RI.mono) hle233 h0_1
                  have hF := hS.fixN RI.mono 0 rfl h230 hn231; clear hS; obtain ⟨s235, hle236, hS, h237⟩ := hF
                  (try rw [← hn231] at hE)
                  (try rw [← hn231] at hS)
                  replace h234 := Sl.mono RI.mono hle236 h234
                  replace h0_0 := Sl.mono RI.mono hle236 h0_0
                  replace h0_1 := Sl.mono (RL.mono RI.mono) hle236 h0_1
                  refine finG (fn := Tryd.f20) (rs := [.cell 4 25, .tmp 5, .tmp 6]) (vs := [_, _, _]) hE rfl ⟨⟨_, rfl, .inl ⟨_, rfl, hS.seesAt 1 rfl, ty25⟩⟩, rfl, rfl, trivial⟩ ?_
                  obtain rfl := Option.some.inj hr
                  replace hS := hS.tail
                  replace hS := hS.tail
                  replace hS := hS.tail
                  replace hS := hS.tail
                  exact ⟨_, s235, rfl, (Sg.Le.trans hle233 hle236), ⟨_, _, _, _, rfl, h234, h237⟩, hS⟩
set_option maxHeartbeats 8000000 in
theorem Fishref2ShuntOf_ok {fu : Nat}  {w : World} {s : Sg} {R : List HP} {x0 : FleetDepot} {a0_0 : Option Addr} {c0_0 : Nat} {a0_1 : Option Addr} {c0_1 : Nat} {x1 : List Int} {a1 : Option Addr} {c1 : Nat} {x2 : List Int} {a2 : Option Addr} {c2 : Nat} (hS : St w s (R)) (h0_0 : Sl 1 (RI .i64) s a0_0 c0_0 x0.Room) (h0_1 : Sl 1 (RL 1 (RI .i64)) s a0_1 c0_1 x0.Tracks) (h1 : Sl 1 (RI .i64) s a1 c1 x1) (h2 : Sl 1 (RI .i64) s a2 c2 x2) {r : (List FleetMove) × Int} (hr : Fishref2ShuntOf fu x0 x1 x2 = some r) :
    Calls Tryd.prog 7 [.agg [.slice a0_0 x0.Room.length c0_0, .slice a0_1 x0.Tracks.length c0_1].toArray, .slice a1 x1.length c1, .slice a2 x2.length c2].toArray w (fun e w => ∃ (a0 : Option Addr) (c0 : Nat) (t : Sg), e = .returned (.tuple #[.slice a0 r.1.length c0, .int .i64 r.2]) ∧ s.Le t ∧ Sl 2 RFleetMove t a0 c0 r.1 ∧ St w t (R)) := by
  refine enter Tryd.func7 rfl rfl rfl fun a hE => ?_
  rw [Fishref2ShuntOf] at hr
  refine W.seq ?_
  refine W.region ?_
  refine WL.box hE hS (runs_plain rfl) rfl rfl rfl ?_; clear hE hS a w; intro b51 a w hE hS
  refine WL.vS hS hE (runs_plain rfl) (Gives.p hE rfl) rfl ?_; clear hE a; intro a hE
  refine WL.vS hS hE (runs_plain rfl) (Gives.p hE rfl) rfl ?_; clear hE a; intro a hE
  refine WL.nil ?_
  refine W.seq ?_
  refine W.seq ?_
  refine W.region ?_
  refine WL.vS hS hE (runs_plain rfl) (Gives.loadBA hE 0 rfl rfl ty25) rfl ?_; clear hE a; intro a hE
  refine WL.vS hS hE (runs_plain rfl) (Gives.p hE rfl) rfl ?_; clear hE a; intro a hE
  obtain ⟨q52, hq53, hr⟩ := bindS hr
  have hc_ := Fishref2ShuntFault_ok hS h0_0 h0_1 h1 hq53
  refine WL.fnq hE (hc_) (runs_plain rfl) bd5 rfl rfl rfl ?_
  clear hE hS hc_; rintro e w ⟨rfl, hS⟩; refine ⟨_, rfl, ?_⟩; clear a; intro a hE
  refine WL.vS hS hE (runs_plain rfl) (Gives.p hE rfl) rfl ?_; clear hE a; intro a hE
  refine WL.nil ?_
  refine W.seq ?_
  refine W.region ?_
  refine WL.vS hS hE (runs_plain rfl) (Gives.p hE rfl) rfl ?_; clear hE a; intro a hE
  refine WL.vS hS hE (runs_plain rfl) (Gives.p hE rfl) rfl ?_; clear hE a; intro a hE
  refine WL.nil ?_
  refine W.cond hE rfl (fun hc54 => ?_) (fun hc54 => ?_)
  · replace hr := iteT hc54 hr
    refine W.seq ?_
    refine W.region ?_
    refine WL.vS hS hE (runs_plain rfl) (Gives.p hE rfl) rfl ?_; clear hE a; intro a hE
    refine WL.vS hS hE (runs_plain rfl) (Gives.p hE rfl) rfl ?_; clear hE a; intro a hE
    refine WL.vS hS hE (runs_plain rfl) (Gives.p hE rfl) rfl ?_; clear hE a; intro a hE
    refine WL.nil ?_
    refine W.ret ?_
    refine finG (fn := Tryd.f7) (rs := [.tmp 6, .tmp 7]) (vs := [_, _]) hE rfl ⟨rfl, rfl, trivial⟩ ?_
    obtain rfl := Option.some.inj hr
    replace hS := hS.tail
    exact ⟨none, 0, s, rfl, (Sg.Le.refl _), Sl.nil, hS⟩
  · replace hr := iteF hc54 hr
    refine W.skip ?_
    refine W.seq ?_
    refine W.region ?_
    refine WL.vS hS hE (runs_plain rfl) (Gives.loadBA hE 0 rfl rfl ty25) rfl ?_; clear hE a; intro a hE
    refine WL.vS hS hE (runs_plain rfl) (Gives.build hE (vs := [(0, .agg [.slice a0_0 x0.Room.length c0_0, .slice a0_1 x0.Tracks.length c0_1].toArray)]) [.slice a0_0 x0.Room.length c0_0, .slice a0_1 x0.Tracks.length c0_1, .int .i64 0, .slice none 0 0] rfl (by kernel_rfl)) rfl ?_; clear hE a; intro a hE
    refine WL.lit hE hS (e := 59) (es := 4) (vs := [(0, .agg [.slice a0_0 x0.Room.length c0_0, .slice a0_1 x0.Tracks.length c0_1, .int .i64 0, .slice none 0 0].toArray)]) (cs := [.slice a0_0 x0.Room.length c0_0, .slice a0_1 x0.Tracks.length c0_1, .int .i64 0, .slice none 0 0]) (runs_plain rfl) rfl (by kernel_rfl) rfl ?_; clear hE hS a w; intro b55 a w hE hS
    replace hS := hS.ptVec (es := 4) (m := 1) rfl (by decide)
    have h57 : Ev 4 RFishref2Yard s [.slice a0_0 x0.Room.length c0_0, .slice a0_1 x0.Tracks.length c0_1, .int .i64 0, .slice none 0 0] [(Fishref2Yard.mk x0 0 [])] := (Ev.cons (c1 := [.slice a0_0 x0.Room.length c0_0, .slice a0_1 x0.Tracks.length c0_1, .int .i64 0, .slice none 0 0]) ⟨_, _, _, _, _, _, rfl, h0_0, h0_1, Sl.nil⟩ rfl (Ev.nil))
    have hF := hS.fixD RFishref2Yard.mono 0 rfl h57 (rfl); clear hS; obtain ⟨s58, hle59, hS, h60⟩ := hF
    replace h0_0 := Sl.mono RI.mono hle59 h0_0
    replace h0_1 := Sl.mono (RL.mono RI.mono) hle59 h0_1
    replace h1 := Sl.mono RI.mono hle59 h1
    replace h2 := Sl.mono RI.mono hle59 h2
    refine WL.vS hS hE (runs_plain rfl) (Gives.p hE rfl) rfl ?_; clear hE a; intro a hE
    refine WL.nil ?_
    refine W.seq ?_
    refine W.region ?_
    refine WL.mkMap (fk := keyStr.f) (fv := Value.bool) hE hS (runs_plain rfl) rfl ?_; clear hE hS a w; intro b61 a w hE hS
    refine WL.vS hS hE (runs_plain rfl) (Gives.p hE rfl) rfl ?_; clear hE a; intro a hE
    obtain ⟨x62, hx63, hr⟩ := bindS hr
    obtain ⟨hi64, hlt65, hy66⟩ := gx_some hx63
    obtain ⟨cs67, hl68, hR69, hat70⟩ := h60.at hy66
    obtain ⟨a71, c72, a74, c75, a77, c78, rfl, h73, h76, h79⟩ := hR69
    refine WL.vS hS hE (runs_plain rfl) (Gives.idx hE ((0 : Int)).toNat rfl rfl sl60 hi64 hlt65 (h60.aok hlt65)) rfl ?_; clear hE a; intro a hE
    refine WL.vS hS hE (runs_plain rfl) (Gives.loadA hE rfl (fun w h => hat70 w _ h) ty59) rfl ?_; clear hE a; intro a hE
    obtain ⟨q80, hq81, hr⟩ := bindS hr
    have hc_ := Fishref2Yardname_ok hS h73 h76 h79 hq81
    refine WL.fnq hE (hc_) (runs_plain rfl) bd19 rfl rfl rfl ?_
    clear hE hS hc_; rintro e w ⟨rfl, hS⟩; refine ⟨_, rfl, ?_⟩; clear a; intro a hE
    refine WL.mapSet keyStr hE hS 0 (k := q80) (v := true) (.inr rfl) (runs_plain rfl) rfl rfl rfl rfl mp62 rfl ?_; clear hE hS a w; intro a w hE hS
    refine WL.vS hS hE (runs_plain rfl) (Gives.p hE rfl) rfl ?_; clear hE a; intro a hE
    refine WL.vS hS hE (runs_plain rfl) (Gives.p hE rfl) rfl ?_; clear hE a; intro a hE
    refine WL.nil ?_
    refine W.seq ?_
    obtain ⟨q83, hq82, hr⟩ := bindS hr
    refine W.cut (fun a w => ∃ (q88 : List Fishref2Yard), ∃ (q92 : List (ByteArray × Bool)), ∃ (a89 : Option Addr), ∃ (c90 : Nat), ∃ (s86 : Sg), s58.Le s86 ∧ (.next (q88, q92)) = q83 ∧ Sl 4 RFishref2Yard s86 a89 c90 q88 ∧ Rep a 142 [] ∧ St w s86 (mapC keyStr.f Value.bool b61 q92 :: pt b51 (.cells #[.slice a0_0 x0.Room.length c0_0, .slice a0_1 x0.Tracks.length c0_1] 25 (0, 0)) :: R)) ?_ ?_
    · refine W.block ?_
      refine W.loop (fun m a w => ∃ (n84 : Nat), ∃ (q88 : List Fishref2Yard), ∃ (q92 : List (ByteArray × Bool)), ∃ (a89 : Option Addr), ∃ (c90 : Nat), ∃ (s86 : Sg), n84 = m ∧ s58.Le s86 ∧ Fishref2ShuntOf.loop1 x0 x1 x2 fu n84 q88 q92 = some q83 ∧ Sl 4 RFishref2Yard s86 a89 c90 q88 ∧ Rep a 142 [(1, .slice a1 x1.length c1), (2, .slice a2 x2.length c2), (3, .pointer (some ⟨b51, 0, none⟩)), (9, .slice a89 q88.length c90), (10, .map (some b61))] ∧ St w s86 (mapC keyStr.f Value.bool b61 q92 :: pt b51 (.cells #[.slice a0_0 x0.Room.length c0_0, .slice a0_1 x0.Tracks.length c0_1] 25 (0, 0)) :: R)) (m := fu) ⟨fu, [(Fishref2Yard.mk x0 0 [])], (mput [] q80 true), (some ⟨b55, 0, none⟩), 1, s58, rfl, (Sg.Le.refl _), hq82, h60, hE.pick _ ⟨rfl, rfl, rfl, rfl, rfl, trivial⟩, hS⟩ ?_
      clear hE hS a w hq82; rintro m85 a w ⟨n84, q88, q92, a89, c90, s86, rfl, hle87, hq82, h91, hE, hS⟩
      refine W.gen fun K93 hK93 => ?_
      replace h0_0 := Sl.mono RI.mono hle87 h0_0
      replace h0_1 := Sl.mono (RL.mono RI.mono) hle87 h0_1
      replace h1 := Sl.mono RI.mono hle87 h1
      replace h2 := Sl.mono RI.mono hle87 h2
      replace h60 := Sl.mono RFishref2Yard.mono hle87 h60
      replace h73 := Sl.mono RI.mono hle87 h73
      replace h76 := Sl.mono (RL.mono RI.mono) hle87 h76
      replace h79 := Sl.mono RFleetMove.mono hle87 h79
      rcases n84 with _ | n84
      · rw [Fishref2ShuntOf.loop1] at hq82; exact absurd hq82 (by simp)
      rw [Fishref2ShuntOf.loop1] at hq82
      refine W.seq ?_
      refine W.seq ?_
      refine W.region ?_
      refine WL.vS hS hE (runs_plain rfl) (Gives.p hE rfl) rfl ?_; clear hE a; intro a hE
      refine WL.vS hS hE (runs_plain rfl) (Gives.len hE rfl sl60) rfl ?_; clear hE a; intro a hE
      refine WL.vS hS hE (runs_plain rfl) (Gives.p hE rfl) rfl ?_; clear hE a; intro a hE
      refine WL.nil ?_
      refine W.cond hE rfl (fun hc94 => ?_) (fun hc94 => ?_)
      · replace hq82 := iteT hc94 hq82
        refine W.skip ?_
        refine W.block ?_
        refine W.seq ?_
        refine W.seq ?_
        refine W.region ?_
        refine WL.vS hS hE (runs_plain rfl) (Gives.p hE rfl) rfl ?_; clear hE a; intro a hE
        refine WL.vS hS hE (runs_plain rfl) (Gives.len hE rfl sl60) rfl ?_; clear hE a; intro a hE
        refine WL.vS hS hE (runs_plain rfl) (Gives.p hE rfl) rfl ?_; clear hE a; intro a hE
        refine WL.nil ?_
        obtain ⟨q96, hq95, hq82⟩ := bndS hq82
        refine W.cut (fun a w => (.next ()) = q96 ∧ Rep a 142 [(1, .slice a1 x1.length c1), (2, .slice a2 x2.length c2), (3, .pointer (some ⟨b51, 0, none⟩)), (9, .slice a89 q88.length c90), (10, .map (some b61))] ∧ St w s86 (mapC keyStr.f Value.bool b61 q92 :: pt b51 (.cells #[.slice a0_0 x0.Room.length c0_0, .slice a0_1 x0.Tracks.length c0_1] 25 (0, 0)) :: R)) ?_ ?_
        · refine W.block ?_
          refine W.loop (fun m a w => ∃ (rest99 : List Fishref2Yard) (k97 : Nat), rest99.length = m ∧ q88.drop k97 = rest99 ∧ Fishref2ShuntOf.loop2 x2 rest99 = q96 ∧ Rep a 142 [(1, .slice a1 x1.length c1), (2, .slice a2 x2.length c2), (3, .pointer (some ⟨b51, 0, none⟩)), (9, .slice a89 q88.length c90), (10, .map (some b61)), (41, .slice a89 q88.length c90), (42, .int .i64 ((q88).length : Int)), (43, .int .i64 ((k97 : Nat) : Int))] ∧ St w s86 (mapC keyStr.f Value.bool b61 q92 :: pt b51 (.cells #[.slice a0_0 x0.Room.length c0_0, .slice a0_1 x0.Tracks.length c0_1] 25 (0, 0)) :: R)) (m := q88.length) ⟨q88, 0, rfl, rfl, hq95, hE.pick _ ⟨rfl, rfl, rfl, rfl, rfl, rfl, rfl, rfl, trivial⟩, hS⟩ ?_
          clear hE hS a w hq95; rintro m103 a w ⟨rest99, k97, rfl, hd100, hq95, hE, hS⟩
          refine W.gen fun K106 hK106 => ?_
          rcases rest99 with _ | ⟨x98, rest99⟩
          · have hlt101 := drop_nil hd100
            refine W.seq ?_
            refine W.region ?_
            refine WL.vS hS hE (runs_plain rfl) (Gives.p hE rfl) rfl ?_; clear hE a; intro a hE
            refine WL.nil ?_
            refine W.seq ?_
            refine W.condF hE rfl (decide_eq_false (by omega)) ?_
            subst hK106
            refine W.exit rfl ?_
            exact ⟨hq95, hE.pick _ ⟨rfl, rfl, rfl, rfl, rfl, trivial⟩, hS⟩
          · obtain ⟨hlt101, hx102, hd100⟩ := drop_cons hd100
            rw [Fishref2ShuntOf.loop2] at hq95
            refine W.seq ?_
            refine W.region ?_
            refine WL.vS hS hE (runs_plain rfl) (Gives.p hE rfl) rfl ?_; clear hE a; intro a hE
            refine WL.nil ?_
            refine W.seq ?_
            refine W.condT hE rfl (decide_eq_true (by omega)) ?_
            refine W.skip ?_
            refine W.seq ?_
            refine W.block ?_
            refine W.seq ?_
            refine W.region ?_
            obtain ⟨cs107, hl108, hR109, hat110⟩ := h91.at hx102
            obtain ⟨a111, c112, a114, c115, a117, c118, rfl, h113, h116, h119⟩ := hR109
            refine WL.vS hS hE (runs_plain rfl) (Gives.idx hE k97 rfl rfl sl60 rfl hlt101 (h91.aok hlt101)) rfl ?_; clear hE a; intro a hE
            refine WL.vS hS hE (runs_plain rfl) (Gives.loadA hE rfl (fun w h => hat110 w _ h) ty59) rfl ?_; clear hE a; intro a hE
            refine WL.alloc hE hS (runs_plain rfl) zr59 rfl ?_; clear hE hS a w; intro b120 a w hE hS
            refine WL.storeI hE hS 0 rfl [.slice a111 x98.d.Room.length c112, .slice a114 x98.d.Tracks.length c115, .int .i64 x98.gone, .slice a117 x98.moves.length c118] (runs_plain rfl) rfl rfl rfl ty59 rfl rfl rfl rfl ?_; clear hE hS a w; intro a w hE hS
            refine WL.nil ?_
            refine W.seq ?_
            refine W.region ?_
            refine WL.vS hS hE (runs_plain rfl) (Gives.fld hE rfl fl59_1) rfl ?_; clear hE a; intro a hE
            refine WL.vS hS hE (runs_plain rfl) (Gives.loadB hE 0 rfl rfl rfl ty3) rfl ?_; clear hE a; intro a hE
            refine WL.vS hS hE (runs_plain rfl) (Gives.p hE rfl) rfl ?_; clear hE a; intro a hE
            refine WL.vS hS hE (runs_plain rfl) (Gives.len hE rfl sl22) rfl ?_; clear hE a; intro a hE
            refine WL.vS hS hE (runs_plain rfl) (Gives.p hE rfl) rfl ?_; clear hE a; intro a hE
            refine WL.nil ?_
            refine W.cond hE rfl (fun hc121 => ?_) (fun hc121 => ?_)
            · replace hq95 := iteT hc121 hq95
              refine W.seq ?_
              refine W.region ?_
              refine WL.vS hS hE (runs_plain rfl) (Gives.fld hE rfl fl59_2) rfl ?_; clear hE a; intro a hE
              refine WL.vS hS hE (runs_plain rfl) (Gives.loadB hE 0 rfl rfl rfl ty26) rfl ?_; clear hE a; intro a hE
              refine WL.vS hS hE (runs_plain rfl) (Gives.p hE rfl) rfl ?_; clear hE a; intro a hE
              refine WL.vS hS hE (runs_plain rfl) (Gives.p hE rfl) rfl ?_; clear hE a; intro a hE
              refine WL.nil ?_
              refine W.ret ?_
              subst hK106
              subst hK93
              rw [← hq95] at hq82
              dsimp only at hq82
              rw [← Option.some.inj hq82] at hr
              dsimp only at hr
              refine finG (fn := Tryd.f7) (rs := [.tmp 6, .tmp 7]) (vs := [_, _]) hE rfl ⟨rfl, rfl, trivial⟩ ?_
              obtain rfl := Option.some.inj hr
              replace hS := hS.tail
              replace hS := hS.tail
              replace hS := hS.tail
              exact ⟨a117, c118, s86, rfl, (Sg.Le.trans hle59 hle87), h119, hS⟩
            · replace hq95 := iteF hc121 hq95
              refine W.skip ?_
              refine W.region ?_
              refine WL.vS hS hE (runs_plain rfl) (Gives.inc hE rfl (by have := h91.small; omega)) rfl ?_; clear hE a; intro a hE
              refine WL.vS hS hE (runs_plain rfl) (Gives.p hE rfl) rfl ?_; clear hE a; intro a hE
              refine WL.nil ?_
              replace hS := hS.tail
              subst hK106
              exact ⟨rest99.length, Nat.lt_succ_self _, rest99, k97 + 1, rfl, hd100, hq95, hE.pick _ ⟨rfl, rfl, rfl, rfl, rfl, rfl, rfl, rfl, trivial⟩, hS⟩
        · clear hE hS a w; rintro a w ⟨rfl, hE, hS⟩
          dsimp only at hq82
          refine W.seq ?_
          refine W.region ?_
          replace hS := hS.vecNil 59 4
          refine WL.vS hS hE (runs_plain rfl) (Gives.p hE rfl) rfl ?_; clear hE a; intro a hE
          refine WL.nil ?_
          refine W.seq ?_
          refine W.seq ?_
          refine W.region ?_
          refine WL.vS hS hE (runs_plain rfl) (Gives.p hE rfl) rfl ?_; clear hE a; intro a hE
          refine WL.vS hS hE (runs_plain rfl) (Gives.len hE rfl sl60) rfl ?_; clear hE a; intro a hE
          refine WL.vS hS hE (runs_plain rfl) (Gives.p hE rfl) rfl ?_; clear hE a; intro a hE
          refine WL.nil ?_
          obtain ⟨q124, hq123, hq82⟩ := bindS hq82
          refine W.cut (fun a w => ∃ (q134 : List Fishref2Yard), ∃ (q141 : List (ByteArray × Bool)), ∃ (a135 : Option Addr), ∃ (c136 : Nat), ∃ (n138 : Nat), ∃ (cs139 : List Value), ∃ (s132 : Sg), s86.Le s132 ∧ (q134, q141) = q124 ∧ Ev 4 RFishref2Yard s132 cs139 q134 ∧ q134.length = n138 ∧ Rep a 142 [(1, .slice a1 x1.length c1), (2, .slice a2 x2.length c2), (3, .pointer (some ⟨b51, 0, none⟩)), (10, .map (some b61)), (13, .slice a135 n138 c136)] ∧ St w s132 (vecC 59 4 a135 c136 n138 cs139 :: mapC keyStr.f Value.bool b61 q141 :: pt b51 (.cells #[.slice a0_0 x0.Room.length c0_0, .slice a0_1 x0.Tracks.length c0_1] 25 (0, 0)) :: R)) ?_ ?_
          · refine W.block ?_
            refine W.loop (fun m a w => ∃ (rest127 : List Fishref2Yard) (k125 : Nat), ∃ (q134 : List Fishref2Yard), ∃ (q141 : List (ByteArray × Bool)), ∃ (a135 : Option Addr), ∃ (c136 : Nat), ∃ (n138 : Nat), ∃ (cs139 : List Value), ∃ (s132 : Sg), rest127.length = m ∧ q88.drop k125 = rest127 ∧ s86.Le s132 ∧ Fishref2ShuntOf.loop3 x0 x1 x2 fu rest127 q134 q141 = some q124 ∧ Ev 4 RFishref2Yard s132 cs139 q134 ∧ q134.length = n138 ∧ Rep a 142 [(1, .slice a1 x1.length c1), (2, .slice a2 x2.length c2), (3, .pointer (some ⟨b51, 0, none⟩)), (10, .map (some b61)), (13, .slice a135 n138 c136), (55, .slice a89 q88.length c90), (56, .int .i64 ((q88).length : Int)), (57, .int .i64 ((k125 : Nat) : Int))] ∧ St w s132 (vecC 59 4 a135 c136 n138 cs139 :: mapC keyStr.f Value.bool b61 q141 :: pt b51 (.cells #[.slice a0_0 x0.Room.length c0_0, .slice a0_1 x0.Tracks.length c0_1] 25 (0, 0)) :: R)) (m := q88.length) ⟨q88, 0, [], q92, none, 0, 0, [], s86, rfl, rfl, (Sg.Le.refl _), hq123, (Ev.nil), (rfl), hE.pick _ ⟨rfl, rfl, rfl, rfl, rfl, rfl, rfl, rfl, trivial⟩, hS⟩ ?_
            clear hE hS a w hq123; rintro m131 a w ⟨rest127, k125, q134, q141, a135, c136, n138, cs139, s132, rfl, hd128, hle133, hq123, h137, rfl, hE, hS⟩
            refine W.gen fun K142 hK142 => ?_
            replace h1 := Sl.mono RI.mono hle133 h1
            replace h2 := Sl.mono RI.mono hle133 h2
            replace h91 := Sl.mono RFishref2Yard.mono hle133 h91
            replace h0_0 := Sl.mono RI.mono hle133 h0_0
            replace h0_1 := Sl.mono (RL.mono RI.mono) hle133 h0_1
            rcases rest127 with _ | ⟨x126, rest127⟩
            · have hlt129 := drop_nil hd128
              refine W.seq ?_
              refine W.region ?_
              refine WL.vS hS hE (runs_plain rfl) (Gives.p hE rfl) rfl ?_; clear hE a; intro a hE
              refine WL.nil ?_
              refine W.seq ?_
              refine W.condF hE rfl (decide_eq_false (by omega)) ?_
              subst hK142
              refine W.exit rfl ?_
              exact ⟨q134, q141, a135, c136, q134.length, cs139, s132, hle133, Option.some.inj hq123, h137, rfl, hE.pick _ ⟨rfl, rfl, rfl, rfl, rfl, trivial⟩, hS⟩
            · obtain ⟨hlt129, hx130, hd128⟩ := drop_cons hd128
              rw [Fishref2ShuntOf.loop3] at hq123
              refine W.seq ?_
              refine W.region ?_
              refine WL.vS hS hE (runs_plain rfl) (Gives.p hE rfl) rfl ?_; clear hE a; intro a hE
              refine WL.nil ?_
              refine W.seq ?_
              refine W.condT hE rfl (decide_eq_true (by omega)) ?_
              refine W.skip ?_
              refine W.seq ?_
              refine W.block ?_
              refine W.seq ?_
              refine W.region ?_
              obtain ⟨cs143, hl144, hR145, hat146⟩ := h91.at hx130
              obtain ⟨a147, c148, a150, c151, a153, c154, rfl, h149, h152, h155⟩ := hR145
              refine WL.vS hS hE (runs_plain rfl) (Gives.idx hE k125 rfl rfl sl60 rfl hlt129 (h91.aok hlt129)) rfl ?_; clear hE a; intro a hE
              refine WL.vS hS hE (runs_plain rfl) (Gives.loadA hE rfl (fun w h => hat146 w _ h) ty59) rfl ?_; clear hE a; intro a hE
              refine WL.alloc hE hS (runs_plain rfl) zr59 rfl ?_; clear hE hS a w; intro b156 a w hE hS
              refine WL.storeI hE hS 0 rfl [.slice a147 x126.d.Room.length c148, .slice a150 x126.d.Tracks.length c151, .int .i64 x126.gone, .slice a153 x126.moves.length c154] (runs_plain rfl) rfl rfl rfl ty59 rfl rfl rfl rfl ?_; clear hE hS a w; intro a w hE hS
              refine WL.nil ?_
              refine W.seq ?_
              refine W.region ?_
              refine WL.vS hS hE (runs_plain rfl) (Gives.fld hE rfl fl25_0) rfl ?_; clear hE a; intro a hE
              refine WL.vS hS hE (runs_plain rfl) (Gives.loadB hE 3 rfl rfl rfl ty22) rfl ?_; clear hE a; intro a hE
              refine WL.vS hS hE (runs_plain rfl) (Gives.len hE rfl sl22) rfl ?_; clear hE a; intro a hE
              refine WL.vS hS hE (runs_plain rfl) (Gives.p hE rfl) rfl ?_; clear hE a; intro a hE
              refine WL.nil ?_
              obtain ⟨q158, hq157, hq123⟩ := bindS hq123
              refine W.cut (fun a w => ∃ (q168 : List Fishref2Yard), ∃ (q175 : List (ByteArray × Bool)), ∃ (a169 : Option Addr), ∃ (c170 : Nat), ∃ (n172 : Nat), ∃ (cs173 : List Value), ∃ (s166 : Sg), s132.Le s166 ∧ (q168, q175) = q158 ∧ Ev 4 RFishref2Yard s166 cs173 q168 ∧ q168.length = n172 ∧ Rep a 142 [(1, .slice a1 x1.length c1), (2, .slice a2 x2.length c2), (3, .pointer (some ⟨b51, 0, none⟩)), (10, .map (some b61)), (13, .slice a169 n172 c170), (55, .slice a89 q88.length c90), (56, .int .i64 ((q88).length : Int)), (57, .int .i64 ((k125 : Nat) : Int))] ∧ St w s166 (pt b156 (.cells #[.slice a147 x126.d.Room.length c148, .slice a150 x126.d.Tracks.length c151, .int .i64 x126.gone, .slice a153 x126.moves.length c154] 59 (0, 0)) :: vecC 59 4 a169 c170 n172 cs173 :: mapC keyStr.f Value.bool b61 q175 :: pt b51 (.cells #[.slice a0_0 x0.Room.length c0_0, .slice a0_1 x0.Tracks.length c0_1] 25 (0, 0)) :: R)) ?_ ?_
              · refine W.block ?_
                refine W.loop (fun m a w => ∃ (rest161 : List Int) (k159 : Nat), ∃ (q168 : List Fishref2Yard), ∃ (q175 : List (ByteArray × Bool)), ∃ (a169 : Option Addr), ∃ (c170 : Nat), ∃ (n172 : Nat), ∃ (cs173 : List Value), ∃ (s166 : Sg), rest161.length = m ∧ x0.Room.drop k159 = rest161 ∧ s132.Le s166 ∧ Fishref2ShuntOf.loop4 x0 x1 x2 fu x126 rest161 k159 q168 q175 = some q158 ∧ Ev 4 RFishref2Yard s166 cs173 q168 ∧ q168.length = n172 ∧ Rep a 142 [(1, .slice a1 x1.length c1), (2, .slice a2 x2.length c2), (3, .pointer (some ⟨b51, 0, none⟩)), (10, .map (some b61)), (13, .slice a169 n172 c170), (15, .pointer (some ⟨b156, 0, none⟩)), (55, .slice a89 q88.length c90), (56, .int .i64 ((q88).length : Int)), (57, .int .i64 ((k125 : Nat) : Int)), (63, .int .i64 ((x0.Room).length : Int)), (64, .int .i64 ((k159 : Nat) : Int))] ∧ St w s166 (pt b156 (.cells #[.slice a147 x126.d.Room.length c148, .slice a150 x126.d.Tracks.length c151, .int .i64 x126.gone, .slice a153 x126.moves.length c154] 59 (0, 0)) :: vecC 59 4 a169 c170 n172 cs173 :: mapC keyStr.f Value.bool b61 q175 :: pt b51 (.cells #[.slice a0_0 x0.Room.length c0_0, .slice a0_1 x0.Tracks.length c0_1] 25 (0, 0)) :: R)) (m := x0.Room.length) ⟨x0.Room, 0, q134, q141, a135, c136, q134.length, cs139, s132, rfl, rfl, (Sg.Le.refl _), hq157, h137, rfl, hE.pick _ ⟨rfl, rfl, rfl, rfl, rfl, rfl, rfl, rfl, rfl, rfl, rfl, trivial⟩, hS⟩ ?_
                clear hE hS a w hq157; rintro m165 a w ⟨rest161, k159, q168, q175, a169, c170, n172, cs173, s166, rfl, hd162, hle167, hq157, h171, rfl, hE, hS⟩
                refine W.gen fun K176 hK176 => ?_
                replace h1 := Sl.mono RI.mono hle167 h1
                replace h2 := Sl.mono RI.mono hle167 h2
                replace h91 := Sl.mono RFishref2Yard.mono hle167 h91
                replace h149 := Sl.mono RI.mono hle167 h149
                replace h152 := Sl.mono (RL.mono RI.mono) hle167 h152
                replace h155 := Sl.mono RFleetMove.mono hle167 h155
                replace h0_0 := Sl.mono RI.mono hle167 h0_0
                replace h137 := Ev.mono RFishref2Yard.mono hle167 h137
                replace h0_1 := Sl.mono (RL.mono RI.mono) hle167 h0_1
                rcases rest161 with _ | ⟨x160, rest161⟩
                · have hlt163 := drop_nil hd162
                  refine W.seq ?_
                  refine W.region ?_
                  refine WL.vS hS hE (runs_plain rfl) (Gives.p hE rfl) rfl ?_; clear hE a; intro a hE
                  refine WL.nil ?_
                  refine W.seq ?_
                  refine W.condF hE rfl (decide_eq_false (by omega)) ?_
                  subst hK176
                  refine W.exit rfl ?_
                  exact ⟨q168, q175, a169, c170, q168.length, cs173, s166, hle167, Option.some.inj hq157, h171, rfl, hE.pick _ ⟨rfl, rfl, rfl, rfl, rfl, rfl, rfl, rfl, trivial⟩, hS⟩
                · obtain ⟨hlt163, hx164, hd162⟩ := drop_cons hd162
                  rw [Fishref2ShuntOf.loop4] at hq157
                  refine W.seq ?_
                  refine W.region ?_
                  refine WL.vS hS hE (runs_plain rfl) (Gives.p hE rfl) rfl ?_; clear hE a; intro a hE
                  refine WL.nil ?_
                  refine W.seq ?_
                  refine W.condT hE rfl (decide_eq_true (by omega)) ?_
                  refine W.skip ?_
                  refine W.seq ?_
                  refine W.block ?_
                  refine W.seq ?_
                  refine W.region ?_
                  refine WL.vS hS hE (runs_plain rfl) (Gives.p hE rfl) rfl ?_; clear hE a; intro a hE
                  refine WL.vS hS hE (runs_plain rfl) (Gives.p hE rfl) rfl ?_; clear hE a; intro a hE
                  refine WL.nil ?_
                  refine W.seq ?_
                  refine W.region ?_
                  refine WL.vS hS hE (runs_plain rfl) (Gives.p hE rfl) rfl ?_; clear hE a; intro a hE
                  refine WL.nil ?_
                  obtain ⟨q178, hq177, hq157⟩ := bindS hq157
                  refine W.cut (fun a w => ∃ (q183 : List Fishref2Yard), ∃ (q190 : Int), ∃ (q191 : List (ByteArray × Bool)), ∃ (a184 : Option Addr), ∃ (c185 : Nat), ∃ (n187 : Nat), ∃ (cs188 : List Value), ∃ (s181 : Sg), s166.Le s181 ∧ (q183, q190, q191) = q178 ∧ Ev 4 RFishref2Yard s181 cs188 q183 ∧ q183.length = n187 ∧ Rep a 142 [(1, .slice a1 x1.length c1), (2, .slice a2 x2.length c2), (3, .pointer (some ⟨b51, 0, none⟩)), (10, .map (some b61)), (13, .slice a184 n187 c185), (15, .pointer (some ⟨b156, 0, none⟩)), (55, .slice a89 q88.length c90), (56, .int .i64 ((q88).length : Int)), (57, .int .i64 ((k125 : Nat) : Int)), (63, .int .i64 ((x0.Room).length : Int)), (64, .int .i64 ((k159 : Nat) : Int))] ∧ St w s181 (pt b156 (.cells #[.slice a147 x126.d.Room.length c148, .slice a150 x126.d.Tracks.length c151, .int .i64 x126.gone, .slice a153 x126.moves.length c154] 59 (0, 0)) :: vecC 59 4 a184 c185 n187 cs188 :: mapC keyStr.f Value.bool b61 q191 :: pt b51 (.cells #[.slice a0_0 x0.Room.length c0_0, .slice a0_1 x0.Tracks.length c0_1] 25 (0, 0)) :: R)) ?_ ?_
                  · refine W.block ?_
                    refine W.loop (fun m a w => ∃ (n179 : Nat), ∃ (q183 : List Fishref2Yard), ∃ (q190 : Int), ∃ (q191 : List (ByteArray × Bool)), ∃ (a184 : Option Addr), ∃ (c185 : Nat), ∃ (n187 : Nat), ∃ (cs188 : List Value), ∃ (s181 : Sg), n179 = m ∧ s166.Le s181 ∧ Fishref2ShuntOf.loop5 x0 x1 x2 x126 k159 n179 q183 q190 q191 = some q178 ∧ Ev 4 RFishref2Yard s181 cs188 q183 ∧ q183.length = n187 ∧ Rep a 142 [(1, .slice a1 x1.length c1), (2, .slice a2 x2.length c2), (3, .pointer (some ⟨b51, 0, none⟩)), (10, .map (some b61)), (13, .slice a184 n187 c185), (15, .pointer (some ⟨b156, 0, none⟩)), (16, .int .i64 ((k159 : Nat) : Int)), (17, .int .i64 q190), (55, .slice a89 q88.length c90), (56, .int .i64 ((q88).length : Int)), (57, .int .i64 ((k125 : Nat) : Int)), (63, .int .i64 ((x0.Room).length : Int)), (64, .int .i64 ((k159 : Nat) : Int))] ∧ St w s181 (pt b156 (.cells #[.slice a147 x126.d.Room.length c148, .slice a150 x126.d.Tracks.length c151, .int .i64 x126.gone, .slice a153 x126.moves.length c154] 59 (0, 0)) :: vecC 59 4 a184 c185 n187 cs188 :: mapC keyStr.f Value.bool b61 q191 :: pt b51 (.cells #[.slice a0_0 x0.Room.length c0_0, .slice a0_1 x0.Tracks.length c0_1] 25 (0, 0)) :: R)) (m := fu) ⟨fu, q168, (-1), q175, a169, c170, q168.length, cs173, s166, rfl, (Sg.Le.refl _), hq177, h171, rfl, hE.pick _ ⟨rfl, rfl, rfl, rfl, rfl, rfl, rfl, rfl, rfl, rfl, rfl, rfl, rfl, trivial⟩, hS⟩ ?_
                    clear hE hS a w hq177; rintro m180 a w ⟨n179, q183, q190, q191, a184, c185, n187, cs188, s181, rfl, hle182, hq177, h186, rfl, hE, hS⟩
                    refine W.gen fun K192 hK192 => ?_
                    replace h1 := Sl.mono RI.mono hle182 h1
                    replace h2 := Sl.mono RI.mono hle182 h2
                    replace h91 := Sl.mono RFishref2Yard.mono hle182 h91
                    replace h149 := Sl.mono RI.mono hle182 h149
                    replace h152 := Sl.mono (RL.mono RI.mono) hle182 h152
                    replace h155 := Sl.mono RFleetMove.mono hle182 h155
                    replace h171 := Ev.mono RFishref2Yard.mono hle182 h171
                    replace h0_0 := Sl.mono RI.mono hle182 h0_0
                    replace h0_1 := Sl.mono (RL.mono RI.mono) hle182 h0_1
                    rcases n179 with _ | n179
                    · rw [Fishref2ShuntOf.loop5] at hq177; exact absurd hq177 (by simp)
                    rw [Fishref2ShuntOf.loop5] at hq177
                    refine W.seq ?_
                    refine W.seq ?_
                    refine W.region ?_
                    refine WL.vS hS hE (runs_plain rfl) (Gives.p hE rfl) rfl ?_; clear hE a; intro a hE
                    refine WL.vS hS hE (runs_plain rfl) (Gives.fld hE rfl fl25_0) rfl ?_; clear hE a; intro a hE
                    refine WL.vS hS hE (runs_plain rfl) (Gives.loadB hE 3 rfl rfl rfl ty22) rfl ?_; clear hE a; intro a hE
                    refine WL.vS hS hE (runs_plain rfl) (Gives.len hE rfl sl22) rfl ?_; clear hE a; intro a hE
                    refine WL.vS hS hE (runs_plain rfl) (Gives.p hE rfl) rfl ?_; clear hE a; intro a hE
                    refine WL.nil ?_
                    refine W.cond hE rfl (fun hc193 => ?_) (fun hc193 => ?_)
                    · replace hq177 := iteT hc193 hq177
                      refine W.skip ?_
                      refine W.seq ?_
                      refine W.block ?_
                      refine W.seq ?_
                      refine W.region ?_
                      refine WL.vS hS hE (runs_plain rfl) (Gives.fld hE rfl fl59_0) rfl ?_; clear hE a; intro a hE
                      refine WL.vS hS hE (runs_plain rfl) (Gives.loadA (cs := [.slice a147 x126.d.Room.length c148, .slice a150 x126.d.Tracks.length c151]) hE rfl (fun w h => (St.seesAt h 0 rfl).part 0 2) ty25) rfl ?_; clear hE a; intro a hE
                      refine WL.vS hS hE (runs_plain rfl) (Gives.p hE rfl) rfl ?_; clear hE a; intro a hE
                      refine WL.vS hS hE (runs_plain rfl) (Gives.p hE rfl) rfl ?_; clear hE a; intro a hE
                      refine WL.vS hS hE (runs_plain rfl) (Gives.build hE (vs := [(0, .int .i64 ((k159 : Nat) : Int)), (1, .int .i64 q190)]) [.int .i64 ((k159 : Nat) : Int), .int .i64 q190] rfl (by kernel_rfl)) rfl ?_; clear hE a; intro a hE
                      obtain ⟨q194, hq195, hq177⟩ := bindS hq177
                      have hc_ := Fishref2Moved_ok hS h149 h152 hq195
                      refine WL.fnq hE (hc_) (runs_plain rfl) bd20 rfl rfl rfl ?_
                      clear hE hS hc_; rintro e w ⟨cs196, s198, rfl, hle199, h197, hS⟩; refine ⟨_, rfl, ?_⟩; clear a; intro a hE
                      replace h1 := Sl.mono RI.mono hle199 h1
                      replace h2 := Sl.mono RI.mono hle199 h2
                      replace h91 := Sl.mono RFishref2Yard.mono hle199 h91
                      replace h0_0 := Sl.mono RI.mono hle199 h0_0
                      replace h149 := Sl.mono RI.mono hle199 h149
                      replace h152 := Sl.mono (RL.mono RI.mono) hle199 h152
                      replace h155 := Sl.mono RFleetMove.mono hle199 h155
                      replace h186 := Ev.mono RFishref2Yard.mono hle199 h186
                      replace h0_1 := Sl.mono (RL.mono RI.mono) hle199 h0_1
                      obtain ⟨a200, c201, a203, c204, rfl, h202, h205⟩ := h197
                      refine WL.vS hS hE (runs_plain rfl) (Gives.p hE rfl) rfl ?_; clear hE a; intro a hE
                      refine WL.vS hS hE (runs_plain rfl) (Gives.p hE rfl) rfl ?_; clear hE a; intro a hE
                      refine WL.vS hS hE (runs_plain rfl) (Gives.p hE rfl) rfl ?_; clear hE a; intro a hE
                      refine WL.vS hS hE (runs_plain rfl) (Gives.p hE rfl) rfl ?_; clear hE a; intro a hE
                      refine WL.alloc hE hS (runs_plain rfl) zr25 rfl ?_; clear hE hS a w; intro b206 a w hE hS
                      refine WL.storeI hE hS 0 rfl [.slice a200 q194.1.Room.length c201, .slice a203 q194.1.Tracks.length c204] (runs_plain rfl) rfl rfl rfl ty25 rfl rfl rfl rfl ?_; clear hE hS a w; intro a w hE hS
                      refine WL.vS hS hE (runs_plain rfl) (Gives.p hE rfl) rfl ?_; clear hE a; intro a hE
                      refine WL.vS hS hE (runs_plain rfl) (Gives.p hE rfl) rfl ?_; clear hE a; intro a hE
                      refine WL.nil ?_
                      refine W.seq ?_
                      refine W.seq ?_
                      obtain ⟨q208, hq207, hq177⟩ := bindS hq177
                      refine W.cut (fun a w => ∃ (q211 : Bool), q211 = q208 ∧ Rep a 142 [(1, .slice a1 x1.length c1), (2, .slice a2 x2.length c2), (3, .pointer (some ⟨b51, 0, none⟩)), (10, .map (some b61)), (13, .slice a184 q183.length c185), (15, .pointer (some ⟨b156, 0, none⟩)), (16, .int .i64 ((k159 : Nat) : Int)), (17, .int .i64 q190), (18, .pointer (some ⟨b206, 0, none⟩)), (19, .int .i64 q194.2.1), (55, .slice a89 q88.length c90), (56, .int .i64 ((q88).length : Int)), (57, .int .i64 ((k125 : Nat) : Int)), (63, .int .i64 ((x0.Room).length : Int)), (64, .int .i64 ((k159 : Nat) : Int)), (108, .bool q211)] ∧ St w s198 (pt b206 (.cells #[.slice a200 q194.1.Room.length c201, .slice a203 q194.1.Tracks.length c204] 25 (0, 0)) :: pt b156 (.cells #[.slice a147 x126.d.Room.length c148, .slice a150 x126.d.Tracks.length c151, .int .i64 x126.gone, .slice a153 x126.moves.length c154] 59 (0, 0)) :: vecC 59 4 a184 c185 q183.length cs188 :: mapC keyStr.f Value.bool b61 q191 :: pt b51 (.cells #[.slice a0_0 x0.Room.length c0_0, .slice a0_1 x0.Tracks.length c0_1] 25 (0, 0)) :: R)) ?_ ?_
                      · refine W.gen fun K212 hK212 => ?_
                        refine W.regionQ (C := fun w => St w s198 (pt b206 (.cells #[.slice a200 q194.1.Room.length c201, .slice a203 q194.1.Tracks.length c204] 25 (0, 0)) :: pt b156 (.cells #[.slice a147 x126.d.Room.length c148, .slice a150 x126.d.Tracks.length c151, .int .i64 x126.gone, .slice a153 x126.moves.length c154] 59 (0, 0)) :: vecC 59 4 a184 c185 q183.length cs188 :: mapC keyStr.f Value.bool b61 q191 :: pt b51 (.cells #[.slice a0_0 x0.Room.length c0_0, .slice a0_1 x0.Tracks.length c0_1] 25 (0, 0)) :: R)) mixed (by kernel_rfl) hS.drew ?_
                        refine QL.v hE (runs_plain rfl) (Gives.p hE rfl) rfl ?_; clear hE a; intro a hE
                        refine QL.v hE (runs_plain rfl) (Gives.p hE rfl) rfl ?_; clear hE a; intro a hE
                        refine QL.v hE (runs_plain rfl) (Gives.p hE rfl) rfl ?_; clear hE a; intro a hE
                        rcases Bool.eq_false_or_eq_true (q194.2.2 != 0) with hg213 | hg213
                        · replace hq207 := iteT hg213 hq207
                          refine QL.no hE (runs_not hE rfl rfl rfl (by rw [hg213]; decide)) rfl ?_; clear hE a; intro a hE
                          refine QL.no hE (runs_not hE rfl rfl rfl (by rw [hg213]; decide)) rfl ?_; clear hE a; intro a hE
                          refine QL.no hE (runs_not hE rfl rfl rfl (by rw [hg213]; decide)) rfl ?_; clear hE a; intro a hE
                          refine QL.no hE (runs_undef hE rfl rfl rfl) rfl ?_; clear hE a; intro a hE
                          refine QL.no hE (runs_undef hE rfl rfl rfl) rfl ?_; clear hE a; intro a hE
                          refine QL.no hE (runs_undef hE rfl rfl rfl) rfl ?_; clear hE a; intro a hE
                          refine QL.no hE (runs_undef hE rfl rfl rfl) rfl ?_; clear hE a; intro a hE
                          refine QL.no hE (runs_undef hE rfl rfl rfl) rfl ?_; clear hE a; intro a hE
                          refine QL.no hE (runs_undef hE rfl rfl rfl) rfl ?_; clear hE a; intro a hE
                          refine QL.no hE (runs_undef hE rfl rfl rfl) rfl ?_; clear hE a; intro a hE
                          refine QL.no hE (runs_undef hE rfl rfl rfl) rfl ?_; clear hE a; intro a hE
                          refine QL.no hE (runs_undef hE rfl rfl rfl) rfl ?_; clear hE a; intro a hE
                          refine QL.no hE (runs_undef hE rfl rfl rfl) rfl ?_; clear hE a; intro a hE
                          refine QL.no hE (runs_undef hE rfl rfl rfl) rfl ?_; clear hE a; intro a hE
                          refine QL.no hE (runs_undef hE rfl rfl rfl) rfl ?_; clear hE a; intro a hE
                          refine QL.no hE (runs_undef hE rfl rfl rfl) rfl ?_; clear hE a; intro a hE
                          refine QL.no hE (runs_undef hE rfl rfl rfl) rfl ?_; clear hE a; intro a hE
                          refine QL.no hE (runs_undef hE rfl rfl rfl) rfl ?_; clear hE a; intro a hE
                          refine QL.no hE (runs_undef hE rfl rfl rfl) rfl ?_; clear hE a; intro a hE
                          refine QL.no hE (runs_undef hE rfl rfl rfl) rfl ?_; clear hE a; intro a hE
                          refine QL.no hE (runs_not hE rfl rfl rfl (by rw [hg213]; decide)) rfl ?_; clear hE a; intro a hE
                          refine QL.v hE (runs_plain rfl) (Gives.pickT hE rfl hg213 rfl) rfl ?_; clear hE a; intro a hE
                          refine QL.nil ?_; clear hS w; intro w hS
                          subst hK212
                          exact ⟨true, Option.some.inj hq207, hE.pick _ ⟨rfl, rfl, rfl, rfl, rfl, rfl, rfl, rfl, rfl, rfl, rfl, rfl, rfl, rfl, rfl, rfl, trivial⟩, hS⟩
                        · replace hq207 := iteF hg213 hq207
                          refine QL.v hE (runs_if hE rfl rfl rfl hg213) (Gives.p hE rfl) rfl ?_; clear hE a; intro a hE
                          refine QL.v hE (runs_if hE rfl rfl rfl hg213) (Gives.p hE rfl) rfl ?_; clear hE a; intro a hE
                          refine QL.v hE (runs_if hE rfl rfl rfl hg213) (Gives.p hE rfl) rfl ?_; clear hE a; intro a hE
                          rcases Bool.eq_false_or_eq_true (decide (q194.2.1 ≥ 0)) with hg214 | hg214
                          · replace hq207 := iteT hg214 hq207
                            refine QL.v hE (runs_if hE rfl rfl rfl hg214) (Gives.fld hE rfl fl59_1) rfl ?_; clear hE a; intro a hE
                            refine QL.v hE (runs_if hE rfl rfl rfl hg214) (Gives.loadB hE 1 rfl rfl rfl ty3) rfl ?_; clear hE a; intro a hE
                            refine QL.v hE (runs_if hE rfl rfl rfl hg214) (Gives.p hE rfl) rfl ?_; clear hE a; intro a hE
                            refine QL.v hE (runs_if hE rfl rfl rfl hg214) (Gives.len hE rfl sl22) rfl ?_; clear hE a; intro a hE
                            refine QL.v hE (runs_if hE rfl rfl rfl hg214) (Gives.p hE rfl) rfl ?_; clear hE a; intro a hE
                            refine QL.v hE (runs_if hE rfl rfl rfl hg214) (Gives.p hE rfl) rfl ?_; clear hE a; intro a hE
                            rcases Bool.eq_false_or_eq_true (decide (x126.gone ≥ ((x2).length : Int))) with hg215 | hg215
                            · replace hq207 := iteT hg215 hq207
                              refine QL.no hE (runs_not hE rfl rfl rfl (by rw [hg215]; decide)) rfl ?_; clear hE a; intro a hE
                              refine QL.no hE (runs_not hE rfl rfl rfl (by rw [hg215]; decide)) rfl ?_; clear hE a; intro a hE
                              refine QL.no hE (runs_not hE rfl rfl rfl (by rw [hg215]; decide)) rfl ?_; clear hE a; intro a hE
                              refine QL.no hE (runs_not hE rfl rfl rfl (by rw [hg215]; decide)) rfl ?_; clear hE a; intro a hE
                              refine QL.no hE (runs_not hE rfl rfl rfl (by rw [hg215]; decide)) rfl ?_; clear hE a; intro a hE
                              refine QL.no hE (runs_not hE rfl rfl rfl (by rw [hg215]; decide)) rfl ?_; clear hE a; intro a hE
                              refine QL.no hE (runs_not hE rfl rfl rfl (by rw [hg215]; decide)) rfl ?_; clear hE a; intro a hE
                              refine QL.no hE (runs_not hE rfl rfl rfl (by rw [hg215]; decide)) rfl ?_; clear hE a; intro a hE
                              refine QL.no hE (runs_not hE rfl rfl rfl (by rw [hg215]; decide)) rfl ?_; clear hE a; intro a hE
                              refine QL.no hE (runs_not hE rfl rfl rfl (by rw [hg215]; decide)) rfl ?_; clear hE a; intro a hE
                              refine QL.v hE (runs_if hE rfl rfl rfl hg214) (Gives.pickT hE rfl hg215 rfl) rfl ?_; clear hE a; intro a hE
                              refine QL.v hE (runs_if hE rfl rfl rfl hg213) (Gives.pickT hE rfl hg214 rfl) rfl ?_; clear hE a; intro a hE
                              refine QL.v hE (runs_plain rfl) (Gives.pickF hE rfl hg213 rfl) rfl ?_; clear hE a; intro a hE
                              refine QL.nil ?_; clear hS w; intro w hS
                              subst hK212
                              exact ⟨true, Option.some.inj hq207, hE.pick _ ⟨rfl, rfl, rfl, rfl, rfl, rfl, rfl, rfl, rfl, rfl, rfl, rfl, rfl, rfl, rfl, rfl, trivial⟩, hS⟩
                            · replace hq207 := iteF hg215 hq207
                              refine QL.v hE (runs_if hE rfl rfl rfl hg215) (Gives.p hE rfl) rfl ?_; clear hE a; intro a hE
                              refine QL.v hE (runs_if hE rfl rfl rfl hg215) (Gives.p hE rfl) rfl ?_; clear hE a; intro a hE
                              obtain ⟨x216, hx217, hq207⟩ := bindS hq207
                              obtain ⟨hi218, hlt219, hy220⟩ := gx_some hx217
                              obtain ⟨cs221, hl222, hR223, hat224⟩ := h1.at hy220
                              subst hR223
                              refine QL.v hE (runs_if hE rfl rfl rfl hg215) (Gives.idx hE (q194.2.1).toNat rfl rfl sl22 hi218 hlt219 (h1.aok hlt219)) rfl ?_; clear hE a; intro a hE
                              refine QL.v hE (runs_if hE rfl rfl rfl hg215) (Gives.load1 hE rfl (fun w h => hat224 w _ h) ty3) rfl ?_; clear hE a; intro a hE
                              refine QL.v hE (runs_if hE rfl rfl rfl hg215) (Gives.p hE rfl) rfl ?_; clear hE a; intro a hE
                              refine QL.v hE (runs_if hE rfl rfl rfl hg215) (Gives.fld hE rfl fl59_1) rfl ?_; clear hE a; intro a hE
                              refine QL.v hE (runs_if hE rfl rfl rfl hg215) (Gives.loadB hE 1 rfl rfl rfl ty3) rfl ?_; clear hE a; intro a hE
                              obtain ⟨x225, hx226, hq207⟩ := bindS hq207
                              obtain ⟨hi227, hlt228, hy229⟩ := gx_some hx226
                              obtain ⟨cs230, hl231, hR232, hat233⟩ := h2.at hy229
                              subst hR232
                              refine QL.v hE (runs_if hE rfl rfl rfl hg215) (Gives.idx hE (x126.gone).toNat rfl rfl sl22 hi227 hlt228 (h2.aok hlt228)) rfl ?_; clear hE a; intro a hE
                              refine QL.v hE (runs_if hE rfl rfl rfl hg215) (Gives.load1 hE rfl (fun w h => hat233 w _ h) ty3) rfl ?_; clear hE a; intro a hE
                              refine QL.v hE (runs_if hE rfl rfl rfl hg215) (Gives.p hE rfl) rfl ?_; clear hE a; intro a hE
                              refine QL.v hE (runs_if hE rfl rfl rfl hg214) (Gives.pickF hE rfl hg215 rfl) rfl ?_; clear hE a; intro a hE
                              refine QL.v hE (runs_if hE rfl rfl rfl hg213) (Gives.pickT hE rfl hg214 rfl) rfl ?_; clear hE a; intro a hE
                              refine QL.v hE (runs_plain rfl) (Gives.pickF hE rfl hg213 rfl) rfl ?_; clear hE a; intro a hE
                              refine QL.nil ?_; clear hS w; intro w hS
                              subst hK212
                              exact ⟨(x216 != x225), Option.some.inj hq207, hE.pick _ ⟨rfl, rfl, rfl, rfl, rfl, rfl, rfl, rfl, rfl, rfl, rfl, rfl, rfl, rfl, rfl, rfl, trivial⟩, hS⟩
                          · replace hq207 := iteF hg214 hq207
                            refine QL.no hE (runs_not hE rfl rfl rfl (by rw [hg214]; decide)) rfl ?_; clear hE a; intro a hE
                            refine QL.no hE (runs_not hE rfl rfl rfl (by rw [hg214]; decide)) rfl ?_; clear hE a; intro a hE
                            refine QL.no hE (runs_not hE rfl rfl rfl (by rw [hg214]; decide)) rfl ?_; clear hE a; intro a hE
                            refine QL.no hE (runs_not hE rfl rfl rfl (by rw [hg214]; decide)) rfl ?_; clear hE a; intro a hE
                            refine QL.no hE (runs_not hE rfl rfl rfl (by rw [hg214]; decide)) rfl ?_; clear hE a; intro a hE
                            refine QL.no hE (runs_not hE rfl rfl rfl (by rw [hg214]; decide)) rfl ?_; clear hE a; intro a hE
                            refine QL.no hE (runs_undef hE rfl rfl rfl) rfl ?_; clear hE a; intro a hE
                            refine QL.no hE (runs_undef hE rfl rfl rfl) rfl ?_; clear hE a; intro a hE
                            refine QL.no hE (runs_undef hE rfl rfl rfl) rfl ?_; clear hE a; intro a hE
                            refine QL.no hE (runs_undef hE rfl rfl rfl) rfl ?_; clear hE a; intro a hE
                            refine QL.no hE (runs_undef hE rfl rfl rfl) rfl ?_; clear hE a; intro a hE
                            refine QL.no hE (runs_undef hE rfl rfl rfl) rfl ?_; clear hE a; intro a hE
                            refine QL.no hE (runs_undef hE rfl rfl rfl) rfl ?_; clear hE a; intro a hE
                            refine QL.no hE (runs_undef hE rfl rfl rfl) rfl ?_; clear hE a; intro a hE
                            refine QL.no hE (runs_undef hE rfl rfl rfl) rfl ?_; clear hE a; intro a hE
                            refine QL.no hE (runs_undef hE rfl rfl rfl) rfl ?_; clear hE a; intro a hE
                            refine QL.no hE (runs_not hE rfl rfl rfl (by rw [hg214]; decide)) rfl ?_; clear hE a; intro a hE
                            refine QL.v hE (runs_if hE rfl rfl rfl hg213) (Gives.pickF hE rfl hg214 rfl) rfl ?_; clear hE a; intro a hE
                            refine QL.v hE (runs_plain rfl) (Gives.pickF hE rfl hg213 rfl) rfl ?_; clear hE a; intro a hE
                            refine QL.nil ?_; clear hS w; intro w hS
                            subst hK212
                            exact ⟨false, Option.some.inj hq207, hE.pick _ ⟨rfl, rfl, rfl, rfl, rfl, rfl, rfl, rfl, rfl, rfl, rfl, rfl, rfl, rfl, rfl, rfl, trivial⟩, hS⟩
                      · clear hE hS a w; rintro a w ⟨q211, rfl, hE, hS⟩
                        refine W.cond hE rfl (fun hc234 => ?_) (fun hc234 => ?_)
                        · replace hq177 := iteT hc234 hq177
                          refine W.exit rfl ?_
                          refine W.region ?_
                          refine WL.vS hS hE (runs_plain rfl) (Gives.p hE rfl) rfl ?_; clear hE a; intro a hE
                          refine WL.vS hS hE (runs_plain rfl) (Gives.p hE rfl) rfl ?_; clear hE a; intro a hE
                          refine WL.vS hS hE (runs_plain rfl) (Gives.p hE rfl) rfl ?_; clear hE a; intro a hE
                          refine WL.nil ?_
                          replace hS := hS.tail
                          subst hK192
                          exact ⟨n179, Nat.lt_succ_self _, n179, q183, (w64 (q190 + 1)), q191, a184, c185, q183.length, cs188, s198, rfl, (Sg.Le.trans hle182 hle199), hq177, h186, rfl, hE.pick _ ⟨rfl, rfl, rfl, rfl, rfl, rfl, rfl, rfl, rfl, rfl, rfl, rfl, rfl, trivial⟩, hS⟩
                        · replace hq177 := iteF hc234 hq177
                          refine W.skip ?_
                          refine W.seq ?_
                          refine W.gen fun K235 hK235 => ?_
                          refine W.regionE (sel (fun w => St w s198 (pt b206 (.cells #[.slice a200 q194.1.Room.length c201, .slice a203 q194.1.Tracks.length c204] 25 (0, 0)) :: pt b156 (.cells #[.slice a147 x126.d.Room.length c148, .slice a150 x126.d.Tracks.length c151, .int .i64 x126.gone, .slice a153 x126.moves.length c154] 59 (0, 0)) :: vecC 59 4 a184 c185 q183.length cs188 :: mapC keyStr.f Value.bool b61 q191 :: pt b51 (.cells #[.slice a0_0 x0.Room.length c0_0, .slice a0_1 x0.Tracks.length c0_1] 25 (0, 0)) :: R)) (fun w => St w s198 (pt b206 (.cells #[.slice a200 q194.1.Room.length c201, .slice a203 q194.1.Tracks.length c204] 25 (0, 0)) :: pt b156 (.cells #[.slice a147 x126.d.Room.length c148, .slice a150 x126.d.Tracks.length c151, .int .i64 x126.gone, .slice a153 x126.moves.length c154] 59 (0, 0)) :: vecC 59 4 a184 c185 q183.length cs188 :: mapC keyStr.f Value.bool b61 q191 :: pt b51 (.cells #[.slice a0_0 x0.Room.length c0_0, .slice a0_1 x0.Tracks.length c0_1] 25 (0, 0)) :: R))) (fun b i => cond b ([0, 1, 2, 3, 4, 5, 6, 7, 8, 9, 10, 11, 12, 13].contains i) ([0, 1, 2, 3, 4, 5, 6, 7, 8, 9, 10, 11, 12, 13].contains i)) mixed ?_
                          replace hS := hS.drew
                          have hT := tw_sel (A := fun w => St w s198 (pt b206 (.cells #[.slice a200 q194.1.Room.length c201, .slice a203 q194.1.Tracks.length c204] 25 (0, 0)) :: pt b156 (.cells #[.slice a147 x126.d.Room.length c148, .slice a150 x126.d.Tracks.length c151, .int .i64 x126.gone, .slice a153 x126.moves.length c154] 59 (0, 0)) :: vecC 59 4 a184 c185 q183.length cs188 :: mapC keyStr.f Value.bool b61 q191 :: pt b51 (.cells #[.slice a0_0 x0.Room.length c0_0, .slice a0_1 x0.Tracks.length c0_1] 25 (0, 0)) :: R)) (B := fun w => St w s198 (pt b206 (.cells #[.slice a200 q194.1.Room.length c201, .slice a203 q194.1.Tracks.length c204] 25 (0, 0)) :: pt b156 (.cells #[.slice a147 x126.d.Room.length c148, .slice a150 x126.d.Tracks.length c151, .int .i64 x126.gone, .slice a153 x126.moves.length c154] 59 (0, 0)) :: vecC 59 4 a184 c185 q183.length cs188 :: mapC keyStr.f Value.bool b61 q191 :: pt b51 (.cells #[.slice a0_0 x0.Room.length c0_0, .slice a0_1 x0.Tracks.length c0_1] 25 (0, 0)) :: R)) (w := _) (x := true) (y := true) (fun _ => hS) (fun _ => hS)
                          have hF := hS; replace hS := hS
                          refine Rg.take (i := 0) true rfl hE rfl (by kernel_rfl) (runs_plain rfl) (Gives.loadBA hE 0 rfl rfl ty25) rfl hT ?_; clear hE a; intro a hE
                          replace hS := hF; clear hF hT
                          refine Rg.takeP (i := 1) hE rfl (by kernel_rfl) (runs_plain rfl) (Gives.fld hE rfl fl59_1) rfl (tw_sel (fun _ => hS) (fun _ => hS)) ?_; clear hE a; intro a hE
                          have hT := tw_sel (A := fun w => St w s198 (pt b206 (.cells #[.slice a200 q194.1.Room.length c201, .slice a203 q194.1.Tracks.length c204] 25 (0, 0)) :: pt b156 (.cells #[.slice a147 x126.d.Room.length c148, .slice a150 x126.d.Tracks.length c151, .int .i64 x126.gone, .slice a153 x126.moves.length c154] 59 (0, 0)) :: vecC 59 4 a184 c185 q183.length cs188 :: mapC keyStr.f Value.bool b61 q191 :: pt b51 (.cells #[.slice a0_0 x0.Room.length c0_0, .slice a0_1 x0.Tracks.length c0_1] 25 (0, 0)) :: R)) (B := fun w => St w s198 (pt b206 (.cells #[.slice a200 q194.1.Room.length c201, .slice a203 q194.1.Tracks.length c204] 25 (0, 0)) :: pt b156 (.cells #[.slice a147 x126.d.Room.length c148, .slice a150 x126.d.Tracks.length c151, .int .i64 x126.gone, .slice a153 x126.moves.length c154] 59 (0, 0)) :: vecC 59 4 a184 c185 q183.length cs188 :: mapC keyStr.f Value.bool b61 q191 :: pt b51 (.cells #[.slice a0_0 x0.Room.length c0_0, .slice a0_1 x0.Tracks.length c0_1] 25 (0, 0)) :: R)) (w := _) (x := true) (y := true) (fun _ => hS) (fun _ => hS)
                          have hF := hS; replace hS := hS
                          refine Rg.take (i := 2) true rfl hE rfl (by kernel_rfl) (runs_plain rfl) (Gives.loadB hE 1 rfl rfl rfl ty3) rfl hT ?_; clear hE a; intro a hE
                          replace hS := hF; clear hF hT
                          refine Rg.takeP (i := 3) hE rfl (by kernel_rfl) (runs_plain rfl) (Gives.fld hE rfl fl59_2) rfl (tw_sel (fun _ => hS) (fun _ => hS)) ?_; clear hE a; intro a hE
                          have hT := tw_sel (A := fun w => St w s198 (pt b206 (.cells #[.slice a200 q194.1.Room.length c201, .slice a203 q194.1.Tracks.length c204] 25 (0, 0)) :: pt b156 (.cells #[.slice a147 x126.d.Room.length c148, .slice a150 x126.d.Tracks.length c151, .int .i64 x126.gone, .slice a153 x126.moves.length c154] 59 (0, 0)) :: vecC 59 4 a184 c185 q183.length cs188 :: mapC keyStr.f Value.bool b61 q191 :: pt b51 (.cells #[.slice a0_0 x0.Room.length c0_0, .slice a0_1 x0.Tracks.length c0_1] 25 (0, 0)) :: R)) (B := fun w => St w s198 (pt b206 (.cells #[.slice a200 q194.1.Room.length c201, .slice a203 q194.1.Tracks.length c204] 25 (0, 0)) :: pt b156 (.cells #[.slice a147 x126.d.Room.length c148, .slice a150 x126.d.Tracks.length c151, .int .i64 x126.gone, .slice a153 x126.moves.length c154] 59 (0, 0)) :: vecC 59 4 a184 c185 q183.length cs188 :: mapC keyStr.f Value.bool b61 q191 :: pt b51 (.cells #[.slice a0_0 x0.Room.length c0_0, .slice a0_1 x0.Tracks.length c0_1] 25 (0, 0)) :: R)) (w := _) (x := true) (y := true) (fun _ => hS) (fun _ => hS)
                          have hF := hS; replace hS := hS
                          refine Rg.take (i := 4) true rfl hE rfl (by kernel_rfl) (runs_plain rfl) (Gives.loadB hE 1 rfl rfl rfl ty26) rfl hT ?_; clear hE a; intro a hE
                          replace hS := hF; clear hF hT
                          refine Rg.takeP (i := 6) hE rfl (by kernel_rfl) (runs_plain rfl) (Gives.p hE rfl) rfl (tw_sel (fun _ => hS) (fun _ => hS)) ?_; clear hE a; intro a hE
                          refine Rg.takeP (i := 7) hE rfl (by kernel_rfl) (runs_plain rfl) (Gives.p hE rfl) rfl (tw_sel (fun _ => hS) (fun _ => hS)) ?_; clear hE a; intro a hE
                          refine Rg.takeP (i := 8) hE rfl (by kernel_rfl) (runs_plain rfl) (Gives.build hE (vs := [(0, .int .i64 ((k159 : Nat) : Int)), (1, .int .i64 q190)]) [.int .i64 ((k159 : Nat) : Int), .int .i64 q190] rfl (by kernel_rfl)) rfl (tw_sel (fun _ => hS) (fun _ => hS)) ?_; clear hE a; intro a hE
                          obtain ⟨q236, hq237, hq177⟩ := bindS hq177
                          obtain ⟨x245, hx246, hq177⟩ := bindS hq177
                          suffices key : ∀ cs249 b251 a247 c248 (a : Act) (w : World), Sl 1 (RI .i64) s198 a1 c1 x1 → Sl 1 (RI .i64) s198 a2 c2 x2 → Sl 4 RFishref2Yard s198 a89 c90 q88 → Sl 1 (RI .i64) s198 a200 c201 q194.1.Room → Sl 1 (RL 1 (RI .i64)) s198 a203 c204 q194.1.Tracks → Ev 2 RFleetMove s198 cs249 x245 → Sl 1 (RI .i64) s198 a147 c148 x126.d.Room → Sl 1 (RL 1 (RI .i64)) s198 a150 c151 x126.d.Tracks → Sl 2 RFleetMove s198 a153 c154 x126.moves → Ev 4 RFishref2Yard s198 cs188 q183 → Sl 1 (RI .i64) s198 a0_0 c0_0 x0.Room → Sl 1 (RL 1 (RI .i64)) s198 a0_1 c0_1 x0.Tracks → Rep a 142 [(1, .slice a1 x1.length c1), (2, .slice a2 x2.length c2), (3, .pointer (some ⟨b51, 0, none⟩)), (10, .map (some b61)), (13, .slice a184 q183.length c185), (15, .pointer (some ⟨b156, 0, none⟩)), (16, .int .i64 ((k159 : Nat) : Int)), (17, .int .i64 q190), (19, .int .i64 q194.2.1), (21, .pointer (some ⟨b251, 0, none⟩)), (55, .slice a89 q88.length c90), (56, .int .i64 ((q88).length : Int)), (57, .int .i64 ((k125 : Nat) : Int)), (63, .int .i64 ((x0.Room).length : Int)), (64, .int .i64 ((k159 : Nat) : Int))] → St w s198 (pt b251 (.cells #[.slice a200 q194.1.Room.length c201, .slice a203 q194.1.Tracks.length c204, .int .i64 x126.gone, .slice a247 x245.length c248] 59 (0, 0)) :: vecC 34 2 a247 c248 x245.length cs249 :: pt b206 (.cells #[.slice a200 q194.1.Room.length c201, .slice a203 q194.1.Tracks.length c204] 25 (0, 0)) :: pt b156 (.cells #[.slice a147 x126.d.Room.length c148, .slice a150 x126.d.Tracks.length c151, .int .i64 x126.gone, .slice a153 x126.moves.length c154] 59 (0, 0)) :: vecC 59 4 a184 c185 q183.length cs188 :: mapC keyStr.f Value.bool b61 q191 :: pt b51 (.cells #[.slice a0_0 x0.Room.length c0_0, .slice a0_1 x0.Tracks.length c0_1] 25 (0, 0)) :: R) → K235.nor a w by
                            refine Rg.many 5 [9, 12] (by kernel_rfl) ⟨?_, ?_, ?_, trivial⟩
                            · refine Br.mk (i := 5) true true rfl (by kernel_rfl) (by kernel_rfl) ?_
                              have hc_ := SlicesCloneLfleetMove_ok hS h155 hq237
                              refine WL.fnq hE (hc_) (runs_plain rfl) bd16 rfl rfl rfl ?_
                              clear hE hS hc_; rintro e w ⟨a238, c239, n240, cs241, rfl, h242, rfl, hS⟩; refine ⟨_, rfl, ?_⟩; clear a; intro a hE
                              refine WL.nil ?_
                              refine ⟨⟨fun _ => (hS.tail), fun _ => (hS.tail)⟩, ?_⟩
                              refine Rg.many 9 [12] (by kernel_rfl) ⟨?_, ?_, trivial⟩
                              · refine Br.mk (i := 9) true true rfl (by kernel_rfl) (by kernel_rfl) ?_
                                refine WL.lit hE hS (e := 34) (es := 2) (vs := [(0, .agg [.int .i64 ((k159 : Nat) : Int), .int .i64 q190].toArray)]) (cs := [.int .i64 ((k159 : Nat) : Int), .int .i64 q190]) (runs_plain rfl) rfl (by kernel_rfl) rfl ?_; clear hE hS a w; intro b244 a w hE hS
                                refine WL.nil ?_
                                refine ⟨⟨fun _ => ((hS.tail).tail), fun _ => ((hS.tail).tail)⟩, ?_⟩
                                refine Rg.many 10 [12] (by kernel_rfl) ⟨?_, ?_, trivial⟩
                                · refine Br.mk (i := 10) true true rfl (by kernel_rfl) (by kernel_rfl) ?_
                                  refine WL.appD hE hS 0 (m := 1) (runs_plain rfl) rfl rfl rfl ap26 rfl h242 rfl (xs := [(FleetMove.mk ((k159 : Nat) : Int) q190)]) (Ev.cons (c1 := [.int .i64 ((k159 : Nat) : Int), .int .i64 q190]) rfl rfl (Ev.nil)) rfl rfl hx246 rfl ?_; clear hE hS a w; intro a247 c248 cs249 a w h250 hE hS
                                  refine WL.nil ?_
                                  refine ⟨⟨fun _ => (hS.tail), fun _ => (hS.tail)⟩, ?_⟩
                                  refine Rg.takeP (i := 11) hE rfl (by kernel_rfl) (runs_plain rfl) (Gives.build hE (vs := [(0, .agg [.slice a200 q194.1.Room.length c201, .slice a203 q194.1.Tracks.length c204].toArray), (1, .int .i64 x126.gone), (2, .slice a247 x245.length c248)]) [.slice a200 q194.1.Room.length c201, .slice a203 q194.1.Tracks.length c204, .int .i64 x126.gone, .slice a247 x245.length c248] rfl (by kernel_rfl)) rfl (tw_sel (fun _ => (hS.tail)) (fun _ => (hS.tail))) ?_; clear hE a; intro a hE
                                  refine Rg.one (i := 12) true true rfl (by kernel_rfl) (by kernel_rfl) (by kernel_rfl) ?_
                                  refine WL.alloc hE hS (runs_plain rfl) zr59 rfl ?_; clear hE hS a w; intro b251 a w hE hS
                                  refine WL.nil ?_
                                  refine ⟨⟨fun _ => ((hS.tail).tail), fun _ => ((hS.tail).tail)⟩, ?_⟩
                                  refine Rg.one (i := 13) true true rfl (by kernel_rfl) (by kernel_rfl) (by kernel_rfl) ?_
                                  refine WL.storeI hE hS 0 rfl [.slice a200 q194.1.Room.length c201, .slice a203 q194.1.Tracks.length c204, .int .i64 x126.gone, .slice a247 x245.length c248] (runs_plain rfl) rfl rfl rfl ty59 rfl rfl rfl rfl ?_; clear hE hS a w; intro a w hE hS
                                  refine WL.nil ?_
                                  refine ⟨⟨fun _ => ((hS.tail).tail), fun _ => ((hS.tail).tail)⟩, ?_⟩
                                  refine Rg.done (by kernel_rfl) ?_
                                  exact key _ _ _ _ _ _ h1 h2 h91 h202 h205 h250 h149 h152 h155 h186 h0_0 h0_1 (hE.pick _ ⟨rfl, rfl, rfl, rfl, rfl, rfl, rfl, rfl, rfl, rfl, rfl, rfl, rfl, rfl, rfl, trivial⟩) hS
                                · refine Br.mk (i := 12) true true rfl (by kernel_rfl) (by kernel_rfl) ?_
                                  refine WL.alloc hE hS (runs_plain rfl) zr59 rfl ?_; clear hE hS a w; intro b251 a w hE hS
                                  refine WL.nil ?_
                                  refine ⟨⟨fun _ => (((hS.tail).tail).tail), fun _ => (((hS.tail).tail).tail)⟩, ?_⟩
                                  refine Rg.one (i := 10) true true rfl (by kernel_rfl) (by kernel_rfl) (by kernel_rfl) ?_
                                  replace hS := hS.front 1 rfl
                                  refine WL.appD hE hS 1 (m := 1) (runs_plain rfl) rfl rfl rfl ap26 rfl h242 rfl (xs := [(FleetMove.mk ((k159 : Nat) : Int) q190)]) (Ev.cons (c1 := [.int .i64 ((k159 : Nat) : Int), .int .i64 q190]) rfl rfl (Ev.nil)) rfl rfl hx246 rfl ?_; clear hE hS a w; intro a247 c248 cs249 a w h250 hE hS
                                  refine WL.nil ?_
                                  refine ⟨⟨fun _ => ((hS.tail).tail), fun _ => ((hS.tail).tail)⟩, ?_⟩
                                  refine Rg.takeP (i := 11) hE rfl (by kernel_rfl) (runs_plain rfl) (Gives.build hE (vs := [(0, .agg [.slice a200 q194.1.Room.length c201, .slice a203 q194.1.Tracks.length c204].toArray), (1, .int .i64 x126.gone), (2, .slice a247 x245.length c248)]) [.slice a200 q194.1.Room.length c201, .slice a203 q194.1.Tracks.length c204, .int .i64 x126.gone, .slice a247 x245.length c248] rfl (by kernel_rfl)) rfl (tw_sel (fun _ => ((hS.tail).tail)) (fun _ => ((hS.tail).tail))) ?_; clear hE a; intro a hE
                                  refine Rg.one (i := 13) true true rfl (by kernel_rfl) (by kernel_rfl) (by kernel_rfl) ?_
                                  refine WL.storeI hE hS 0 rfl [.slice a200 q194.1.Room.length c201, .slice a203 q194.1.Tracks.length c204, .int .i64 x126.gone, .slice a247 x245.length c248] (runs_plain rfl) rfl rfl rfl ty59 rfl rfl rfl rfl ?_; clear hE hS a w; intro a w hE hS
                                  refine WL.nil ?_
                                  refine ⟨⟨fun _ => ((hS.tail).tail), fun _ => ((hS.tail).tail)⟩, ?_⟩
                                  refine Rg.done (by kernel_rfl) ?_
                                  exact key _ _ _ _ _ _ h1 h2 h91 h202 h205 h250 h149 h152 h155 h186 h0_0 h0_1 (hE.pick _ ⟨rfl, rfl, rfl, rfl, rfl, rfl, rfl, rfl, rfl, rfl, rfl, rfl, rfl, rfl, rfl, trivial⟩) hS
                              · refine Br.mk (i := 12) true true rfl (by kernel_rfl) (by kernel_rfl) ?_
                                refine WL.alloc hE hS (runs_plain rfl) zr59 rfl ?_; clear hE hS a w; intro b251 a w hE hS
                                refine WL.nil ?_
                                refine ⟨⟨fun _ => ((hS.tail).tail), fun _ => ((hS.tail).tail)⟩, ?_⟩
                                refine Rg.one (i := 9) true true rfl (by kernel_rfl) (by kernel_rfl) (by kernel_rfl) ?_
                                refine WL.lit hE hS (e := 34) (es := 2) (vs := [(0, .agg [.int .i64 ((k159 : Nat) : Int), .int .i64 q190].toArray)]) (cs := [.int .i64 ((k159 : Nat) : Int), .int .i64 q190]) (runs_plain rfl) rfl (by kernel_rfl) rfl ?_; clear hE hS a w; intro b244 a w hE hS
                                refine WL.nil ?_
                                refine ⟨⟨fun _ => (((hS.tail).tail).tail), fun _ => (((hS.tail).tail).tail)⟩, ?_⟩
                                refine Rg.one (i := 10) true true rfl (by kernel_rfl) (by kernel_rfl) (by kernel_rfl) ?_
                                refine WL.appD hE hS 1 (m := 1) (runs_plain rfl) rfl rfl rfl ap26 rfl h242 rfl (xs := [(FleetMove.mk ((k159 : Nat) : Int) q190)]) (Ev.cons (c1 := [.int .i64 ((k159 : Nat) : Int), .int .i64 q190]) rfl rfl (Ev.nil)) rfl rfl hx246 rfl ?_; clear hE hS a w; intro a247 c248 cs249 a w h250 hE hS
                                refine WL.nil ?_
                                refine ⟨⟨fun _ => ((hS.tail).tail), fun _ => ((hS.tail).tail)⟩, ?_⟩
                                refine Rg.takeP (i := 11) hE rfl (by kernel_rfl) (runs_plain rfl) (Gives.build hE (vs := [(0, .agg [.slice a200 q194.1.Room.length c201, .slice a203 q194.1.Tracks.length c204].toArray), (1, .int .i64 x126.gone), (2, .slice a247 x245.length c248)]) [.slice a200 q194.1.Room.length c201, .slice a203 q194.1.Tracks.length c204, .int .i64 x126.gone, .slice a247 x245.length c248] rfl (by kernel_rfl)) rfl (tw_sel (fun _ => ((hS.tail).tail)) (fun _ => ((hS.tail).tail))) ?_; clear hE a; intro a hE
                                refine Rg.one (i := 13) true true rfl (by kernel_rfl) (by kernel_rfl) (by kernel_rfl) ?_
                                refine WL.storeI hE hS 0 rfl [.slice a200 q194.1.Room.length c201, .slice a203 q194.1.Tracks.length c204, .int .i64 x126.gone, .slice a247 x245.length c248] (runs_plain rfl) rfl rfl rfl ty59 rfl rfl rfl rfl ?_; clear hE hS a w; intro a w hE hS
                                refine WL.nil ?_
                                refine ⟨⟨fun _ => ((hS.tail).tail), fun _ => ((hS.tail).tail)⟩, ?_⟩
                                refine Rg.done (by kernel_rfl) ?_
                                exact key _ _ _ _ _ _ h1 h2 h91 h202 h205 h250 h149 h152 h155 h186 h0_0 h0_1 (hE.pick _ ⟨rfl, rfl, rfl, rfl, rfl, rfl, rfl, rfl, rfl, rfl, rfl, rfl, rfl, rfl, rfl, trivial⟩) hS
                            · refine Br.mk (i := 9) true true rfl (by kernel_rfl) (by kernel_rfl) ?_
                              refine WL.lit hE hS (e := 34) (es := 2) (vs := [(0, .agg [.int .i64 ((k159 : Nat) : Int), .int .i64 q190].toArray)]) (cs := [.int .i64 ((k159 : Nat) : Int), .int .i64 q190]) (runs_plain rfl) rfl (by kernel_rfl) rfl ?_; clear hE hS a w; intro b244 a w hE hS
                              refine WL.nil ?_
                              refine ⟨⟨fun _ => (hS.tail), fun _ => (hS.tail)⟩, ?_⟩
                              refine Rg.many 5 [12] (by kernel_rfl) ⟨?_, ?_, trivial⟩
                              · refine Br.mk (i := 5) true true rfl (by kernel_rfl) (by kernel_rfl) ?_
                                have hc_ := SlicesCloneLfleetMove_ok hS h155 hq237
                                refine WL.fnq hE (hc_) (runs_plain rfl) bd16 rfl rfl rfl ?_
                                clear hE hS hc_; rintro e w ⟨a238, c239, n240, cs241, rfl, h242, rfl, hS⟩; refine ⟨_, rfl, ?_⟩; clear a; intro a hE
                                refine WL.nil ?_
                                refine ⟨⟨fun _ => ((hS.tail).tail), fun _ => ((hS.tail).tail)⟩, ?_⟩
                                refine Rg.many 10 [12] (by kernel_rfl) ⟨?_, ?_, trivial⟩
                                · refine Br.mk (i := 10) true true rfl (by kernel_rfl) (by kernel_rfl) ?_
                                  replace hS := hS.front 1 rfl
                                  refine WL.appD hE hS 0 (m := 1) (runs_plain rfl) rfl rfl rfl ap26 rfl h242 rfl (xs := [(FleetMove.mk ((k159 : Nat) : Int) q190)]) (Ev.cons (c1 := [.int .i64 ((k159 : Nat) : Int), .int .i64 q190]) rfl rfl (Ev.nil)) rfl rfl hx246 rfl ?_; clear hE hS a w; intro a247 c248 cs249 a w h250 hE hS
                                  refine WL.nil ?_
                                  refine ⟨⟨fun _ => (hS.tail), fun _ => (hS.tail)⟩, ?_⟩
                                  refine Rg.takeP (i := 11) hE rfl (by kernel_rfl) (runs_plain rfl) (Gives.build hE (vs := [(0, .agg [.slice a200 q194.1.Room.length c201, .slice a203 q194.1.Tracks.length c204].toArray), (1, .int .i64 x126.gone), (2, .slice a247 x245.length c248)]) [.slice a200 q194.1.Room.length c201, .slice a203 q194.1.Tracks.length c204, .int .i64 x126.gone, .slice a247 x245.length c248] rfl (by kernel_rfl)) rfl (tw_sel (fun _ => (hS.tail)) (fun _ => (hS.tail))) ?_; clear hE a; intro a hE
                                  refine Rg.one (i := 12) true true rfl (by kernel_rfl) (by kernel_rfl) (by kernel_rfl) ?_
                                  refine WL.alloc hE hS (runs_plain rfl) zr59 rfl ?_; clear hE hS a w; intro b251 a w hE hS
                                  refine WL.nil ?_
                                  refine ⟨⟨fun _ => ((hS.tail).tail), fun _ => ((hS.tail).tail)⟩, ?_⟩
                                  refine Rg.one (i := 13) true true rfl (by kernel_rfl) (by kernel_rfl) (by kernel_rfl) ?_
                                  refine WL.storeI hE hS 0 rfl [.slice a200 q194.1.Room.length c201, .slice a203 q194.1.Tracks.length c204, .int .i64 x126.gone, .slice a247 x245.length c248] (runs_plain rfl) rfl rfl rfl ty59 rfl rfl rfl rfl ?_; clear hE hS a w; intro a w hE hS
                                  refine WL.nil ?_
                                  refine ⟨⟨fun _ => ((hS.tail).tail), fun _ => ((hS.tail).tail)⟩, ?_⟩
                                  refine Rg.done (by kernel_rfl) ?_
                                  exact key _ _ _ _ _ _ h1 h2 h91 h202 h205 h250 h149 h152 h155 h186 h0_0 h0_1 (hE.pick _ ⟨rfl, rfl, rfl, rfl, rfl, rfl, rfl, rfl, rfl, rfl, rfl, rfl, rfl, rfl, rfl, trivial⟩) hS
                                · refine Br.mk (i := 12) true true rfl (by kernel_rfl) (by kernel_rfl) ?_
                                  refine WL.alloc hE hS (runs_plain rfl) zr59 rfl ?_; clear hE hS a w; intro b251 a w hE hS
                                  refine WL.nil ?_
                                  refine ⟨⟨fun _ => (((hS.tail).tail).tail), fun _ => (((hS.tail).tail).tail)⟩, ?_⟩
                                  refine Rg.one (i := 10) true true rfl (by kernel_rfl) (by kernel_rfl) (by kernel_rfl) ?_
                                  replace hS := hS.front 2 rfl
                                  refine WL.appD hE hS 1 (m := 1) (runs_plain rfl) rfl rfl rfl ap26 rfl h242 rfl (xs := [(FleetMove.mk ((k159 : Nat) : Int) q190)]) (Ev.cons (c1 := [.int .i64 ((k159 : Nat) : Int), .int .i64 q190]) rfl rfl (Ev.nil)) rfl rfl hx246 rfl ?_; clear hE hS a w; intro a247 c248 cs249 a w h250 hE hS
                                  refine WL.nil ?_
                                  refine ⟨⟨fun _ => ((hS.tail).tail), fun _ => ((hS.tail).tail)⟩, ?_⟩
                                  refine Rg.takeP (i := 11) hE rfl (by kernel_rfl) (runs_plain rfl) (Gives.build hE (vs := [(0, .agg [.slice a200 q194.1.Room.length c201, .slice a203 q194.1.Tracks.length c204].toArray), (1, .int .i64 x126.gone), (2, .slice a247 x245.length c248)]) [.slice a200 q194.1.Room.length c201, .slice a203 q194.1.Tracks.length c204, .int .i64 x126.gone, .slice a247 x245.length c248] rfl (by kernel_rfl)) rfl (tw_sel (fun _ => ((hS.tail).tail)) (fun _ => ((hS.tail).tail))) ?_; clear hE a; intro a hE
                                  refine Rg.one (i := 13) true true rfl (by kernel_rfl) (by kernel_rfl) (by kernel_rfl) ?_
                                  refine WL.storeI hE hS 0 rfl [.slice a200 q194.1.Room.length c201, .slice a203 q194.1.Tracks.length c204, .int .i64 x126.gone, .slice a247 x245.length c248] (runs_plain rfl) rfl rfl rfl ty59 rfl rfl rfl rfl ?_; clear hE hS a w; intro a w hE hS
                                  refine WL.nil ?_
                                  refine ⟨⟨fun _ => ((hS.tail).tail), fun _ => ((hS.tail).tail)⟩, ?_⟩
                                  refine Rg.done (by kernel_rfl) ?_
                                  exact key _ _ _ _ _ _ h1 h2 h91 h202 h205 h250 h149 h152 h155 h186 h0_0 h0_1 (hE.pick _ ⟨rfl, rfl, rfl, rfl, rfl, rfl, rfl, rfl, rfl, rfl, rfl, rfl, rfl, rfl, rfl, trivial⟩) hS
                              · refine Br.mk (i := 12) true true rfl (by kernel_rfl) (by kernel_rfl) ?_
                                refine WL.alloc hE hS (runs_plain rfl) zr59 rfl ?_; clear hE hS a w; intro b251 a w hE hS
                                refine WL.nil ?_
                                refine ⟨⟨fun _ => ((hS.tail).tail), fun _ => ((hS.tail).tail)⟩, ?_⟩
                                refine Rg.one (i := 5) true true rfl (by kernel_rfl) (by kernel_rfl) (by kernel_rfl) ?_
                                have hc_ := SlicesCloneLfleetMove_ok hS h155 hq237
                                refine WL.fnq hE (hc_) (runs_plain rfl) bd16 rfl rfl rfl ?_
                                clear hE hS hc_; rintro e w ⟨a238, c239, n240, cs241, rfl, h242, rfl, hS⟩; refine ⟨_, rfl, ?_⟩; clear a; intro a hE
                                refine WL.nil ?_
                                refine ⟨⟨fun _ => (((hS.tail).tail).tail), fun _ => (((hS.tail).tail).tail)⟩, ?_⟩
                                refine Rg.one (i := 10) true true rfl (by kernel_rfl) (by kernel_rfl) (by kernel_rfl) ?_
                                replace hS := hS.front 2 rfl
                                refine WL.appD hE hS 0 (m := 1) (runs_plain rfl) rfl rfl rfl ap26 rfl h242 rfl (xs := [(FleetMove.mk ((k159 : Nat) : Int) q190)]) (Ev.cons (c1 := [.int .i64 ((k159 : Nat) : Int), .int .i64 q190]) rfl rfl (Ev.nil)) rfl rfl hx246 rfl ?_; clear hE hS a w; intro a247 c248 cs249 a w h250 hE hS
                                refine WL.nil ?_
                                refine ⟨⟨fun _ => ((hS.tail).tail), fun _ => ((hS.tail).tail)⟩, ?_⟩
                                refine Rg.takeP (i := 11) hE rfl (by kernel_rfl) (runs_plain rfl) (Gives.build hE (vs := [(0, .agg [.slice a200 q194.1.Room.length c201, .slice a203 q194.1.Tracks.length c204].toArray), (1, .int .i64 x126.gone), (2, .slice a247 x245.length c248)]) [.slice a200 q194.1.Room.length c201, .slice a203 q194.1.Tracks.length c204, .int .i64 x126.gone, .slice a247 x245.length c248] rfl (by kernel_rfl)) rfl (tw_sel (fun _ => ((hS.tail).tail)) (fun _ => ((hS.tail).tail))) ?_; clear hE a; intro a hE
                                refine Rg.one (i := 13) true true rfl (by kernel_rfl) (by kernel_rfl) (by kernel_rfl) ?_
                                refine WL.storeI hE hS 1 rfl [.slice a200 q194.1.Room.length c201, .slice a203 q194.1.Tracks.length c204, .int .i64 x126.gone, .slice a247 x245.length c248] (runs_plain rfl) rfl rfl rfl ty59 rfl rfl rfl rfl ?_; clear hE hS a w; intro a w hE hS
                                refine WL.nil ?_
                                refine ⟨⟨fun _ => ((hS.tail).tail), fun _ => ((hS.tail).tail)⟩, ?_⟩
                                refine Rg.done (by kernel_rfl) ?_
                                replace hS := hS.front 6 rfl
                                replace hS := hS.front 6 rfl
                                replace hS := hS.front 6 rfl
                                replace hS := hS.front 6 rfl
                                replace hS := hS.front 6 rfl
                                replace hS := hS.front 5 rfl
                                replace hS := hS.front 6 rfl
                                exact key _ _ _ _ _ _ h1 h2 h91 h202 h205 h250 h149 h152 h155 h186 h0_0 h0_1 (hE.pick _ ⟨rfl, rfl, rfl, rfl, rfl, rfl, rfl, rfl, rfl, rfl, rfl, rfl, rfl, rfl, rfl, trivial⟩) hS
                            · refine Br.mk (i := 12) true true rfl (by kernel_rfl) (by kernel_rfl) ?_
                              refine WL.alloc hE hS (runs_plain rfl) zr59 rfl ?_; clear hE hS a w; intro b251 a w hE hS
                              refine WL.nil ?_
                              refine ⟨⟨fun _ => (hS.tail), fun _ => (hS.tail)⟩, ?_⟩
                              refine Rg.many 5 [9] (by kernel_rfl) ⟨?_, ?_, trivial⟩
                              · refine Br.mk (i := 5) true true rfl (by kernel_rfl) (by kernel_rfl) ?_
                                have hc_ := SlicesCloneLfleetMove_ok hS h155 hq237
                                refine WL.fnq hE (hc_) (runs_plain rfl) bd16 rfl rfl rfl ?_
                                clear hE hS hc_; rintro e w ⟨a238, c239, n240, cs241, rfl, h242, rfl, hS⟩; refine ⟨_, rfl, ?_⟩; clear a; intro a hE
                                refine WL.nil ?_
                                refine ⟨⟨fun _ => ((hS.tail).tail), fun _ => ((hS.tail).tail)⟩, ?_⟩
                                refine Rg.one (i := 9) true true rfl (by kernel_rfl) (by kernel_rfl) (by kernel_rfl) ?_
                                refine WL.lit hE hS (e := 34) (es := 2) (vs := [(0, .agg [.int .i64 ((k159 : Nat) : Int), .int .i64 q190].toArray)]) (cs := [.int .i64 ((k159 : Nat) : Int), .int .i64 q190]) (runs_plain rfl) rfl (by kernel_rfl) rfl ?_; clear hE hS a w; intro b244 a w hE hS
                                refine WL.nil ?_
                                refine ⟨⟨fun _ => (((hS.tail).tail).tail), fun _ => (((hS.tail).tail).tail)⟩, ?_⟩
                                refine Rg.one (i := 10) true true rfl (by kernel_rfl) (by kernel_rfl) (by kernel_rfl) ?_
                                refine WL.appD hE hS 0 (m := 1) (runs_plain rfl) rfl rfl rfl ap26 rfl h242 rfl (xs := [(FleetMove.mk ((k159 : Nat) : Int) q190)]) (Ev.cons (c1 := [.int .i64 ((k159 : Nat) : Int), .int .i64 q190]) rfl rfl (Ev.nil)) rfl rfl hx246 rfl ?_; clear hE hS a w; intro a247 c248 cs249 a w h250 hE hS
                                refine WL.nil ?_
                                refine ⟨⟨fun _ => ((hS.tail).tail), fun _ => ((hS.tail).tail)⟩, ?_⟩
                                refine Rg.takeP (i := 11) hE rfl (by kernel_rfl) (runs_plain rfl) (Gives.build hE (vs := [(0, .agg [.slice a200 q194.1.Room.length c201, .slice a203 q194.1.Tracks.length c204].toArray), (1, .int .i64 x126.gone), (2, .slice a247 x245.length c248)]) [.slice a200 q194.1.Room.length c201, .slice a203 q194.1.Tracks.length c204, .int .i64 x126.gone, .slice a247 x245.length c248] rfl (by kernel_rfl)) rfl (tw_sel (fun _ => ((hS.tail).tail)) (fun _ => ((hS.tail).tail))) ?_; clear hE a; intro a hE
                                refine Rg.one (i := 13) true true rfl (by kernel_rfl) (by kernel_rfl) (by kernel_rfl) ?_
                                refine WL.storeI hE hS 1 rfl [.slice a200 q194.1.Room.length c201, .slice a203 q194.1.Tracks.length c204, .int .i64 x126.gone, .slice a247 x245.length c248] (runs_plain rfl) rfl rfl rfl ty59 rfl rfl rfl rfl ?_; clear hE hS a w; intro a w hE hS
                                refine WL.nil ?_
                                refine ⟨⟨fun _ => ((hS.tail).tail), fun _ => ((hS.tail).tail)⟩, ?_⟩
                                refine Rg.done (by kernel_rfl) ?_
                                replace hS := hS.front 6 rfl
                                replace hS := hS.front 6 rfl
                                replace hS := hS.front 6 rfl
                                replace hS := hS.front 6 rfl
                                replace hS := hS.front 6 rfl
                                replace hS := hS.front 5 rfl
                                replace hS := hS.front 6 rfl
                                exact key _ _ _ _ _ _ h1 h2 h91 h202 h205 h250 h149 h152 h155 h186 h0_0 h0_1 (hE.pick _ ⟨rfl, rfl, rfl, rfl, rfl, rfl, rfl, rfl, rfl, rfl, rfl, rfl, rfl, rfl, rfl, trivial⟩) hS
                              · refine Br.mk (i := 9) true true rfl (by kernel_rfl) (by kernel_rfl) ?_
                                refine WL.lit hE hS (e := 34) (es := 2) (vs := [(0, .agg [.int .i64 ((k159 : Nat) : Int), .int .i64 q190].toArray)]) (cs := [.int .i64 ((k159 : Nat) : Int), .int .i64 q190]) (runs_plain rfl) rfl (by kernel_rfl) rfl ?_; clear hE hS a w; intro b244 a w hE hS
                                refine WL.nil ?_
                                refine ⟨⟨fun _ => ((hS.tail).tail), fun _ => ((hS.tail).tail)⟩, ?_⟩
                                refine Rg.one (i := 5) true true rfl (by kernel_rfl) (by kernel_rfl) (by kernel_rfl) ?_
                                have hc_ := SlicesCloneLfleetMove_ok hS h155 hq237
                                refine WL.fnq hE (hc_) (runs_plain rfl) bd16 rfl rfl rfl ?_
                                clear hE hS hc_; rintro e w ⟨a238, c239, n240, cs241, rfl, h242, rfl, hS⟩; refine ⟨_, rfl, ?_⟩; clear a; intro a hE
                                refine WL.nil ?_
                                refine ⟨⟨fun _ => (((hS.tail).tail).tail), fun _ => (((hS.tail).tail).tail)⟩, ?_⟩
                                refine Rg.one (i := 10) true true rfl (by kernel_rfl) (by kernel_rfl) (by kernel_rfl) ?_
                                replace hS := hS.front 1 rfl
                                refine WL.appD hE hS 0 (m := 1) (runs_plain rfl) rfl rfl rfl ap26 rfl h242 rfl (xs := [(FleetMove.mk ((k159 : Nat) : Int) q190)]) (Ev.cons (c1 := [.int .i64 ((k159 : Nat) : Int), .int .i64 q190]) rfl rfl (Ev.nil)) rfl rfl hx246 rfl ?_; clear hE hS a w; intro a247 c248 cs249 a w h250 hE hS
                                refine WL.nil ?_
                                refine ⟨⟨fun _ => ((hS.tail).tail), fun _ => ((hS.tail).tail)⟩, ?_⟩
                                refine Rg.takeP (i := 11) hE rfl (by kernel_rfl) (runs_plain rfl) (Gives.build hE (vs := [(0, .agg [.slice a200 q194.1.Room.length c201, .slice a203 q194.1.Tracks.length c204].toArray), (1, .int .i64 x126.gone), (2, .slice a247 x245.length c248)]) [.slice a200 q194.1.Room.length c201, .slice a203 q194.1.Tracks.length c204, .int .i64 x126.gone, .slice a247 x245.length c248] rfl (by kernel_rfl)) rfl (tw_sel (fun _ => ((hS.tail).tail)) (fun _ => ((hS.tail).tail))) ?_; clear hE a; intro a hE
                                refine Rg.one (i := 13) true true rfl (by kernel_rfl) (by kernel_rfl) (by kernel_rfl) ?_
                                refine WL.storeI hE hS 1 rfl [.slice a200 q194.1.Room.length c201, .slice a203 q194.1.Tracks.length c204, .int .i64 x126.gone, .slice a247 x245.length c248] (runs_plain rfl) rfl rfl rfl ty59 rfl rfl rfl rfl ?_; clear hE hS a w; intro a w hE hS
                                refine WL.nil ?_
                                refine ⟨⟨fun _ => ((hS.tail).tail), fun _ => ((hS.tail).tail)⟩, ?_⟩
                                refine Rg.done (by kernel_rfl) ?_
                                replace hS := hS.front 6 rfl
                                replace hS := hS.front 6 rfl
                                replace hS := hS.front 6 rfl
                                replace hS := hS.front 6 rfl
                                replace hS := hS.front 6 rfl
                                replace hS := hS.front 5 rfl
                                replace hS := hS.front 6 rfl
                                exact key _ _ _ _ _ _ h1 h2 h91 h202 h205 h250 h149 h152 h155 h186 h0_0 h0_1 (hE.pick _ ⟨rfl, rfl, rfl, rfl, rfl, rfl, rfl, rfl, rfl, rfl, rfl, rfl, rfl, rfl, rfl, trivial⟩) hS
                          clear hE hS a w; intro cs249 b251 a247 c248 a w h1 h2 h91 h202 h205 h250 h149 h152 h155 h186 h0_0 h0_1 hE hS
                          subst hK235
                          refine W.seq ?_
                          refine W.seq ?_
                          refine W.region ?_
                          refine WL.vS hS hE (runs_plain rfl) (Gives.p hE rfl) rfl ?_; clear hE a; intro a hE
                          refine WL.vS hS hE (runs_plain rfl) (Gives.p hE rfl) rfl ?_; clear hE a; intro a hE
                          refine WL.nil ?_
                          obtain ⟨q254, hq253, hq177⟩ := bndS hq177
                          refine W.cut (fun a w => ∃ (q257 : Int), q257 = q254 ∧ Rep a 142 [(1, .slice a1 x1.length c1), (2, .slice a2 x2.length c2), (3, .pointer (some ⟨b51, 0, none⟩)), (10, .map (some b61)), (13, .slice a184 q183.length c185), (15, .pointer (some ⟨b156, 0, none⟩)), (16, .int .i64 ((k159 : Nat) : Int)), (17, .int .i64 q190), (21, .pointer (some ⟨b251, 0, none⟩)), (55, .slice a89 q88.length c90), (56, .int .i64 ((q88).length : Int)), (57, .int .i64 ((k125 : Nat) : Int)), (63, .int .i64 ((x0.Room).length : Int)), (64, .int .i64 ((k159 : Nat) : Int))] ∧ St w s198 (pt b251 (.cells #[.slice a200 q194.1.Room.length c201, .slice a203 q194.1.Tracks.length c204, .int .i64 q257, .slice a247 x245.length c248] 59 (0, 0)) :: vecC 34 2 a247 c248 x245.length cs249 :: pt b206 (.cells #[.slice a200 q194.1.Room.length c201, .slice a203 q194.1.Tracks.length c204] 25 (0, 0)) :: pt b156 (.cells #[.slice a147 x126.d.Room.length c148, .slice a150 x126.d.Tracks.length c151, .int .i64 x126.gone, .slice a153 x126.moves.length c154] 59 (0, 0)) :: vecC 59 4 a184 c185 q183.length cs188 :: mapC keyStr.f Value.bool b61 q191 :: pt b51 (.cells #[.slice a0_0 x0.Room.length c0_0, .slice a0_1 x0.Tracks.length c0_1] 25 (0, 0)) :: R)) ?_ ?_
                          · refine W.gen fun K258 hK258 => ?_
                            refine W.cond hE rfl (fun hc259 => ?_) (fun hc259 => ?_)
                            · replace hq253 := iteT hc259 hq253
                              refine W.region ?_
                              refine WL.vS hS hE (runs_plain rfl) (Gives.fld hE rfl fl59_1) rfl ?_; clear hE a; intro a hE
                              refine WL.vS hS hE (runs_plain rfl) (Gives.loadB hE 0 rfl rfl rfl ty3) rfl ?_; clear hE a; intro a hE
                              refine WL.vS hS hE (runs_plain rfl) (Gives.p hE rfl) rfl ?_; clear hE a; intro a hE
                              refine WL.vS hS hE (runs_plain rfl) (Gives.fld hE rfl fl59_1) rfl ?_; clear hE a; intro a hE
                              refine WL.storeI hE hS 0 rfl [.slice a200 q194.1.Room.length c201, .slice a203 q194.1.Tracks.length c204, .int .i64 (w64 (x126.gone + 1)), .slice a247 x245.length c248] (runs_plain rfl) rfl rfl rfl ty3 rfl rfl rfl rfl ?_; clear hE hS a w; intro a w hE hS
                              refine WL.nil ?_
                              subst hK258
                              exact ⟨w64 (x126.gone + 1), hq253, hE.pick _ ⟨rfl, rfl, rfl, rfl, rfl, rfl, rfl, rfl, rfl, rfl, rfl, rfl, rfl, rfl, trivial⟩, hS⟩
                            · replace hq253 := iteF hc259 hq253
                              refine W.skip ?_
                              subst hK258
                              exact ⟨x126.gone, hq253, hE.pick _ ⟨rfl, rfl, rfl, rfl, rfl, rfl, rfl, rfl, rfl, rfl, rfl, rfl, rfl, rfl, trivial⟩, hS⟩
                          · clear hE hS a w; rintro a w ⟨q257, rfl, hE, hS⟩
                            refine W.seq ?_
                            refine W.region ?_
                            refine WL.vS hS hE (runs_plain rfl) (Gives.loadBA hE 0 rfl rfl ty59) rfl ?_; clear hE a; intro a hE
                            obtain ⟨q260, hq261, hq177⟩ := bindS hq177
                            have hF := hS.lendV RFleetMove.mono 1 rfl h250 (rfl); clear hS; obtain ⟨t262, hle263, hS, hs264, bk265⟩ := hF
                            have hc_ := Fishref2Yardname_ok hS (Sl.mono RI.mono hle263 h202) (Sl.mono (RL.mono RI.mono) hle263 h205) hs264 hq261
                            refine WL.fnq hE (hc_) (runs_plain rfl) bd19 rfl rfl rfl ?_
                            clear hE hS hc_; rintro e w ⟨rfl, hS⟩; refine ⟨_, rfl, ?_⟩; clear a; intro a hE
                            replace hS := bk265 _ _ hS
                            refine WL.vS hS hE (runs_plain rfl) (Gives.p hE rfl) rfl ?_; clear hE a; intro a hE
                            refine WL.nil ?_
                            refine W.seq ?_
                            refine W.region ?_
                            refine WL.vS hS hE (runs_plain rfl) (Gives.p hE rfl) rfl ?_; clear hE a; intro a hE
                            refine WL.vS hS hE (runs_plain rfl) (Gives.p hE rfl) rfl ?_; clear hE a; intro a hE
                            refine WL.vS hS hE (runs_plain rfl) (Gives.mapGet keyStr hE 5 (k := q260) (z := false) rfl rfl rfl mp62 zm4) rfl ?_; clear hE a; intro a hE
                            refine WL.vS hS hE (runs_plain rfl) (Gives.p hE rfl) rfl ?_; clear hE a; intro a hE
                            refine WL.nil ?_
                            have hF := hS.fixD RFleetMove.mono 0 rfl h250 (rfl); clear hS; obtain ⟨s266, hle267, hS, h268⟩ := hF
                            replace h1 := Sl.mono RI.mono hle267 h1
                            replace h2 := Sl.mono RI.mono hle267 h2
                            replace h91 := Sl.mono RFishref2Yard.mono hle267 h91
                            replace h202 := Sl.mono RI.mono hle267 h202
                            replace h205 := Sl.mono (RL.mono RI.mono) hle267 h205
                            replace h149 := Sl.mono RI.mono hle267 h149
                            replace h152 := Sl.mono (RL.mono RI.mono) hle267 h152
                            replace h155 := Sl.mono RFleetMove.mono hle267 h155
                            replace h186 := Ev.mono RFishref2Yard.mono hle267 h186
                            replace h0_0 := Sl.mono RI.mono hle267 h0_0
                            replace h0_1 := Sl.mono (RL.mono RI.mono) hle267 h0_1
                            obtain ⟨q270, hq269, hq177⟩ := bindS hq177
                            refine W.cut (fun a w => ∃ (q273 : List Fishref2Yard), ∃ (q280 : List (ByteArray × Bool)), ∃ (a274 : Option Addr), ∃ (c275 : Nat), ∃ (n277 : Nat), ∃ (cs278 : List Value), (q273, q280) = q270 ∧ Ev 4 RFishref2Yard s266 cs278 q273 ∧ q273.length = n277 ∧ Rep a 142 [(1, .slice a1 x1.length c1), (2, .slice a2 x2.length c2), (3, .pointer (some ⟨b51, 0, none⟩)), (10, .map (some b61)), (13, .slice a274 n277 c275), (15, .pointer (some ⟨b156, 0, none⟩)), (16, .int .i64 ((k159 : Nat) : Int)), (17, .int .i64 q190), (55, .slice a89 q88.length c90), (56, .int .i64 ((q88).length : Int)), (57, .int .i64 ((k125 : Nat) : Int)), (63, .int .i64 ((x0.Room).length : Int)), (64, .int .i64 ((k159 : Nat) : Int))] ∧ St w s266 (pt b251 (.cells #[.slice a200 q194.1.Room.length c201, .slice a203 q194.1.Tracks.length c204, .int .i64 q257, .slice a247 x245.length c248] 59 (0, 0)) :: pt b206 (.cells #[.slice a200 q194.1.Room.length c201, .slice a203 q194.1.Tracks.length c204] 25 (0, 0)) :: pt b156 (.cells #[.slice a147 x126.d.Room.length c148, .slice a150 x126.d.Tracks.length c151, .int .i64 x126.gone, .slice a153 x126.moves.length c154] 59 (0, 0)) :: vecC 59 4 a274 c275 n277 cs278 :: mapC keyStr.f Value.bool b61 q280 :: pt b51 (.cells #[.slice a0_0 x0.Room.length c0_0, .slice a0_1 x0.Tracks.length c0_1] 25 (0, 0)) :: R)) ?_ ?_
                            · refine W.gen fun K281 hK281 => ?_
                              refine W.cond hE rfl (fun hc282 => ?_) (fun hc282 => ?_)
                              · replace hq269 := iteT hc282 hq269
                                refine W.seq ?_
                                refine W.region ?_
                                refine WL.vS hS hE (runs_plain rfl) (Gives.p hE rfl) rfl ?_; clear hE a; intro a hE
                                refine WL.vS hS hE (runs_plain rfl) (Gives.p hE rfl) rfl ?_; clear hE a; intro a hE
                                refine WL.mapSet keyStr hE hS 4 (k := q260) (v := true) (.inl rfl) (runs_plain rfl) rfl rfl rfl rfl mp62 rfl ?_; clear hE hS a w; intro a w hE hS
                                refine WL.nil ?_
                                refine W.region ?_
                                refine WL.vS hS hE (runs_plain rfl) (Gives.p hE rfl) rfl ?_; clear hE a; intro a hE
                                refine WL.vS hS hE (runs_plain rfl) (Gives.loadBA hE 0 rfl rfl ty59) rfl ?_; clear hE a; intro a hE
                                refine WL.lit hE hS (e := 59) (es := 4) (vs := [(0, .agg [.slice a200 q194.1.Room.length c201, .slice a203 q194.1.Tracks.length c204, .int .i64 q257, .slice a247 x245.length c248].toArray)]) (cs := [.slice a200 q194.1.Room.length c201, .slice a203 q194.1.Tracks.length c204, .int .i64 q257, .slice a247 x245.length c248]) (runs_plain rfl) rfl (by kernel_rfl) rfl ?_; clear hE hS a w; intro b283 a w hE hS
                                obtain ⟨x284, hx285, hq269⟩ := bindS hq269
                                refine WL.appD hE hS 3 (m := 1) (runs_plain rfl) rfl rfl rfl ap60 rfl h186 rfl (xs := [(Fishref2Yard.mk q194.1 q257 x245)]) (Ev.cons (c1 := [.slice a200 q194.1.Room.length c201, .slice a203 q194.1.Tracks.length c204, .int .i64 q257, .slice a247 x245.length c248]) ⟨_, _, _, _, _, _, rfl, h202, h205, h268⟩ rfl (Ev.nil)) rfl rfl hx285 rfl ?_; clear hE hS a w; intro a286 c287 cs288 a w h289 hE hS
                                refine WL.vS hS hE (runs_plain rfl) (Gives.p hE rfl) rfl ?_; clear hE a; intro a hE
                                refine WL.nil ?_
                                subst hK281
                                exact ⟨x284, (mput q191 q260 true), a286, c287, x284.length, cs288, Option.some.inj hq269, h289, (rfl), hE.pick _ ⟨rfl, rfl, rfl, rfl, rfl, rfl, rfl, rfl, rfl, rfl, rfl, rfl, rfl, trivial⟩, hS⟩
                              · replace hq269 := iteF hc282 hq269
                                refine W.skip ?_
                                subst hK281
                                exact ⟨q183, q191, a184, c185, q183.length, cs188, Option.some.inj hq269, h186, rfl, hE.pick _ ⟨rfl, rfl, rfl, rfl, rfl, rfl, rfl, rfl, rfl, rfl, rfl, rfl, rfl, trivial⟩, hS⟩
                            · clear hE hS a w; rintro a w ⟨q273, q280, a274, c275, n277, cs278, rfl, h276, rfl, hE, hS⟩
                              dsimp only at hq177
                              refine W.region ?_
                              refine WL.vS hS hE (runs_plain rfl) (Gives.p hE rfl) rfl ?_; clear hE a; intro a hE
                              refine WL.vS hS hE (runs_plain rfl) (Gives.p hE rfl) rfl ?_; clear hE a; intro a hE
                              refine WL.vS hS hE (runs_plain rfl) (Gives.p hE rfl) rfl ?_; clear hE a; intro a hE
                              refine WL.nil ?_
                              replace hS := hS.tail
                              replace hS := hS.tail
                              subst hK192
                              exact ⟨n179, Nat.lt_succ_self _, n179, q273, (w64 (q190 + 1)), q280, a274, c275, q273.length, cs278, s266, rfl, (Sg.Le.trans (Sg.Le.trans hle182 hle199) hle267), hq177, h276, rfl, hE.pick _ ⟨rfl, rfl, rfl, rfl, rfl, rfl, rfl, rfl, rfl, rfl, rfl, rfl, rfl, trivial⟩, hS⟩
                    · replace hq177 := iteF hc193 hq177
                      subst hK192
                      refine W.exit rfl ?_
                      exact ⟨q183, q190, q191, a184, c185, q183.length, cs188, s181, hle182, Option.some.inj hq177, h186, rfl, hE.pick _ ⟨rfl, rfl, rfl, rfl, rfl, rfl, rfl, rfl, rfl, rfl, rfl, trivial⟩, hS⟩
                  · clear hE hS a w; rintro a w ⟨q183, q190, q191, a184, c185, n187, cs188, s181, hle182, rfl, h186, rfl, hE, hS⟩
                    dsimp only at hq157
                    replace h1 := Sl.mono RI.mono hle182 h1
                    replace h2 := Sl.mono RI.mono hle182 h2
                    replace h91 := Sl.mono RFishref2Yard.mono hle182 h91
                    replace h149 := Sl.mono RI.mono hle182 h149
                    replace h152 := Sl.mono (RL.mono RI.mono) hle182 h152
                    replace h155 := Sl.mono RFleetMove.mono hle182 h155
                    replace h171 := Ev.mono RFishref2Yard.mono hle182 h171
                    replace h0_0 := Sl.mono RI.mono hle182 h0_0
                    replace h0_1 := Sl.mono (RL.mono RI.mono) hle182 h0_1
                    refine W.region ?_
                    refine WL.vS hS hE (runs_plain rfl) (Gives.inc hE rfl (by have := h0_0.small; omega)) rfl ?_; clear hE a; intro a hE
                    refine WL.vS hS hE (runs_plain rfl) (Gives.p hE rfl) rfl ?_; clear hE a; intro a hE
                    refine WL.nil ?_
                    subst hK176
                    exact ⟨rest161.length, Nat.lt_succ_self _, rest161, k159 + 1, q183, q191, a184, c185, q183.length, cs188, s181, rfl, hd162, (Sg.Le.trans hle167 hle182), hq157, h186, rfl, hE.pick _ ⟨rfl, rfl, rfl, rfl, rfl, rfl, rfl, rfl, rfl, rfl, rfl, trivial⟩, hS⟩
              · clear hE hS a w; rintro a w ⟨q168, q175, a169, c170, n172, cs173, s166, hle167, rfl, h171, rfl, hE, hS⟩
                dsimp only at hq123
                replace h1 := Sl.mono RI.mono hle167 h1
                replace h2 := Sl.mono RI.mono hle167 h2
                replace h91 := Sl.mono RFishref2Yard.mono hle167 h91
                replace h149 := Sl.mono RI.mono hle167 h149
                replace h152 := Sl.mono (RL.mono RI.mono) hle167 h152
                replace h155 := Sl.mono RFleetMove.mono hle167 h155
                replace h0_0 := Sl.mono RI.mono hle167 h0_0
                replace h137 := Ev.mono RFishref2Yard.mono hle167 h137
                replace h0_1 := Sl.mono (RL.mono RI.mono) hle167 h0_1
                refine W.region ?_
                refine WL.vS hS hE (runs_plain rfl) (Gives.inc hE rfl (by have := h91.small; omega)) rfl ?_; clear hE a; intro a hE
                refine WL.vS hS hE (runs_plain rfl) (Gives.p hE rfl) rfl ?_; clear hE a; intro a hE
                refine WL.nil ?_
                replace hS := hS.tail
                subst hK142
                exact ⟨rest127.length, Nat.lt_succ_self _, rest127, k125 + 1, q168, q175, a169, c170, q168.length, cs173, s166, rfl, hd128, (Sg.Le.trans hle133 hle167), hq123, h171, rfl, hE.pick _ ⟨rfl, rfl, rfl, rfl, rfl, rfl, rfl, rfl, trivial⟩, hS⟩
          · clear hE hS a w; rintro a w ⟨q134, q141, a135, c136, n138, cs139, s132, hle133, rfl, h137, rfl, hE, hS⟩
            dsimp only at hq82
            replace h1 := Sl.mono RI.mono hle133 h1
            replace h2 := Sl.mono RI.mono hle133 h2
            replace h91 := Sl.mono RFishref2Yard.mono hle133 h91
            replace h0_0 := Sl.mono RI.mono hle133 h0_0
            replace h0_1 := Sl.mono (RL.mono RI.mono) hle133 h0_1
            refine W.region ?_
            refine WL.vS hS hE (runs_plain rfl) (Gives.p hE rfl) rfl ?_; clear hE a; intro a hE
            refine WL.vS hS hE (runs_plain rfl) (Gives.p hE rfl) rfl ?_; clear hE a; intro a hE
            refine WL.nil ?_
            have hF := hS.fixD RFishref2Yard.mono 0 rfl h137 rfl; clear hS; obtain ⟨s290, hle291, hS, h292⟩ := hF
            replace h1 := Sl.mono RI.mono hle291 h1
            replace h2 := Sl.mono RI.mono hle291 h2
            replace h0_0 := Sl.mono RI.mono hle291 h0_0
            replace h0_1 := Sl.mono (RL.mono RI.mono) hle291 h0_1
            subst hK93
            exact ⟨n84, Nat.lt_succ_self _, n84, q134, q141, a135, c136, s290, rfl, (Sg.Le.trans (Sg.Le.trans hle87 hle133) hle291), hq82, h292, hE.pick _ ⟨rfl, rfl, rfl, rfl, rfl, trivial⟩, hS⟩
      · replace hq82 := iteF hc94 hq82
        subst hK93
        refine W.exit rfl ?_
        exact ⟨q88, q92, a89, c90, s86, hle87, Option.some.inj hq82, h91, hE.pick _ trivial, hS⟩
    · clear hE hS a w; rintro a w ⟨q88, q92, a89, c90, s86, hle87, rfl, h91, hE, hS⟩
      dsimp only at hr
      replace h0_0 := Sl.mono RI.mono hle87 h0_0
      replace h0_1 := Sl.mono (RL.mono RI.mono) hle87 h0_1
      replace h1 := Sl.mono RI.mono hle87 h1
      replace h2 := Sl.mono RI.mono hle87 h2
      replace h60 := Sl.mono RFishref2Yard.mono hle87 h60
      replace h73 := Sl.mono RI.mono hle87 h73
      replace h76 := Sl.mono (RL.mono RI.mono) hle87 h76
      replace h79 := Sl.mono RFleetMove.mono hle87 h79
      refine W.seq ?_
      refine W.region ?_
      refine WL.vS hS hE (runs_plain rfl) (Gives.p hE rfl) rfl ?_; clear hE a; intro a hE
      refine WL.vS hS hE (runs_plain rfl) (Gives.p hE rfl) rfl ?_; clear hE a; intro a hE
      refine WL.nil ?_
      refine W.ret ?_
      refine finG (fn := Tryd.f7) (rs := [.tmp 6, .tmp 7]) (vs := [_, _]) hE rfl ⟨rfl, rfl, trivial⟩ ?_
      obtain rfl := Option.some.inj hr
      replace hS := hS.tail
      replace hS := hS.tail
      exact ⟨none, 0, s86, rfl, (Sg.Le.trans hle59 hle87), Sl.nil, hS⟩
set_option maxHeartbeats 8000000 in
theorem SlicesEqualLfleetMove_ok  {w : World} {s : Sg} {R : List HP} {x0 : List FleetMove} {a0 : Option Addr} {c0 : Nat} {x1 : List FleetMove} {a1 : Option Addr} {c1 : Nat} (hS : St w s (R)) (h0 : Sl 2 RFleetMove s a0 c0 x0) (h1 : Sl 2 RFleetMove s a1 c1 x1) {r : Bool} (hr : SlicesEqualLfleetMove x0 x1 = some r) :
    Calls Tryd.prog 8 [.slice a0 x0.length c0, .slice a1 x1.length c1].toArray w (fun e w => e = .returned (.bool r) ∧ St w s (R)) := by
  refine enter Tryd.func8 rfl rfl rfl fun a hE => ?_
  rw [SlicesEqualLfleetMove] at hr
  refine W.seq ?_
  refine W.region ?_
  refine WL.vS hS hE (runs_plain rfl) (Gives.p hE rfl) rfl ?_; clear hE a; intro a hE
  refine WL.nil ?_
  refine W.seq ?_
  refine W.seq ?_
  refine W.region ?_
  refine WL.vS hS hE (runs_plain rfl) (Gives.p hE rfl) rfl ?_; clear hE a; intro a hE
  refine WL.vS hS hE (runs_plain rfl) (Gives.len hE rfl sl26) rfl ?_; clear hE a; intro a hE
  refine WL.vS hS hE (runs_plain rfl) (Gives.p hE rfl) rfl ?_; clear hE a; intro a hE
  refine WL.vS hS hE (runs_plain rfl) (Gives.len hE rfl sl26) rfl ?_; clear hE a; intro a hE
  refine WL.vS hS hE (runs_plain rfl) (Gives.p hE rfl) rfl ?_; clear hE a; intro a hE
  refine WL.nil ?_
  refine W.cond hE rfl (fun hc51 => ?_) (fun hc51 => ?_)
  · replace hr := iteT hc51 hr
    refine W.seq ?_
    refine W.region ?_
    refine WL.vS hS hE (runs_plain rfl) (Gives.p hE rfl) rfl ?_; clear hE a; intro a hE
    refine WL.nil ?_
    refine W.ret ?_
    refine finG (fn := Tryd.f8) (rs := [.tmp 4]) (vs := [_]) hE rfl ⟨rfl, trivial⟩ ?_
    obtain rfl := Option.some.inj hr
    exact ⟨rfl, hS⟩
  · replace hr := iteF hc51 hr
    refine W.skip ?_
    refine W.seq ?_
    refine W.seq ?_
    refine W.region ?_
    refine WL.vS hS hE (runs_plain rfl) (Gives.p hE rfl) rfl ?_; clear hE a; intro a hE
    refine WL.vS hS hE (runs_plain rfl) (Gives.len hE rfl sl26) rfl ?_; clear hE a; intro a hE
    refine WL.vS hS hE (runs_plain rfl) (Gives.p hE rfl) rfl ?_; clear hE a; intro a hE
    refine WL.nil ?_
    obtain ⟨q53, hq52, hr⟩ := bindS hr
    refine W.cut (fun a w => (.next ()) = q53 ∧ Rep a 26 [] ∧ St w s (R)) ?_ ?_
    · refine W.block ?_
      refine W.loop (fun m a w => ∃ (rest56 : List FleetMove) (k54 : Nat), rest56.length = m ∧ x0.drop k54 = rest56 ∧ SlicesEqualLfleetMove.loop1 x1 rest56 k54 = some q53 ∧ Rep a 26 [(0, .slice a0 x0.length c0), (1, .slice a1 x1.length c1), (12, .int .i64 ((x0).length : Int)), (13, .int .i64 ((k54 : Nat) : Int))] ∧ St w s (R)) (m := x0.length) ⟨x0, 0, rfl, rfl, hq52, hE.pick _ ⟨rfl, rfl, rfl, rfl, trivial⟩, hS⟩ ?_
      clear hE hS a w hq52; rintro m60 a w ⟨rest56, k54, rfl, hd57, hq52, hE, hS⟩
      refine W.gen fun K63 hK63 => ?_
      rcases rest56 with _ | ⟨x55, rest56⟩
      · have hlt58 := drop_nil hd57
        refine W.seq ?_
        refine W.region ?_
        refine WL.vS hS hE (runs_plain rfl) (Gives.p hE rfl) rfl ?_; clear hE a; intro a hE
        refine WL.nil ?_
        refine W.seq ?_
        refine W.condF hE rfl (decide_eq_false (by omega)) ?_
        subst hK63
        refine W.exit rfl ?_
        exact ⟨Option.some.inj hq52, hE.pick _ trivial, hS⟩
      · obtain ⟨hlt58, hx59, hd57⟩ := drop_cons hd57
        rw [SlicesEqualLfleetMove.loop1] at hq52
        refine W.seq ?_
        refine W.region ?_
        refine WL.vS hS hE (runs_plain rfl) (Gives.p hE rfl) rfl ?_; clear hE a; intro a hE
        refine WL.nil ?_
        refine W.seq ?_
        refine W.condT hE rfl (decide_eq_true (by omega)) ?_
        refine W.skip ?_
        refine W.seq ?_
        refine W.block ?_
        refine W.seq ?_
        refine W.region ?_
        refine WL.vS hS hE (runs_plain rfl) (Gives.p hE rfl) rfl ?_; clear hE a; intro a hE
        refine WL.vS hS hE (runs_plain rfl) (Gives.p hE rfl) rfl ?_; clear hE a; intro a hE
        refine WL.nil ?_
        refine W.seq ?_
        refine W.regionQ (C := fun w => St w s (R)) mixed (by kernel_rfl) hS.drew ?_
        refine QL.v hE (runs_plain rfl) (Gives.p hE rfl) rfl ?_; clear hE a; intro a hE
        refine QL.v hE (runs_plain rfl) (Gives.p hE rfl) rfl ?_; clear hE a; intro a hE
        obtain ⟨cs64, hl65, hR66, hat67⟩ := h0.at hx59
        subst hR66
        refine QL.v hE (runs_plain rfl) (Gives.idx hE k54 rfl rfl sl26 rfl hlt58 (h0.aok hlt58)) rfl ?_; clear hE a; intro a hE
        refine QL.v hE (runs_plain rfl) (Gives.loadA hE rfl (fun w h => hat67 w _ h) ty34) rfl ?_; clear hE a; intro a hE
        refine QL.v hE (runs_plain rfl) (Gives.p hE rfl) rfl ?_; clear hE a; intro a hE
        refine QL.v hE (runs_plain rfl) (Gives.p hE rfl) rfl ?_; clear hE a; intro a hE
        obtain ⟨x68, hx69, hq52⟩ := bindS hq52
        obtain ⟨hi70, hlt71, hy72⟩ := gx_some hx69
        obtain ⟨cs73, hl74, hR75, hat76⟩ := h1.at hy72
        subst hR75
        refine QL.v hE (runs_plain rfl) (Gives.idx hE (((k54 : Nat) : Int)).toNat rfl rfl sl26 hi70 hlt71 (h1.aok hlt71)) rfl ?_; clear hE a; intro a hE
        refine QL.v hE (runs_plain rfl) (Gives.loadA hE rfl (fun w h => hat76 w _ h) ty34) rfl ?_; clear hE a; intro a hE
        refine QL.v hE (runs_plain rfl) (show Gives _ _ _ _ (Value.bool (!((x55.From == x68.From) && (x55.To == x68.To)))) from Gives.neS hE [.i .i64, .i .i64] [.i .i64 x55.From, .i .i64 x55.To] [.i .i64 x68.From, .i .i64 x68.To] rfl rfl se34 rfl rfl rfl rfl) rfl ?_; clear hE a; intro a hE
        refine QL.nil ?_; clear hS w; intro w hS
        refine W.cond hE rfl (fun hc77 => ?_) (fun hc77 => ?_)
        · replace hq52 := iteT hc77 hq52
          refine W.seq ?_
          refine W.region ?_
          refine WL.vS hS hE (runs_plain rfl) (Gives.p hE rfl) rfl ?_; clear hE a; intro a hE
          refine WL.nil ?_
          refine W.ret ?_
          subst hK63
          rw [← Option.some.inj hq52] at hr
          dsimp only at hr
          refine finG (fn := Tryd.f8) (rs := [.tmp 4]) (vs := [_]) hE rfl ⟨rfl, trivial⟩ ?_
          obtain rfl := Option.some.inj hr
          exact ⟨rfl, hS⟩
        · replace hq52 := iteF hc77 hq52
          refine W.skip ?_
          refine W.region ?_
          refine WL.vS hS hE (runs_plain rfl) (Gives.inc hE rfl (by have := h0.small; omega)) rfl ?_; clear hE a; intro a hE
          refine WL.vS hS hE (runs_plain rfl) (Gives.p hE rfl) rfl ?_; clear hE a; intro a hE
          refine WL.nil ?_
          subst hK63
          exact ⟨rest56.length, Nat.lt_succ_self _, rest56, k54 + 1, rfl, hd57, hq52, hE.pick _ ⟨rfl, rfl, rfl, rfl, trivial⟩, hS⟩
    · clear hE hS a w; rintro a w ⟨rfl, hE, hS⟩
      dsimp only at hr
      refine W.seq ?_
      refine W.region ?_
      refine WL.vS hS hE (runs_plain rfl) (Gives.p hE rfl) rfl ?_; clear hE a; intro a hE
      refine WL.nil ?_
      refine W.ret ?_
      refine finG (fn := Tryd.f8) (rs := [.tmp 4]) (vs := [_]) hE rfl ⟨rfl, trivial⟩ ?_
      obtain rfl := Option.some.inj hr
      exact ⟨rfl, hS⟩
set_option maxHeartbeats 8000000 in
theorem Fishlaw2FleetShunts_ok {fu : Nat}  {w : World} {s : Sg} {R : List HP} {x0 : FleetDepot} {a0_0 : Option Addr} {c0_0 : Nat} {a0_1 : Option Addr} {c0_1 : Nat} {x1 : List Int} {a1 : Option Addr} {c1 : Nat} {x2 : List Int} {a2 : Option Addr} {c2 : Nat} (hS : St w s (R)) (h0_0 : Sl 1 (RI .i64) s a0_0 c0_0 x0.Room) (h0_1 : Sl 1 (RL 1 (RI .i64)) s a0_1 c0_1 x0.Tracks) (h1 : Sl 1 (RI .i64) s a1 c1 x1) (h2 : Sl 1 (RI .i64) s a2 c2 x2) {r : Bool} (hr : Fishlaw2FleetShunts fu x0 x1 x2 = some r) :
    Calls Tryd.prog 3 [.agg [.slice a0_0 x0.Room.length c0_0, .slice a0_1 x0.Tracks.length c0_1].toArray, .slice a1 x1.length c1, .slice a2 x2.length c2].toArray w (fun e w => e = .returned (.bool r) ∧ St w s (R)) := by
  refine enter Tryd.func3 rfl rfl rfl fun a hE => ?_
  rw [Fishlaw2FleetShunts] at hr
  refine W.seq ?_
  refine W.region ?_
  refine WL.box hE hS (runs_plain rfl) rfl rfl rfl ?_; clear hE hS a w; intro b51 a w hE hS
  refine WL.vS hS hE (runs_plain rfl) (Gives.p hE rfl) rfl ?_; clear hE a; intro a hE
  refine WL.nil ?_
  refine W.seq ?_
  refine W.region ?_
  refine WL.vS hS hE (runs_plain rfl) (Gives.loadBA hE 0 rfl rfl ty25) rfl ?_; clear hE a; intro a hE
  refine WL.vS hS hE (runs_plain rfl) (Gives.p hE rfl) rfl ?_; clear hE a; intro a hE
  refine WL.vS hS hE (runs_plain rfl) (Gives.p hE rfl) rfl ?_; clear hE a; intro a hE
  obtain ⟨q52, hq53, hr⟩ := bindS hr
  have hc_ := FleetShunt_ok hS h0_0 h0_1 h1 h2 hq53
  refine WL.fnq hE (hc_) (runs_plain rfl) bd4 rfl rfl rfl ?_
  clear hE hS hc_; rintro e w ⟨a54, c55, s57, rfl, hle58, h56, hS⟩; refine ⟨_, rfl, ?_⟩; clear a; intro a hE
  replace h0_0 := Sl.mono RI.mono hle58 h0_0
  replace h0_1 := Sl.mono (RL.mono RI.mono) hle58 h0_1
  replace h1 := Sl.mono RI.mono hle58 h1
  replace h2 := Sl.mono RI.mono hle58 h2
  refine WL.vS hS hE (runs_plain rfl) (Gives.p hE rfl) rfl ?_; clear hE a; intro a hE
  refine WL.vS hS hE (runs_plain rfl) (Gives.p hE rfl) rfl ?_; clear hE a; intro a hE
  refine WL.vS hS hE (runs_plain rfl) (Gives.p hE rfl) rfl ?_; clear hE a; intro a hE
  refine WL.vS hS hE (runs_plain rfl) (Gives.p hE rfl) rfl ?_; clear hE a; intro a hE
  refine WL.vS hS hE (runs_plain rfl) (Gives.p hE rfl) rfl ?_; clear hE a; intro a hE
  refine WL.nil ?_
  refine W.seq ?_
  refine W.seq ?_
  obtain ⟨q60, hq59, hr⟩ := bindS hr
  refine W.cut (fun a w => ∃ (q63 : Bool), q63 = q60 ∧ Rep a 55 [(1, .slice a1 x1.length c1), (2, .slice a2 x2.length c2), (3, .pointer (some ⟨b51, 0, none⟩)), (7, .slice a54 q52.1.length c55), (8, .int .i64 q52.2), (26, .bool q63)] ∧ St w s57 (pt b51 (.cells #[.slice a0_0 x0.Room.length c0_0, .slice a0_1 x0.Tracks.length c0_1] 25 (0, 0)) :: R)) ?_ ?_
  · refine W.gen fun K64 hK64 => ?_
    refine W.region ?_
    refine WL.vS hS hE (runs_plain rfl) (Gives.p hE rfl) rfl ?_; clear hE a; intro a hE
    refine WL.vS hS hE (runs_plain rfl) (Gives.len hE rfl sl22) rfl ?_; clear hE a; intro a hE
    refine WL.vS hS hE (runs_plain rfl) (Gives.p hE rfl) rfl ?_; clear hE a; intro a hE
    refine WL.vS hS hE (runs_plain rfl) (Gives.p hE rfl) rfl ?_; clear hE a; intro a hE
    rcases Bool.eq_false_or_eq_true (decide (((x2).length : Int) > 6)) with hg65 | hg65
    · replace hq59 := iteT hg65 hq59
      refine WL.vS hS hE (runs_if hE rfl rfl rfl hg65) (Gives.loadBA hE 0 rfl rfl ty25) rfl ?_; clear hE a; intro a hE
      refine WL.vS hS hE (runs_if hE rfl rfl rfl hg65) (Gives.p hE rfl) rfl ?_; clear hE a; intro a hE
      obtain ⟨q66, hq67, hq59⟩ := bindS hq59
      have hc_ := Fishref2ShuntFault_ok hS h0_0 h0_1 h1 hq67
      refine WL.fnq hE (hc_) (runs_if hE rfl rfl rfl hg65) bd5 rfl rfl rfl ?_
      clear hE hS hc_; rintro e w ⟨rfl, hS⟩; refine ⟨_, rfl, ?_⟩; clear a; intro a hE
      refine WL.vS hS hE (runs_if hE rfl rfl rfl hg65) (Gives.p hE rfl) rfl ?_; clear hE a; intro a hE
      refine WL.vS hS hE (runs_plain rfl) (Gives.pickT hE rfl hg65 rfl) rfl ?_; clear hE a; intro a hE
      refine WL.nil ?_
      subst hK64
      exact ⟨(q66 == 0), Option.some.inj hq59, hE.pick _ ⟨rfl, rfl, rfl, rfl, rfl, rfl, trivial⟩, hS⟩
    · replace hq59 := iteF hg65 hq59
      refine WL.no hE (runs_not hE rfl rfl rfl (by rw [hg65]; decide)) rfl ?_; clear hE a; intro a hE
      refine WL.no hE (runs_not hE rfl rfl rfl (by rw [hg65]; decide)) rfl ?_; clear hE a; intro a hE
      refine WL.no hE (runs_not hE rfl rfl rfl (by rw [hg65]; decide)) rfl ?_; clear hE a; intro a hE
      refine WL.no hE (runs_not hE rfl rfl rfl (by rw [hg65]; decide)) rfl ?_; clear hE a; intro a hE
      refine WL.vS hS hE (runs_plain rfl) (Gives.pickF hE rfl hg65 rfl) rfl ?_; clear hE a; intro a hE
      refine WL.nil ?_
      subst hK64
      exact ⟨false, Option.some.inj hq59, hE.pick _ ⟨rfl, rfl, rfl, rfl, rfl, rfl, trivial⟩, hS⟩
  · clear hE hS a w; rintro a w ⟨q63, rfl, hE, hS⟩
    refine W.cond hE rfl (fun hc68 => ?_) (fun hc68 => ?_)
    · replace hr := iteT hc68 hr
      refine W.seq ?_
      obtain ⟨q70, hq69, hr⟩ := bindS hr
      refine W.cut (fun a w => ∃ (q73 : Bool), q73 = q70 ∧ Rep a 55 [(6, .bool q73)] ∧ St w s57 (pt b51 (.cells #[.slice a0_0 x0.Room.length c0_0, .slice a0_1 x0.Tracks.length c0_1] 25 (0, 0)) :: R)) ?_ ?_
      · refine W.gen fun K74 hK74 => ?_
        refine W.region ?_
        obtain ⟨q75, hq76, hq69⟩ := bindS hq69
        have hc_ := Fishlaw2yards_ok hS  hq76
        refine WL.fnq hE (hc_) (runs_plain rfl) bd6 rfl rfl rfl ?_
        clear hE hS hc_; rintro e w ⟨rfl, hS⟩; refine ⟨_, rfl, ?_⟩; clear a; intro a hE
        refine WL.vS hS hE (runs_plain rfl) (Gives.p hE rfl) rfl ?_; clear hE a; intro a hE
        rcases Bool.eq_false_or_eq_true q75 with hg77 | hg77
        · replace hq69 := iteT hg77 hq69
          refine WL.vS hS hE (runs_if hE rfl rfl rfl hg77) (Gives.p hE rfl) rfl ?_; clear hE a; intro a hE
          refine WL.vS hS hE (runs_if hE rfl rfl rfl hg77) (Gives.p hE rfl) rfl ?_; clear hE a; intro a hE
          refine WL.vS hS hE (runs_plain rfl) (Gives.pickT hE rfl hg77 rfl) rfl ?_; clear hE a; intro a hE
          refine WL.vS hS hE (runs_plain rfl) (Gives.p hE rfl) rfl ?_; clear hE a; intro a hE
          rcases Bool.eq_false_or_eq_true (q52.2 == 9) with hg78 | hg78
          · replace hq69 := iteT hg78 hq69
            refine WL.vS hS hE (runs_if hE rfl rfl rfl hg78) (Gives.p hE rfl) rfl ?_; clear hE a; intro a hE
            refine WL.vS hS hE (runs_if hE rfl rfl rfl hg78) (Gives.len hE rfl sl26) rfl ?_; clear hE a; intro a hE
            refine WL.vS hS hE (runs_if hE rfl rfl rfl hg78) (Gives.p hE rfl) rfl ?_; clear hE a; intro a hE
            refine WL.vS hS hE (runs_plain rfl) (Gives.pickT hE rfl hg78 rfl) rfl ?_; clear hE a; intro a hE
            refine WL.vS hS hE (runs_plain rfl) (Gives.p hE rfl) rfl ?_; clear hE a; intro a hE
            refine WL.nil ?_
            subst hK74
            exact ⟨(((q52.1).length : Int) == 0), Option.some.inj hq69, hE.pick _ ⟨rfl, trivial⟩, hS⟩
          · replace hq69 := iteF hg78 hq69
            refine WL.no hE (runs_not hE rfl rfl rfl (by rw [hg78]; decide)) rfl ?_; clear hE a; intro a hE
            refine WL.no hE (runs_not hE rfl rfl rfl (by rw [hg78]; decide)) rfl ?_; clear hE a; intro a hE
            refine WL.no hE (runs_not hE rfl rfl rfl (by rw [hg78]; decide)) rfl ?_; clear hE a; intro a hE
            refine WL.vS hS hE (runs_plain rfl) (Gives.pickF hE rfl hg78 rfl) rfl ?_; clear hE a; intro a hE
            refine WL.vS hS hE (runs_plain rfl) (Gives.p hE rfl) rfl ?_; clear hE a; intro a hE
            refine WL.nil ?_
            subst hK74
            exact ⟨false, Option.some.inj hq69, hE.pick _ ⟨rfl, trivial⟩, hS⟩
        · replace hq69 := iteF hg77 hq69
          refine WL.no hE (runs_not hE rfl rfl rfl (by rw [hg77]; decide)) rfl ?_; clear hE a; intro a hE
          refine WL.no hE (runs_not hE rfl rfl rfl (by rw [hg77]; decide)) rfl ?_; clear hE a; intro a hE
          refine WL.vS hS hE (runs_plain rfl) (Gives.pickF hE rfl hg77 rfl) rfl ?_; clear hE a; intro a hE
          refine WL.vS hS hE (runs_plain rfl) (Gives.p hE rfl) rfl ?_; clear hE a; intro a hE
          refine WL.no hE (runs_not hE rfl rfl rfl (by decide)) rfl ?_; clear hE a; intro a hE
          refine WL.no hE (runs_not hE rfl rfl rfl (by decide)) rfl ?_; clear hE a; intro a hE
          refine WL.no hE (runs_not hE rfl rfl rfl (by decide)) rfl ?_; clear hE a; intro a hE
          refine WL.vS hS hE (runs_plain rfl) (Gives.pickF hE rfl rfl rfl) rfl ?_; clear hE a; intro a hE
          refine WL.vS hS hE (runs_plain rfl) (Gives.p hE rfl) rfl ?_; clear hE a; intro a hE
          refine WL.nil ?_
          subst hK74
          exact ⟨false, Option.some.inj hq69, hE.pick _ ⟨rfl, trivial⟩, hS⟩
      · clear hE hS a w; rintro a w ⟨q73, rfl, hE, hS⟩
        refine W.ret ?_
        refine finG (fn := Tryd.f3) (rs := [.tmp 6]) (vs := [_]) hE rfl ⟨rfl, trivial⟩ ?_
        obtain rfl := Option.some.inj hr
        replace hS := hS.tail
        exact ⟨rfl, (hS.down hle58)⟩
    · replace hr := iteF hc68 hr
      refine W.skip ?_
      refine W.seq ?_
      refine W.region ?_
      refine WL.vS hS hE (runs_plain rfl) (Gives.loadBA hE 0 rfl rfl ty25) rfl ?_; clear hE a; intro a hE
      refine WL.vS hS hE (runs_plain rfl) (Gives.p hE rfl) rfl ?_; clear hE a; intro a hE
      refine WL.vS hS hE (runs_plain rfl) (Gives.p hE rfl) rfl ?_; clear hE a; intro a hE
      obtain ⟨q79, hq80, hr⟩ := bindS hr
      have hc_ := Fishref2ShuntOf_ok hS h0_0 h0_1 h1 h2 hq80
      refine WL.fnq hE (hc_) (runs_plain rfl) bd7 rfl rfl rfl ?_
      clear hE hS hc_; rintro e w ⟨a81, c82, s84, rfl, hle85, h83, hS⟩; refine ⟨_, rfl, ?_⟩; clear a; intro a hE
      replace h1 := Sl.mono RI.mono hle85 h1
      replace h2 := Sl.mono RI.mono hle85 h2
      replace h56 := Sl.mono RFleetMove.mono hle85 h56
      replace h0_0 := Sl.mono RI.mono hle85 h0_0
      replace h0_1 := Sl.mono (RL.mono RI.mono) hle85 h0_1
      refine WL.vS hS hE (runs_plain rfl) (Gives.p hE rfl) rfl ?_; clear hE a; intro a hE
      refine WL.vS hS hE (runs_plain rfl) (Gives.p hE rfl) rfl ?_; clear hE a; intro a hE
      refine WL.vS hS hE (runs_plain rfl) (Gives.p hE rfl) rfl ?_; clear hE a; intro a hE
      refine WL.vS hS hE (runs_plain rfl) (Gives.p hE rfl) rfl ?_; clear hE a; intro a hE
      refine WL.vS hS hE (runs_plain rfl) (Gives.p hE rfl) rfl ?_; clear hE a; intro a hE
      refine WL.nil ?_
      refine W.seq ?_
      obtain ⟨q87, hq86, hr⟩ := bindS hr
      refine W.cut (fun a w => ∃ (q90 : Bool), q90 = q87 ∧ Rep a 55 [(6, .bool q90)] ∧ St w s84 (pt b51 (.cells #[.slice a0_0 x0.Room.length c0_0, .slice a0_1 x0.Tracks.length c0_1] 25 (0, 0)) :: R)) ?_ ?_
      · refine W.gen fun K91 hK91 => ?_
        refine W.region ?_
        obtain ⟨q92, hq93, hq86⟩ := bindS hq86
        have hc_ := Fishlaw2yards_ok hS  hq93
        refine WL.fnq hE (hc_) (runs_plain rfl) bd6 rfl rfl rfl ?_
        clear hE hS hc_; rintro e w ⟨rfl, hS⟩; refine ⟨_, rfl, ?_⟩; clear a; intro a hE
        refine WL.vS hS hE (runs_plain rfl) (Gives.p hE rfl) rfl ?_; clear hE a; intro a hE
        rcases Bool.eq_false_or_eq_true q92 with hg94 | hg94
        · replace hq86 := iteT hg94 hq86
          refine WL.vS hS hE (runs_if hE rfl rfl rfl hg94) (Gives.p hE rfl) rfl ?_; clear hE a; intro a hE
          refine WL.vS hS hE (runs_if hE rfl rfl rfl hg94) (Gives.p hE rfl) rfl ?_; clear hE a; intro a hE
          refine WL.vS hS hE (runs_if hE rfl rfl rfl hg94) (Gives.p hE rfl) rfl ?_; clear hE a; intro a hE
          refine WL.vS hS hE (runs_plain rfl) (Gives.pickT hE rfl hg94 rfl) rfl ?_; clear hE a; intro a hE
          refine WL.vS hS hE (runs_plain rfl) (Gives.p hE rfl) rfl ?_; clear hE a; intro a hE
          rcases Bool.eq_false_or_eq_true (q52.2 == q79.2) with hg95 | hg95
          · replace hq86 := iteT hg95 hq86
            refine WL.vS hS hE (runs_if hE rfl rfl rfl hg95) (Gives.p hE rfl) rfl ?_; clear hE a; intro a hE
            refine WL.vS hS hE (runs_if hE rfl rfl rfl hg95) (Gives.p hE rfl) rfl ?_; clear hE a; intro a hE
            obtain ⟨q96, hq97, hq86⟩ := bindS hq86
            have hc_ := SlicesEqualLfleetMove_ok hS h56 h83 hq97
            refine WL.fnq hE (hc_) (runs_if hE rfl rfl rfl hg95) bd8 rfl rfl rfl ?_
            clear hE hS hc_; rintro e w ⟨rfl, hS⟩; refine ⟨_, rfl, ?_⟩; clear a; intro a hE
            refine WL.vS hS hE (runs_plain rfl) (Gives.pickT hE rfl hg95 rfl) rfl ?_; clear hE a; intro a hE
            refine WL.vS hS hE (runs_plain rfl) (Gives.p hE rfl) rfl ?_; clear hE a; intro a hE
            refine WL.nil ?_
            subst hK91
            exact ⟨q96, Option.some.inj hq86, hE.pick _ ⟨rfl, trivial⟩, hS⟩
          · replace hq86 := iteF hg95 hq86
            refine WL.no hE (runs_not hE rfl rfl rfl (by rw [hg95]; decide)) rfl ?_; clear hE a; intro a hE
            refine WL.no hE (runs_not hE rfl rfl rfl (by rw [hg95]; decide)) rfl ?_; clear hE a; intro a hE
            refine WL.no hE (runs_not hE rfl rfl rfl (by rw [hg95]; decide)) rfl ?_; clear hE a; intro a hE
            refine WL.vS hS hE (runs_plain rfl) (Gives.pickF hE rfl hg95 rfl) rfl ?_; clear hE a; intro a hE
            refine WL.vS hS hE (runs_plain rfl) (Gives.p hE rfl) rfl ?_; clear hE a; intro a hE
            refine WL.nil ?_
            subst hK91
            exact ⟨false, Option.some.inj hq86, hE.pick _ ⟨rfl, trivial⟩, hS⟩
        · replace hq86 := iteF hg94 hq86
          refine WL.no hE (runs_not hE rfl rfl rfl (by rw [hg94]; decide)) rfl ?_; clear hE a; intro a hE
          refine WL.no hE (runs_not hE rfl rfl rfl (by rw [hg94]; decide)) rfl ?_; clear hE a; intro a hE
          refine WL.no hE (runs_not hE rfl rfl rfl (by rw [hg94]; decide)) rfl ?_; clear hE a; intro a hE
          refine WL.vS hS hE (runs_plain rfl) (Gives.pickF hE rfl hg94 rfl) rfl ?_; clear hE a; intro a hE
          refine WL.vS hS hE (runs_plain rfl) (Gives.p hE rfl) rfl ?_; clear hE a; intro a hE
          refine WL.no hE (runs_not hE rfl rfl rfl (by decide)) rfl ?_; clear hE a; intro a hE
          refine WL.no hE (runs_not hE rfl rfl rfl (by decide)) rfl ?_; clear hE a; intro a hE
          refine WL.no hE (runs_not hE rfl rfl rfl (by decide)) rfl ?_; clear hE a; intro a hE
          refine WL.vS hS hE (runs_plain rfl) (Gives.pickF hE rfl rfl rfl) rfl ?_; clear hE a; intro a hE
          refine WL.vS hS hE (runs_plain rfl) (Gives.p hE rfl) rfl ?_; clear hE a; intro a hE
          refine WL.nil ?_
          subst hK91
          exact ⟨false, Option.some.inj hq86, hE.pick _ ⟨rfl, trivial⟩, hS⟩
      · clear hE hS a w; rintro a w ⟨q90, rfl, hE, hS⟩
        refine W.ret ?_
        refine finG (fn := Tryd.f3) (rs := [.tmp 6]) (vs := [_]) hE rfl ⟨rfl, trivial⟩ ?_
        obtain rfl := Option.some.inj hr
        replace hS := hS.tail
        exact ⟨rfl, (hS.down (Sg.Le.trans hle58 hle85))⟩
end Go.Proofs.YtfhkpdnohcidgaaDoor
