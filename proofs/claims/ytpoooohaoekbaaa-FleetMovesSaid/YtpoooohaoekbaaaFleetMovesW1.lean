/- The walks of the functions that FleetMoves reaches: each call comes to what its mirror says. The conditions are those of each contract. -/
import Derived.Test.YtpoooohaoekbaaaProg
import Derived.Test.YtpoooohaoekbaaaFleetMovesM
import Derived.Test.YtpoooohaoekbaaaFpMore
namespace Go.Proofs.Ytpoooohaoekbaaa
open Go Go.Fp
theorem ap22 : apOk Try.prog 22 3 1 = true := by kernel_rfl
theorem ap23 : apOk Try.prog 23 22 1 = true := by kernel_rfl
theorem bd12 : bodied Try.prog 12 = true := by kernel_rfl
theorem bd13 : bodied Try.prog 13 = true := by kernel_rfl
theorem bd14 : bodied Try.prog 14 = true := by kernel_rfl
theorem bd15 : bodied Try.prog 15 = true := by kernel_rfl
theorem bd16 : bodied Try.prog 16 = true := by kernel_rfl
theorem bd20 : bodied Try.prog 20 = true := by kernel_rfl
theorem bd21 : bodied Try.prog 21 = true := by kernel_rfl
theorem bd22 : bodied Try.prog 22 = true := by kernel_rfl
theorem bd23 : bodied Try.prog 23 = true := by kernel_rfl
theorem bd24 : bodied Try.prog 24 = true := by kernel_rfl
theorem bd25 : bodied Try.prog 25 = true := by kernel_rfl
theorem bd49 : bodied Try.prog 49 = true := by kernel_rfl
theorem bd50 : bodied Try.prog 50 = true := by kernel_rfl
theorem bd51 : bodied Try.prog 51 = true := by kernel_rfl
theorem bd55 : bodied Try.prog 55 = true := by kernel_rfl
theorem bd56 : bodied Try.prog 56 = true := by kernel_rfl
theorem bd57 : bodied Try.prog 57 = true := by kernel_rfl
theorem bd68 : bodied Try.prog 68 = true := by kernel_rfl
theorem fl25_0 : fldOk Try.prog 25 0 0 = true := by kernel_rfl
theorem fl25_1 : fldOk Try.prog 25 1 1 = true := by kernel_rfl
theorem fl44_0 : fldOk Try.prog 44 0 0 = true := by kernel_rfl
theorem fl44_1 : fldOk Try.prog 44 1 1 = true := by kernel_rfl
theorem isl22 : isSl Try.prog 22 = true := by kernel_rfl
theorem mixed : Try.prog.follows .mixedOrders = true := by kernel_rfl
theorem mp80 : mpOk Try.prog keyI.ok 80 3 4 = true := by kernel_rfl
theorem sl22 : slOk Try.prog 22 3 1 = true := by kernel_rfl
theorem sl23 : slOk Try.prog 23 22 1 = true := by kernel_rfl
theorem sl38 : slOk Try.prog 38 44 2 = true := by kernel_rfl
theorem ty22 : tyOk Try.prog 22 false 1 = true := by kernel_rfl
theorem ty23 : tyOk Try.prog 23 false 1 = true := by kernel_rfl
theorem ty25 : tyOk Try.prog 25 true 2 = true := by kernel_rfl
theorem ty3 : tyOk Try.prog 3 false 1 = true := by kernel_rfl
theorem ty44 : tyOk Try.prog 44 true 2 = true := by kernel_rfl
theorem zm4 : (Try.prog.info? 4).bind (fun i => i.zero) = some (Value.bool false) := by kernel_rfl
theorem zr25 : (Try.prog.info? 25).bind (fun i => i.zero.map fun z => z.cells.toList) = some [.slice none 0 0, .slice none 0 0] := by kernel_rfl
theorem zr44 : (Try.prog.info? 44).bind (fun i => i.zero.map fun z => z.cells.toList) = some [.int .i64 0, .int .i64 0] := by kernel_rfl
set_option maxHeartbeats 8000000 in
theorem Fleetwithin_ok  {w : World} {s : Sg} {R : List HP} {x0 : Int} {x1 : Int} {x2 : Int} (hS : St w s (R))  {r : Bool} (hr : Fleetwithin x0 x1 x2 = r) :
    Calls Try.prog 51 [.int .i64 x0, .int .i64 x1, .int .i64 x2].toArray w (fun e w => e = .returned (.bool r) ∧ St w s (R)) := by
  refine enter Try.func51 rfl rfl rfl fun a hE => ?_
  rw [Fleetwithin] at hr
  refine W.seq ?_
  refine W.region ?_
  refine WL.vS hS hE (runs_plain rfl) (Gives.p hE rfl) rfl ?_; clear hE a; intro a hE
  refine WL.nil ?_
  refine W.seq ?_
  obtain ⟨q52, hq51, hr⟩ := bndS hr
  refine W.cut (fun a w => ∃ (q55 : Bool), q55 = q52 ∧ Rep a 15 [(6, .bool q55)] ∧ St w s (R)) ?_ ?_
  · refine W.gen fun K56 hK56 => ?_
    refine W.region ?_
    refine WL.vS hS hE (runs_plain rfl) (Gives.p hE rfl) rfl ?_; clear hE a; intro a hE
    refine WL.vS hS hE (runs_plain rfl) (Gives.p hE rfl) rfl ?_; clear hE a; intro a hE
    refine WL.vS hS hE (runs_plain rfl) (Gives.p hE rfl) rfl ?_; clear hE a; intro a hE
    refine WL.vS hS hE (runs_plain rfl) (Gives.p hE rfl) rfl ?_; clear hE a; intro a hE
    rcases Bool.eq_false_or_eq_true (decide (x0 ≥ x1)) with hg57 | hg57
    · replace hq51 := iteT hg57 hq51
      refine WL.vS hS hE (runs_if hE rfl rfl rfl hg57) (Gives.p hE rfl) rfl ?_; clear hE a; intro a hE
      refine WL.vS hS hE (runs_if hE rfl rfl rfl hg57) (Gives.p hE rfl) rfl ?_; clear hE a; intro a hE
      refine WL.vS hS hE (runs_if hE rfl rfl rfl hg57) (Gives.p hE rfl) rfl ?_; clear hE a; intro a hE
      refine WL.vS hS hE (runs_plain rfl) (Gives.pickT hE rfl hg57 rfl) rfl ?_; clear hE a; intro a hE
      refine WL.vS hS hE (runs_plain rfl) (Gives.p hE rfl) rfl ?_; clear hE a; intro a hE
      refine WL.nil ?_
      subst hK56
      exact ⟨decide (x0 ≤ x2), hq51, hE.pick _ ⟨rfl, trivial⟩, hS⟩
    · replace hq51 := iteF hg57 hq51
      refine WL.no hE (runs_not hE rfl rfl rfl (by rw [hg57]; decide)) rfl ?_; clear hE a; intro a hE
      refine WL.no hE (runs_not hE rfl rfl rfl (by rw [hg57]; decide)) rfl ?_; clear hE a; intro a hE
      refine WL.no hE (runs_not hE rfl rfl rfl (by rw [hg57]; decide)) rfl ?_; clear hE a; intro a hE
      refine WL.vS hS hE (runs_plain rfl) (Gives.pickF hE rfl hg57 rfl) rfl ?_; clear hE a; intro a hE
      refine WL.vS hS hE (runs_plain rfl) (Gives.p hE rfl) rfl ?_; clear hE a; intro a hE
      refine WL.nil ?_
      subst hK56
      exact ⟨false, hq51, hE.pick _ ⟨rfl, trivial⟩, hS⟩
  · clear hE hS a w; rintro a w ⟨q55, rfl, hE, hS⟩
    refine W.ret ?_
    refine finG (fn := Try.f51) (rs := [.tmp 6]) (vs := [_]) hE rfl ⟨rfl, trivial⟩ ?_
    subst hr
    exact ⟨rfl, hS⟩
set_option maxHeartbeats 8000000 in
theorem FleetCheckDepot_ok  {w : World} {s : Sg} {R : List HP} {x0 : FleetDepot} {a0_0 : Option Addr} {c0_0 : Nat} {a0_1 : Option Addr} {c0_1 : Nat} (hS : St w s (R)) (h0_0 : Sl 1 (RI .i64) s a0_0 c0_0 x0.Room) (h0_1 : Sl 1 (RL 1 (RI .i64)) s a0_1 c0_1 x0.Tracks) {r : Int} (hr : FleetCheckDepot x0 = some r) :
    Calls Try.prog 15 [.agg [.slice a0_0 x0.Room.length c0_0, .slice a0_1 x0.Tracks.length c0_1].toArray].toArray w (fun e w => e = .returned (.int .i64 r) ∧ St w s (R)) := by
  refine enter Try.func15 rfl rfl rfl fun a hE => ?_
  rw [FleetCheckDepot] at hr
  refine W.seq ?_
  refine W.region ?_
  refine WL.box hE hS (runs_plain rfl) rfl rfl rfl ?_; clear hE hS a w; intro b51 a w hE hS
  refine WL.vS hS hE (runs_plain rfl) (Gives.p hE rfl) rfl ?_; clear hE a; intro a hE
  refine WL.nil ?_
  refine W.seq ?_
  refine W.block ?_
  refine W.seq ?_
  refine W.region ?_
  refine WL.vS hS hE (runs_plain rfl) (Gives.fld hE rfl fl25_0) rfl ?_; clear hE a; intro a hE
  refine WL.vS hS hE (runs_plain rfl) (Gives.loadB hE 0 rfl rfl rfl ty22) rfl ?_; clear hE a; intro a hE
  refine WL.vS hS hE (runs_plain rfl) (Gives.len hE rfl sl22) rfl ?_; clear hE a; intro a hE
  refine WL.fn hE (Fleetwithin_ok hS  rfl) (runs_plain rfl) bd51 rfl rfl ?_
  clear hE hS; rintro e w ⟨rfl, hS⟩; refine ⟨_, rfl, ?_⟩; clear a; intro a hE
  refine WL.vS hS hE (runs_plain rfl) (Gives.p hE rfl) rfl ?_; clear hE a; intro a hE
  refine WL.vS hS hE (runs_plain rfl) (Gives.p hE rfl) rfl ?_; clear hE a; intro a hE
  refine WL.nil ?_
  refine W.cond hE rfl (fun hc52 => ?_) (fun hc52 => ?_)
  · replace hr := iteT hc52 hr
    refine W.seq ?_
    refine W.region ?_
    refine WL.vS hS hE (runs_plain rfl) (Gives.p hE rfl) rfl ?_; clear hE a; intro a hE
    refine WL.nil ?_
    refine W.ret ?_
    refine finG (fn := Try.f15) (rs := [.tmp 2]) (vs := [_]) hE rfl ⟨rfl, trivial⟩ ?_
    obtain rfl := Option.some.inj hr
    replace hS := hS.tail
    exact ⟨rfl, hS⟩
  · replace hr := iteF hc52 hr
    refine W.seq ?_
    refine W.region ?_
    refine WL.vS hS hE (runs_plain rfl) (Gives.fld hE rfl fl25_1) rfl ?_; clear hE a; intro a hE
    refine WL.vS hS hE (runs_plain rfl) (Gives.loadB hE 0 rfl rfl rfl ty23) rfl ?_; clear hE a; intro a hE
    refine WL.vS hS hE (runs_plain rfl) (Gives.len hE rfl sl23) rfl ?_; clear hE a; intro a hE
    refine WL.vS hS hE (runs_plain rfl) (Gives.fld hE rfl fl25_0) rfl ?_; clear hE a; intro a hE
    refine WL.vS hS hE (runs_plain rfl) (Gives.loadB hE 0 rfl rfl rfl ty22) rfl ?_; clear hE a; intro a hE
    refine WL.vS hS hE (runs_plain rfl) (Gives.len hE rfl sl22) rfl ?_; clear hE a; intro a hE
    refine WL.vS hS hE (runs_plain rfl) (Gives.p hE rfl) rfl ?_; clear hE a; intro a hE
    refine WL.vS hS hE (runs_plain rfl) (Gives.p hE rfl) rfl ?_; clear hE a; intro a hE
    refine WL.nil ?_
    refine W.cond hE rfl (fun hc53 => ?_) (fun hc53 => ?_)
    · replace hr := iteT hc53 hr
      refine W.seq ?_
      refine W.region ?_
      refine WL.vS hS hE (runs_plain rfl) (Gives.p hE rfl) rfl ?_; clear hE a; intro a hE
      refine WL.nil ?_
      refine W.ret ?_
      refine finG (fn := Try.f15) (rs := [.tmp 2]) (vs := [_]) hE rfl ⟨rfl, trivial⟩ ?_
      obtain rfl := Option.some.inj hr
      replace hS := hS.tail
      exact ⟨rfl, hS⟩
    · replace hr := iteF hc53 hr
      refine W.skip ?_
      refine W.seq ?_
      refine W.region ?_
      refine WL.mkMap (fk := keyI.f) (fv := Value.bool) hE hS (runs_plain rfl) rfl ?_; clear hE hS a w; intro b54 a w hE hS
      refine WL.vS hS hE (runs_plain rfl) (Gives.p hE rfl) rfl ?_; clear hE a; intro a hE
      refine WL.nil ?_
      refine W.seq ?_
      refine W.seq ?_
      refine W.region ?_
      refine WL.vS hS hE (runs_plain rfl) (Gives.fld hE rfl fl25_1) rfl ?_; clear hE a; intro a hE
      refine WL.vS hS hE (runs_plain rfl) (Gives.loadB hE 1 rfl rfl rfl ty23) rfl ?_; clear hE a; intro a hE
      refine WL.vS hS hE (runs_plain rfl) (Gives.len hE rfl sl23) rfl ?_; clear hE a; intro a hE
      refine WL.vS hS hE (runs_plain rfl) (Gives.p hE rfl) rfl ?_; clear hE a; intro a hE
      refine WL.nil ?_
      obtain ⟨q56, hq55, hr⟩ := bindS hr
      refine W.cut (fun a w => ∃ (q66 : List (Int × Bool)), (.next q66) = q56 ∧ Rep a 66 [] ∧ St w s (mapC keyI.f Value.bool b54 q66 :: pt b51 (.cells #[.slice a0_0 x0.Room.length c0_0, .slice a0_1 x0.Tracks.length c0_1] 25 (0, 0)) :: R)) ?_ ?_
      · refine W.block ?_
        refine W.loop (fun m a w => ∃ (rest59 : List (List Int)) (k57 : Nat), ∃ (q66 : List (Int × Bool)), rest59.length = m ∧ x0.Tracks.drop k57 = rest59 ∧ FleetCheckDepot.loop1 x0 rest59 k57 q66 = some q56 ∧ Rep a 66 [(1, .pointer (some ⟨b51, 0, none⟩)), (3, .map (some b54)), (24, .slice a0_1 x0.Tracks.length c0_1), (25, .int .i64 ((x0.Tracks).length : Int)), (26, .int .i64 ((k57 : Nat) : Int))] ∧ St w s (mapC keyI.f Value.bool b54 q66 :: pt b51 (.cells #[.slice a0_0 x0.Room.length c0_0, .slice a0_1 x0.Tracks.length c0_1] 25 (0, 0)) :: R)) (m := x0.Tracks.length) ⟨x0.Tracks, 0, [], rfl, rfl, hq55, hE.pick _ ⟨rfl, rfl, rfl, rfl, rfl, trivial⟩, hS⟩ ?_
        clear hE hS a w hq55; rintro m63 a w ⟨rest59, k57, q66, rfl, hd60, hq55, hE, hS⟩
        refine W.gen fun K67 hK67 => ?_
        rcases rest59 with _ | ⟨x58, rest59⟩
        · have hlt61 := drop_nil hd60
          refine W.seq ?_
          refine W.region ?_
          refine WL.vS hS hE (runs_plain rfl) (Gives.p hE rfl) rfl ?_; clear hE a; intro a hE
          refine WL.nil ?_
          refine W.seq ?_
          refine W.condF hE rfl (decide_eq_false (by omega)) ?_
          subst hK67
          refine W.exit rfl ?_
          exact ⟨q66, Option.some.inj hq55, hE.pick _ trivial, hS⟩
        · obtain ⟨hlt61, hx62, hd60⟩ := drop_cons hd60
          rw [FleetCheckDepot.loop1] at hq55
          refine W.seq ?_
          refine W.region ?_
          refine WL.vS hS hE (runs_plain rfl) (Gives.p hE rfl) rfl ?_; clear hE a; intro a hE
          refine WL.nil ?_
          refine W.seq ?_
          refine W.condT hE rfl (decide_eq_true (by omega)) ?_
          refine W.skip ?_
          refine W.seq ?_
          refine W.block ?_
          refine W.seq ?_
          refine W.region ?_
          refine WL.vS hS hE (runs_plain rfl) (Gives.p hE rfl) rfl ?_; clear hE a; intro a hE
          obtain ⟨cs68, hl69, hR70, hat71⟩ := h0_1.at hx62
          obtain ⟨a72, c73, rfl, h74⟩ := hR70
          refine WL.vS hS hE (runs_plain rfl) (Gives.idx hE k57 rfl rfl sl23 rfl hlt61 (h0_1.aok hlt61)) rfl ?_; clear hE a; intro a hE
          refine WL.vS hS hE (runs_plain rfl) (Gives.load1 hE rfl (fun w h => hat71 w _ h) ty22) rfl ?_; clear hE a; intro a hE
          refine WL.vS hS hE (runs_plain rfl) (Gives.p hE rfl) rfl ?_; clear hE a; intro a hE
          refine WL.vS hS hE (runs_plain rfl) (Gives.p hE rfl) rfl ?_; clear hE a; intro a hE
          refine WL.nil ?_
          refine W.seq ?_
          refine W.block ?_
          refine W.seq ?_
          refine W.region ?_
          refine WL.vS hS hE (runs_plain rfl) (Gives.fld hE rfl fl25_0) rfl ?_; clear hE a; intro a hE
          refine WL.vS hS hE (runs_plain rfl) (Gives.loadB hE 1 rfl rfl rfl ty22) rfl ?_; clear hE a; intro a hE
          refine WL.vS hS hE (runs_plain rfl) (Gives.p hE rfl) rfl ?_; clear hE a; intro a hE
          obtain ⟨x75, hx76, hq55⟩ := bindS hq55
          obtain ⟨hi77, hlt78, hy79⟩ := gx_some hx76
          obtain ⟨cs80, hl81, hR82, hat83⟩ := h0_0.at hy79
          subst hR82
          refine WL.vS hS hE (runs_plain rfl) (Gives.idx hE (((k57 : Nat) : Int)).toNat rfl rfl sl22 hi77 hlt78 (h0_0.aok hlt78)) rfl ?_; clear hE a; intro a hE
          refine WL.vS hS hE (runs_plain rfl) (Gives.load1 hE rfl (fun w h => hat83 w _ h) ty3) rfl ?_; clear hE a; intro a hE
          refine WL.fn hE (Fleetwithin_ok hS  rfl) (runs_plain rfl) bd51 rfl rfl ?_
          clear hE hS; rintro e w ⟨rfl, hS⟩; refine ⟨_, rfl, ?_⟩; clear a; intro a hE
          refine WL.vS hS hE (runs_plain rfl) (Gives.p hE rfl) rfl ?_; clear hE a; intro a hE
          refine WL.vS hS hE (runs_plain rfl) (Gives.p hE rfl) rfl ?_; clear hE a; intro a hE
          refine WL.nil ?_
          refine W.cond hE rfl (fun hc84 => ?_) (fun hc84 => ?_)
          · replace hq55 := iteT hc84 hq55
            refine W.seq ?_
            refine W.region ?_
            refine WL.vS hS hE (runs_plain rfl) (Gives.p hE rfl) rfl ?_; clear hE a; intro a hE
            refine WL.nil ?_
            refine W.ret ?_
            subst hK67
            rw [← Option.some.inj hq55] at hr
            dsimp only at hr
            refine finG (fn := Try.f15) (rs := [.tmp 2]) (vs := [_]) hE rfl ⟨rfl, trivial⟩ ?_
            obtain rfl := Option.some.inj hr
            replace hS := hS.tail
            replace hS := hS.tail
            exact ⟨rfl, hS⟩
          · replace hq55 := iteF hc84 hq55
            refine W.seq ?_
            refine W.region ?_
            refine WL.vS hS hE (runs_plain rfl) (Gives.p hE rfl) rfl ?_; clear hE a; intro a hE
            refine WL.vS hS hE (runs_plain rfl) (Gives.len hE rfl sl22) rfl ?_; clear hE a; intro a hE
            refine WL.vS hS hE (runs_plain rfl) (Gives.fld hE rfl fl25_0) rfl ?_; clear hE a; intro a hE
            refine WL.vS hS hE (runs_plain rfl) (Gives.loadB hE 1 rfl rfl rfl ty22) rfl ?_; clear hE a; intro a hE
            refine WL.vS hS hE (runs_plain rfl) (Gives.p hE rfl) rfl ?_; clear hE a; intro a hE
            obtain ⟨x85, hx86, hq55⟩ := bindS hq55
            obtain ⟨hi87, hlt88, hy89⟩ := gx_some hx86
            obtain ⟨cs90, hl91, hR92, hat93⟩ := h0_0.at hy89
            subst hR92
            refine WL.vS hS hE (runs_plain rfl) (Gives.idx hE (((k57 : Nat) : Int)).toNat rfl rfl sl22 hi87 hlt88 (h0_0.aok hlt88)) rfl ?_; clear hE a; intro a hE
            refine WL.vS hS hE (runs_plain rfl) (Gives.load1 hE rfl (fun w h => hat93 w _ h) ty3) rfl ?_; clear hE a; intro a hE
            refine WL.vS hS hE (runs_plain rfl) (Gives.p hE rfl) rfl ?_; clear hE a; intro a hE
            refine WL.vS hS hE (runs_plain rfl) (Gives.p hE rfl) rfl ?_; clear hE a; intro a hE
            refine WL.nil ?_
            refine W.cond hE rfl (fun hc94 => ?_) (fun hc94 => ?_)
            · replace hq55 := iteT hc94 hq55
              refine W.seq ?_
              refine W.region ?_
              refine WL.vS hS hE (runs_plain rfl) (Gives.p hE rfl) rfl ?_; clear hE a; intro a hE
              refine WL.nil ?_
              refine W.ret ?_
              subst hK67
              rw [← Option.some.inj hq55] at hr
              dsimp only at hr
              refine finG (fn := Try.f15) (rs := [.tmp 2]) (vs := [_]) hE rfl ⟨rfl, trivial⟩ ?_
              obtain rfl := Option.some.inj hr
              replace hS := hS.tail
              replace hS := hS.tail
              exact ⟨rfl, hS⟩
            · replace hq55 := iteF hc94 hq55
              refine W.skip ?_
              refine W.seq ?_
              refine W.region ?_
              refine WL.vS hS hE (runs_plain rfl) (Gives.p hE rfl) rfl ?_; clear hE a; intro a hE
              refine WL.vS hS hE (runs_plain rfl) (Gives.len hE rfl sl22) rfl ?_; clear hE a; intro a hE
              refine WL.vS hS hE (runs_plain rfl) (Gives.p hE rfl) rfl ?_; clear hE a; intro a hE
              refine WL.nil ?_
              obtain ⟨q96, hq95, hq55⟩ := bndS hq55
              refine W.cut (fun a w => ∃ (q106 : List (Int × Bool)), (.next q106) = q96 ∧ Rep a 66 [(1, .pointer (some ⟨b51, 0, none⟩)), (3, .map (some b54)), (24, .slice a0_1 x0.Tracks.length c0_1), (25, .int .i64 ((x0.Tracks).length : Int)), (26, .int .i64 ((k57 : Nat) : Int))] ∧ St w s (mapC keyI.f Value.bool b54 q106 :: pt b51 (.cells #[.slice a0_0 x0.Room.length c0_0, .slice a0_1 x0.Tracks.length c0_1] 25 (0, 0)) :: R)) ?_ ?_
              · refine W.block ?_
                refine W.loop (fun m a w => ∃ (rest99 : List Int) (k97 : Nat), ∃ (q106 : List (Int × Bool)), rest99.length = m ∧ x58.drop k97 = rest99 ∧ FleetCheckDepot.loop2 rest99 q106 = q96 ∧ Rep a 66 [(1, .pointer (some ⟨b51, 0, none⟩)), (3, .map (some b54)), (24, .slice a0_1 x0.Tracks.length c0_1), (25, .int .i64 ((x0.Tracks).length : Int)), (26, .int .i64 ((k57 : Nat) : Int)), (48, .slice a72 x58.length c73), (49, .int .i64 ((x58).length : Int)), (50, .int .i64 ((k97 : Nat) : Int))] ∧ St w s (mapC keyI.f Value.bool b54 q106 :: pt b51 (.cells #[.slice a0_0 x0.Room.length c0_0, .slice a0_1 x0.Tracks.length c0_1] 25 (0, 0)) :: R)) (m := x58.length) ⟨x58, 0, q66, rfl, rfl, hq95, hE.pick _ ⟨rfl, rfl, rfl, rfl, rfl, rfl, rfl, rfl, trivial⟩, hS⟩ ?_
                clear hE hS a w hq95; rintro m103 a w ⟨rest99, k97, q106, rfl, hd100, hq95, hE, hS⟩
                refine W.gen fun K107 hK107 => ?_
                rcases rest99 with _ | ⟨x98, rest99⟩
                · have hlt101 := drop_nil hd100
                  refine W.seq ?_
                  refine W.region ?_
                  refine WL.vS hS hE (runs_plain rfl) (Gives.p hE rfl) rfl ?_; clear hE a; intro a hE
                  refine WL.nil ?_
                  refine W.seq ?_
                  refine W.condF hE rfl (decide_eq_false (by omega)) ?_
                  subst hK107
                  refine W.exit rfl ?_
                  exact ⟨q106, hq95, hE.pick _ ⟨rfl, rfl, rfl, rfl, rfl, trivial⟩, hS⟩
                · obtain ⟨hlt101, hx102, hd100⟩ := drop_cons hd100
                  rw [FleetCheckDepot.loop2] at hq95
                  refine W.seq ?_
                  refine W.region ?_
                  refine WL.vS hS hE (runs_plain rfl) (Gives.p hE rfl) rfl ?_; clear hE a; intro a hE
                  refine WL.nil ?_
                  refine W.seq ?_
                  refine W.condT hE rfl (decide_eq_true (by omega)) ?_
                  refine W.skip ?_
                  refine W.seq ?_
                  refine W.block ?_
                  refine W.seq ?_
                  refine W.region ?_
                  obtain ⟨cs108, hl109, hR110, hat111⟩ := h74.at hx102
                  subst hR110
                  refine WL.vS hS hE (runs_plain rfl) (Gives.idx hE k97 rfl rfl sl22 rfl hlt101 (h74.aok hlt101)) rfl ?_; clear hE a; intro a hE
                  refine WL.vS hS hE (runs_plain rfl) (Gives.load1 hE rfl (fun w h => hat111 w _ h) ty3) rfl ?_; clear hE a; intro a hE
                  refine WL.vS hS hE (runs_plain rfl) (Gives.p hE rfl) rfl ?_; clear hE a; intro a hE
                  refine WL.nil ?_
                  refine W.seq ?_
                  refine W.block ?_
                  refine W.seq ?_
                  refine W.region ?_
                  refine WL.vS hS hE (runs_plain rfl) (Gives.p hE rfl) rfl ?_; clear hE a; intro a hE
                  refine WL.fn hE (Fleetwithin_ok hS  rfl) (runs_plain rfl) bd51 rfl rfl ?_
                  clear hE hS; rintro e w ⟨rfl, hS⟩; refine ⟨_, rfl, ?_⟩; clear a; intro a hE
                  refine WL.vS hS hE (runs_plain rfl) (Gives.p hE rfl) rfl ?_; clear hE a; intro a hE
                  refine WL.vS hS hE (runs_plain rfl) (Gives.p hE rfl) rfl ?_; clear hE a; intro a hE
                  refine WL.nil ?_
                  refine W.cond hE rfl (fun hc112 => ?_) (fun hc112 => ?_)
                  · replace hq95 := iteT hc112 hq95
                    refine W.seq ?_
                    refine W.region ?_
                    refine WL.vS hS hE (runs_plain rfl) (Gives.p hE rfl) rfl ?_; clear hE a; intro a hE
                    refine WL.nil ?_
                    refine W.ret ?_
                    subst hK107
                    subst hK67
                    rw [← hq95] at hq55
                    dsimp only at hq55
                    rw [← Option.some.inj hq55] at hr
                    dsimp only at hr
                    refine finG (fn := Try.f15) (rs := [.tmp 2]) (vs := [_]) hE rfl ⟨rfl, trivial⟩ ?_
                    obtain rfl := Option.some.inj hr
                    replace hS := hS.tail
                    replace hS := hS.tail
                    exact ⟨rfl, hS⟩
                  · replace hq95 := iteF hc112 hq95
                    refine W.seq ?_
                    refine W.region ?_
                    refine WL.vS hS hE (runs_plain rfl) (Gives.p hE rfl) rfl ?_; clear hE a; intro a hE
                    refine WL.vS hS hE (runs_plain rfl) (Gives.p hE rfl) rfl ?_; clear hE a; intro a hE
                    refine WL.vS hS hE (runs_plain rfl) (Gives.mapGet keyI hE 0 (k := x98) (z := false) rfl rfl rfl mp80 zm4) rfl ?_; clear hE a; intro a hE
                    refine WL.vS hS hE (runs_plain rfl) (Gives.p hE rfl) rfl ?_; clear hE a; intro a hE
                    refine WL.nil ?_
                    refine W.cond hE rfl (fun hc113 => ?_) (fun hc113 => ?_)
                    · replace hq95 := iteT hc113 hq95
                      refine W.seq ?_
                      refine W.region ?_
                      refine WL.vS hS hE (runs_plain rfl) (Gives.p hE rfl) rfl ?_; clear hE a; intro a hE
                      refine WL.nil ?_
                      refine W.ret ?_
                      subst hK107
                      subst hK67
                      rw [← hq95] at hq55
                      dsimp only at hq55
                      rw [← Option.some.inj hq55] at hr
                      dsimp only at hr
                      refine finG (fn := Try.f15) (rs := [.tmp 2]) (vs := [_]) hE rfl ⟨rfl, trivial⟩ ?_
                      obtain rfl := Option.some.inj hr
                      replace hS := hS.tail
                      replace hS := hS.tail
                      exact ⟨rfl, hS⟩
                    · replace hq95 := iteF hc113 hq95
                      refine W.skip ?_
                      refine W.region ?_
                      refine WL.vS hS hE (runs_plain rfl) (Gives.p hE rfl) rfl ?_; clear hE a; intro a hE
                      refine WL.vS hS hE (runs_plain rfl) (Gives.p hE rfl) rfl ?_; clear hE a; intro a hE
                      refine WL.mapSet keyI hE hS 0 (k := x98) (v := true) (.inl rfl) (runs_plain rfl) rfl rfl rfl rfl mp80 rfl ?_; clear hE hS a w; intro a w hE hS
                      refine WL.nil ?_
                      refine W.region ?_
                      refine WL.vS hS hE (runs_plain rfl) (Gives.inc hE rfl (by have := h74.small; omega)) rfl ?_; clear hE a; intro a hE
                      refine WL.vS hS hE (runs_plain rfl) (Gives.p hE rfl) rfl ?_; clear hE a; intro a hE
                      refine WL.nil ?_
                      subst hK107
                      exact ⟨rest99.length, Nat.lt_succ_self _, rest99, k97 + 1, (mput q106 x98 true), rfl, hd100, hq95, hE.pick _ ⟨rfl, rfl, rfl, rfl, rfl, rfl, rfl, rfl, trivial⟩, hS⟩
              · clear hE hS a w; rintro a w ⟨q106, rfl, hE, hS⟩
                dsimp only at hq55
                refine W.region ?_
                refine WL.vS hS hE (runs_plain rfl) (Gives.inc hE rfl (by have := h0_1.small; omega)) rfl ?_; clear hE a; intro a hE
                refine WL.vS hS hE (runs_plain rfl) (Gives.p hE rfl) rfl ?_; clear hE a; intro a hE
                refine WL.nil ?_
                subst hK67
                exact ⟨rest59.length, Nat.lt_succ_self _, rest59, k57 + 1, q106, rfl, hd60, hq55, hE.pick _ ⟨rfl, rfl, rfl, rfl, rfl, trivial⟩, hS⟩
      · clear hE hS a w; rintro a w ⟨q66, rfl, hE, hS⟩
        dsimp only at hr
        refine W.seq ?_
        refine W.region ?_
        refine WL.vS hS hE (runs_plain rfl) (Gives.p hE rfl) rfl ?_; clear hE a; intro a hE
        refine WL.nil ?_
        refine W.ret ?_
        refine finG (fn := Try.f15) (rs := [.tmp 2]) (vs := [_]) hE rfl ⟨rfl, trivial⟩ ?_
        obtain rfl := Option.some.inj hr
        replace hS := hS.tail
        replace hS := hS.tail
        exact ⟨rfl, hS⟩
set_option maxHeartbeats 8000000 in
theorem SlicesCloneLint_ok  {w : World} {s : Sg} {R : List HP} {x0 : List Int} {a0 : Option Addr} {c0 : Nat} (hS : St w s (R)) (h0 : Sl 1 (RI .i64) s a0 c0 x0) {r : (List Int)} (hr : SlicesCloneLint x0 = some r) :
    Calls Try.prog 55 [.slice a0 x0.length c0].toArray w (fun e w => ∃ (a0 : Option Addr) (c0 n0 : Nat) (cs0 : List Value), e = .returned (.slice a0 n0 c0) ∧ Ev 1 (RI .i64) s cs0 r ∧ r.length = n0 ∧ St w s (vecC 3 1 a0 c0 n0 cs0 :: R)) := by
  refine enter Try.func55 rfl rfl rfl fun a hE => ?_
  rw [SlicesCloneLint] at hr
  refine W.seq ?_
  refine W.region ?_
  refine WL.vS hS hE (runs_plain rfl) (Gives.p hE rfl) rfl ?_; clear hE a; intro a hE
  refine WL.nil ?_
  refine W.seq ?_
  refine W.seq ?_
  refine W.region ?_
  refine WL.vS hS hE (runs_plain rfl) (Gives.p hE rfl) rfl ?_; clear hE a; intro a hE
  refine WL.vS hS hE (runs_plain rfl) (Gives.isNil hE rfl rfl isl22) rfl ?_; clear hE a; intro a hE
  refine WL.nil ?_
  rcases a0 with _ | g51
  · obtain rfl := h0.none_nil
    replace hr : some [] = _ := hr
    refine W.condT hE rfl rfl ?_
    refine W.seq ?_
    refine W.region ?_
    refine WL.vS hS hE (runs_plain rfl) (Gives.p hE rfl) rfl ?_; clear hE a; intro a hE
    refine WL.nil ?_
    refine W.ret ?_
    replace hS := hS.vecNil 3 1
    refine finG (fn := Try.f55) (rs := [.tmp 2]) (vs := [_]) hE rfl ⟨rfl, trivial⟩ ?_
    obtain rfl := Option.some.inj hr
    exact ⟨none, 0, 0, [], rfl, (Ev.nil), (rfl), hS⟩
  · skip
    refine W.condF hE rfl rfl ?_
    refine W.skip ?_
    refine W.seq ?_
    refine W.region ?_
    refine WL.lit hE hS (e := 3) (es := 1) (vs := []) (cs := []) (runs_plain rfl) rfl (by kernel_rfl) rfl ?_; clear hE hS a w; intro b53 a w hE hS
    replace hS := hS.ptVec (es := 1) (m := 0) rfl (by decide)
    have h55 : Ev 1 (RI .i64) s [] [] := (Ev.nil)
    refine WL.vS hS hE (runs_plain rfl) (Gives.p hE rfl) rfl ?_; clear hE a; intro a hE
    obtain ⟨x56, hx57, hr⟩ := bindS hr
    refine WL.appS hE hS 0 (runs_plain rfl) rfl rfl (xs := x0) rfl rfl ap22 RI.one h55 (rfl) h0 hx57 rfl ?_; clear hE hS a w; intro a58 c59 cs60 a w h61 hE hS
    refine WL.vS hS hE (runs_plain rfl) (Gives.p hE rfl) rfl ?_; clear hE a; intro a hE
    refine WL.nil ?_
    refine W.ret ?_
    refine finG (fn := Try.f55) (rs := [.tmp 2]) (vs := [_]) hE rfl ⟨rfl, trivial⟩ ?_
    obtain rfl := Option.some.inj hr
    exact ⟨a58, c59, x56.length, cs60, rfl, h61, (rfl), hS⟩
set_option maxHeartbeats 8000000 in
theorem Fleetdo_1_v1_ok  {w : World} {s : Sg} {R : List HP} {pb0 : Nat} {x0 : Int} {y0 : FleetDepot} {a_y0_0 : Option Addr} {c_y0_0 : Nat} {a_y0_1 : Option Addr} {c_y0_1 : Nat} (hS : St w s (pt pb0 (.cells #[.slice a_y0_0 y0.Room.length c_y0_0, .slice a_y0_1 y0.Tracks.length c_y0_1] 25 (0, 0)) :: R)) (_h_y0_0 : Sl 1 (RI .i64) s a_y0_0 c_y0_0 y0.Room) (_h_y0_1 : Sl 1 (RL 1 (RI .i64)) s a_y0_1 c_y0_1 y0.Tracks) {r : Bool} (hr : Fleetdo_1_v1 x0 y0 = r) :
    Calls Try.prog 68 [.int .i64 x0, .pointer (some ⟨pb0, 0, none⟩)].toArray w (fun e w => e = .returned (.bool r) ∧ St w s (pt pb0 (.cells #[.slice a_y0_0 y0.Room.length c_y0_0, .slice a_y0_1 y0.Tracks.length c_y0_1] 25 (0, 0)) :: R)) := by
  refine enter Try.func68 rfl rfl rfl fun a hE => ?_
  rw [Fleetdo_1_v1] at hr
  refine W.seq ?_
  refine W.region ?_
  refine WL.vS hS hE (runs_plain rfl) (Gives.p hE rfl) rfl ?_; clear hE a; intro a hE
  refine WL.nil ?_
  refine W.seq ?_
  refine W.region ?_
  refine WL.vS hS hE (runs_plain rfl) (Gives.p hE rfl) rfl ?_; clear hE a; intro a hE
  refine WL.vS hS hE (runs_plain rfl) (Gives.fld hE rfl fl25_1) rfl ?_; clear hE a; intro a hE
  refine WL.vS hS hE (runs_plain rfl) (Gives.loadB hE 0 rfl rfl rfl ty23) rfl ?_; clear hE a; intro a hE
  refine WL.vS hS hE (runs_plain rfl) (Gives.len hE rfl sl23) rfl ?_; clear hE a; intro a hE
  refine WL.vS hS hE (runs_plain rfl) (Gives.p hE rfl) rfl ?_; clear hE a; intro a hE
  refine WL.fn hE (Fleetwithin_ok hS  rfl) (runs_plain rfl) bd51 rfl rfl ?_
  clear hE hS; rintro e w ⟨rfl, hS⟩; refine ⟨_, rfl, ?_⟩; clear a; intro a hE
  refine WL.vS hS hE (runs_plain rfl) (Gives.p hE rfl) rfl ?_; clear hE a; intro a hE
  refine WL.nil ?_
  refine W.ret ?_
  refine finG (fn := Try.f68) (rs := [.tmp 3]) (vs := [_]) hE rfl ⟨rfl, trivial⟩ ?_
  subst hr
  exact ⟨rfl, hS⟩
set_option maxHeartbeats 8000000 in
theorem Fleetdo_ok  {w : World} {s : Sg} {R : List HP} {x0 : FleetDepot} {a0_0 : Option Addr} {c0_0 : Nat} {a0_1 : Option Addr} {c0_1 : Nat} {x1 : FleetMove} (hS : St w s (R)) (h0_0 : Sl 1 (RI .i64) s a0_0 c0_0 x0.Room) (h0_1 : Sl 1 (RL 1 (RI .i64)) s a0_1 c0_1 x0.Tracks) {r : FleetDepot × Int × Int} (hr : Fleetdo x0 x1 = some r) :
    Calls Try.prog 56 [.agg [.slice a0_0 x0.Room.length c0_0, .slice a0_1 x0.Tracks.length c0_1].toArray, .agg (FleetMove.cells x1).toArray].toArray w (fun e w => ∃ (cs0 : List Value) (t : Sg), e = .returned (.tuple #[.agg cs0.toArray, .int .i64 r.2.1, .int .i64 r.2.2]) ∧ s.Le t ∧ RFleetDepot t cs0 r.1 ∧ St w t (R)) := by
  refine enter Try.func56 rfl rfl rfl fun a hE => ?_
  rw [Fleetdo] at hr
  refine W.seq ?_
  refine W.region ?_
  refine WL.box hE hS (runs_plain rfl) rfl rfl rfl ?_; clear hE hS a w; intro b51 a w hE hS
  refine WL.box hE hS (runs_plain rfl) rfl rfl rfl ?_; clear hE hS a w; intro b52 a w hE hS
  refine WL.alloc hE hS (runs_plain rfl) zr25 rfl ?_; clear hE hS a w; intro b53 a w hE hS
  refine WL.vS hS hE (runs_plain rfl) (Gives.p hE rfl) rfl ?_; clear hE a; intro a hE
  refine WL.vS hS hE (runs_plain rfl) (Gives.p hE rfl) rfl ?_; clear hE a; intro a hE
  refine WL.nil ?_
  refine W.seq ?_
  refine W.region ?_
  refine WL.vS hS hE (runs_plain rfl) (Gives.mkfn hE (vs := [.pointer (some ⟨b51, 0, none⟩)]) rfl) rfl ?_; clear hE a; intro a hE
  refine WL.vS hS hE (runs_plain rfl) (Gives.p hE rfl) rfl ?_; clear hE a; intro a hE
  refine WL.nil ?_
  refine W.seq ?_
  refine W.block ?_
  refine W.seq ?_
  obtain ⟨q55, hq54, hr⟩ := bndS hr
  refine W.cut (fun a w => ∃ (q58 : Bool), q58 = q55 ∧ Rep a 131 [(2, .pointer (some ⟨b51, 0, none⟩)), (3, .pointer (some ⟨b52, 0, none⟩)), (4, .pointer (some ⟨b53, 0, none⟩)), (14, .bool q58)] ∧ St w s (pt b53 (.cells #[.slice none 0 0, .slice none 0 0] 25 (0, 0)) :: pt b52 (.cells (FleetMove.cells x1).toArray 44 (0, 0)) :: pt b51 (.cells #[.slice a0_0 x0.Room.length c0_0, .slice a0_1 x0.Tracks.length c0_1] 25 (0, 0)) :: R)) ?_ ?_
  · refine W.gen fun K59 hK59 => ?_
    refine W.region ?_
    refine WL.vS hS hE (runs_plain rfl) (Gives.p hE rfl) rfl ?_; clear hE a; intro a hE
    refine WL.vS hS hE (runs_plain rfl) (Gives.fld hE rfl fl44_0) rfl ?_; clear hE a; intro a hE
    refine WL.vS hS hE (runs_plain rfl) (Gives.loadB hE 1 rfl rfl rfl ty3) rfl ?_; clear hE a; intro a hE
    replace hS := hS.front 2 rfl
    refine WL.fnv hE (vs := [.int .i64 x1.From]) (cs := [.pointer (some ⟨b51, 0, none⟩)]) rfl (Fleetdo_1_v1_ok hS h0_0 h0_1 rfl) (runs_plain rfl) bd68 rfl rfl ?_
    clear hE hS; rintro e w ⟨rfl, hS⟩; refine ⟨_, rfl, ?_⟩; clear a; intro a hE
    refine WL.vS hS hE (runs_plain rfl) (Gives.p hE rfl) rfl ?_; clear hE a; intro a hE
    refine WL.vS hS hE (runs_plain rfl) (Gives.p hE rfl) rfl ?_; clear hE a; intro a hE
    rcases Bool.eq_false_or_eq_true (!(Fleetdo_1_v1 x1.From x0)) with hg60 | hg60
    · replace hq54 := iteT hg60 hq54
      refine WL.no hE (runs_not hE rfl rfl rfl (by rw [hg60]; decide)) rfl ?_; clear hE a; intro a hE
      refine WL.no hE (runs_not hE rfl rfl rfl (by rw [hg60]; decide)) rfl ?_; clear hE a; intro a hE
      refine WL.no hE (runs_not hE rfl rfl rfl (by rw [hg60]; decide)) rfl ?_; clear hE a; intro a hE
      refine WL.no hE (runs_not hE rfl rfl rfl (by rw [hg60]; decide)) rfl ?_; clear hE a; intro a hE
      refine WL.no hE (runs_not hE rfl rfl rfl (by rw [hg60]; decide)) rfl ?_; clear hE a; intro a hE
      refine WL.no hE (runs_not hE rfl rfl rfl (by rw [hg60]; decide)) rfl ?_; clear hE a; intro a hE
      refine WL.no hE (runs_undef hE rfl rfl rfl) rfl ?_; clear hE a; intro a hE
      refine WL.no hE (runs_undef hE rfl rfl rfl) rfl ?_; clear hE a; intro a hE
      refine WL.no hE (runs_undef hE rfl rfl rfl) rfl ?_; clear hE a; intro a hE
      refine WL.no hE (runs_not hE rfl rfl rfl (by rw [hg60]; decide)) rfl ?_; clear hE a; intro a hE
      refine WL.vS hS hE (runs_plain rfl) (Gives.pickT hE rfl hg60 rfl) rfl ?_; clear hE a; intro a hE
      refine WL.vS hS hE (runs_plain rfl) (Gives.p hE rfl) rfl ?_; clear hE a; intro a hE
      refine WL.nil ?_
      replace hS := hS.front 2 rfl
      replace hS := hS.front 2 rfl
      subst hK59
      exact ⟨true, hq54, hE.pick _ ⟨rfl, rfl, rfl, rfl, trivial⟩, hS⟩
    · replace hq54 := iteF hg60 hq54
      refine WL.vS hS hE (runs_if hE rfl rfl rfl hg60) (Gives.p hE rfl) rfl ?_; clear hE a; intro a hE
      refine WL.vS hS hE (runs_if hE rfl rfl rfl hg60) (Gives.fld hE rfl fl44_1) rfl ?_; clear hE a; intro a hE
      refine WL.vS hS hE (runs_if hE rfl rfl rfl hg60) (Gives.loadB hE 2 rfl rfl rfl ty3) rfl ?_; clear hE a; intro a hE
      refine WL.fnv hE (vs := [.int .i64 x1.To]) (cs := [.pointer (some ⟨b51, 0, none⟩)]) rfl (Fleetdo_1_v1_ok hS h0_0 h0_1 rfl) (runs_if hE rfl rfl rfl hg60) bd68 rfl rfl ?_
      clear hE hS; rintro e w ⟨rfl, hS⟩; refine ⟨_, rfl, ?_⟩; clear a; intro a hE
      refine WL.vS hS hE (runs_if hE rfl rfl rfl hg60) (Gives.p hE rfl) rfl ?_; clear hE a; intro a hE
      refine WL.vS hS hE (runs_if hE rfl rfl rfl hg60) (Gives.p hE rfl) rfl ?_; clear hE a; intro a hE
      rcases Bool.eq_false_or_eq_true (!(Fleetdo_1_v1 x1.To x0)) with hg61 | hg61
      · replace hq54 := iteT hg61 hq54
        refine WL.vS hS hE (runs_if hE rfl rfl rfl hg61) (Gives.fld hE rfl fl44_1) rfl ?_; clear hE a; intro a hE
        refine WL.vS hS hE (runs_if hE rfl rfl rfl hg61) (Gives.loadB hE 2 rfl rfl rfl ty3) rfl ?_; clear hE a; intro a hE
        refine WL.vS hS hE (runs_if hE rfl rfl rfl hg61) (Gives.p hE rfl) rfl ?_; clear hE a; intro a hE
        refine WL.vS hS hE (runs_if hE rfl rfl rfl hg60) (Gives.pickT hE rfl hg61 rfl) rfl ?_; clear hE a; intro a hE
        refine WL.vS hS hE (runs_plain rfl) (Gives.pickF hE rfl hg60 rfl) rfl ?_; clear hE a; intro a hE
        refine WL.vS hS hE (runs_plain rfl) (Gives.p hE rfl) rfl ?_; clear hE a; intro a hE
        refine WL.nil ?_
        replace hS := hS.front 2 rfl
        replace hS := hS.front 2 rfl
        subst hK59
        exact ⟨(x1.To != (-1)), hq54, hE.pick _ ⟨rfl, rfl, rfl, rfl, trivial⟩, hS⟩
      · replace hq54 := iteF hg61 hq54
        refine WL.no hE (runs_not hE rfl rfl rfl (by rw [hg61]; decide)) rfl ?_; clear hE a; intro a hE
        refine WL.no hE (runs_not hE rfl rfl rfl (by rw [hg61]; decide)) rfl ?_; clear hE a; intro a hE
        refine WL.no hE (runs_not hE rfl rfl rfl (by rw [hg61]; decide)) rfl ?_; clear hE a; intro a hE
        refine WL.vS hS hE (runs_if hE rfl rfl rfl hg60) (Gives.pickF hE rfl hg61 rfl) rfl ?_; clear hE a; intro a hE
        refine WL.vS hS hE (runs_plain rfl) (Gives.pickF hE rfl hg60 rfl) rfl ?_; clear hE a; intro a hE
        refine WL.vS hS hE (runs_plain rfl) (Gives.p hE rfl) rfl ?_; clear hE a; intro a hE
        refine WL.nil ?_
        replace hS := hS.front 2 rfl
        replace hS := hS.front 2 rfl
        subst hK59
        exact ⟨false, hq54, hE.pick _ ⟨rfl, rfl, rfl, rfl, trivial⟩, hS⟩
  · clear hE hS a w; rintro a w ⟨q58, rfl, hE, hS⟩
    refine W.cond hE rfl (fun hc62 => ?_) (fun hc62 => ?_)
    · replace hr := iteT hc62 hr
      refine W.seq ?_
      refine W.region ?_
      refine WL.vS hS hE (runs_plain rfl) (Gives.build hE (vs := []) [.slice none 0 0, .slice none 0 0] rfl (by kernel_rfl)) rfl ?_; clear hE a; intro a hE
      refine WL.storeI hE hS 0 rfl [.slice none 0 0, .slice none 0 0] (runs_plain rfl) rfl rfl rfl ty25 rfl rfl rfl rfl ?_; clear hE hS a w; intro a w hE hS
      refine WL.vS hS hE (runs_plain rfl) (Gives.p hE rfl) rfl ?_; clear hE a; intro a hE
      refine WL.vS hS hE (runs_plain rfl) (Gives.p hE rfl) rfl ?_; clear hE a; intro a hE
      refine WL.nil ?_
      refine W.ret ?_
      refine finG (fn := Try.f56) (rs := [.cell 4 25, .tmp 5, .tmp 6]) (vs := [_, _, _]) hE rfl ⟨⟨_, _, rfl, rfl, hS.seesAt 0 rfl, ty25⟩, rfl, rfl, trivial⟩ ?_
      obtain rfl := Option.some.inj hr
      replace hS := hS.tail
      replace hS := hS.tail
      replace hS := hS.tail
      exact ⟨_, s, rfl, (Sg.Le.refl _), ⟨_, _, _, _, rfl, Sl.nil, Sl.nil⟩, hS⟩
    · replace hr := iteF hc62 hr
      refine W.seq ?_
      refine W.region ?_
      refine WL.vS hS hE (runs_plain rfl) (Gives.fld hE rfl fl44_0) rfl ?_; clear hE a; intro a hE
      refine WL.vS hS hE (runs_plain rfl) (Gives.loadB hE 1 rfl rfl rfl ty3) rfl ?_; clear hE a; intro a hE
      refine WL.vS hS hE (runs_plain rfl) (Gives.fld hE rfl fl44_1) rfl ?_; clear hE a; intro a hE
      refine WL.vS hS hE (runs_plain rfl) (Gives.loadB hE 1 rfl rfl rfl ty3) rfl ?_; clear hE a; intro a hE
      refine WL.vS hS hE (runs_plain rfl) (Gives.p hE rfl) rfl ?_; clear hE a; intro a hE
      refine WL.vS hS hE (runs_plain rfl) (Gives.p hE rfl) rfl ?_; clear hE a; intro a hE
      refine WL.nil ?_
      refine W.cond hE rfl (fun hc63 => ?_) (fun hc63 => ?_)
      · replace hr := iteT hc63 hr
        refine W.seq ?_
        refine W.region ?_
        refine WL.vS hS hE (runs_plain rfl) (Gives.build hE (vs := []) [.slice none 0 0, .slice none 0 0] rfl (by kernel_rfl)) rfl ?_; clear hE a; intro a hE
        refine WL.storeI hE hS 0 rfl [.slice none 0 0, .slice none 0 0] (runs_plain rfl) rfl rfl rfl ty25 rfl rfl rfl rfl ?_; clear hE hS a w; intro a w hE hS
        refine WL.vS hS hE (runs_plain rfl) (Gives.p hE rfl) rfl ?_; clear hE a; intro a hE
        refine WL.vS hS hE (runs_plain rfl) (Gives.p hE rfl) rfl ?_; clear hE a; intro a hE
        refine WL.nil ?_
        refine W.ret ?_
        refine finG (fn := Try.f56) (rs := [.cell 4 25, .tmp 5, .tmp 6]) (vs := [_, _, _]) hE rfl ⟨⟨_, _, rfl, rfl, hS.seesAt 0 rfl, ty25⟩, rfl, rfl, trivial⟩ ?_
        obtain rfl := Option.some.inj hr
        replace hS := hS.tail
        replace hS := hS.tail
        replace hS := hS.tail
        exact ⟨_, s, rfl, (Sg.Le.refl _), ⟨_, _, _, _, rfl, Sl.nil, Sl.nil⟩, hS⟩
      · replace hr := iteF hc63 hr
        refine W.seq ?_
        refine W.region ?_
        refine WL.vS hS hE (runs_plain rfl) (Gives.fld hE rfl fl25_1) rfl ?_; clear hE a; intro a hE
        refine WL.vS hS hE (runs_plain rfl) (Gives.loadB hE 2 rfl rfl rfl ty23) rfl ?_; clear hE a; intro a hE
        refine WL.vS hS hE (runs_plain rfl) (Gives.fld hE rfl fl44_0) rfl ?_; clear hE a; intro a hE
        refine WL.vS hS hE (runs_plain rfl) (Gives.loadB hE 1 rfl rfl rfl ty3) rfl ?_; clear hE a; intro a hE
        obtain ⟨x64, hx65, hr⟩ := bindS hr
        obtain ⟨hi66, hlt67, hy68⟩ := gx_some hx65
        obtain ⟨cs69, hl70, hR71, hat72⟩ := h0_1.at hy68
        obtain ⟨a73, c74, rfl, h75⟩ := hR71
        refine WL.vS hS hE (runs_plain rfl) (Gives.idx hE (x1.From).toNat rfl rfl sl23 hi66 hlt67 (h0_1.aok hlt67)) rfl ?_; clear hE a; intro a hE
        refine WL.vS hS hE (runs_plain rfl) (Gives.load1 hE rfl (fun w h => hat72 w _ h) ty22) rfl ?_; clear hE a; intro a hE
        refine WL.vS hS hE (runs_plain rfl) (Gives.len hE rfl sl22) rfl ?_; clear hE a; intro a hE
        refine WL.vS hS hE (runs_plain rfl) (Gives.p hE rfl) rfl ?_; clear hE a; intro a hE
        refine WL.vS hS hE (runs_plain rfl) (Gives.p hE rfl) rfl ?_; clear hE a; intro a hE
        refine WL.nil ?_
        refine W.cond hE rfl (fun hc76 => ?_) (fun hc76 => ?_)
        · replace hr := iteT hc76 hr
          refine W.seq ?_
          refine W.region ?_
          refine WL.vS hS hE (runs_plain rfl) (Gives.build hE (vs := []) [.slice none 0 0, .slice none 0 0] rfl (by kernel_rfl)) rfl ?_; clear hE a; intro a hE
          refine WL.storeI hE hS 0 rfl [.slice none 0 0, .slice none 0 0] (runs_plain rfl) rfl rfl rfl ty25 rfl rfl rfl rfl ?_; clear hE hS a w; intro a w hE hS
          refine WL.vS hS hE (runs_plain rfl) (Gives.p hE rfl) rfl ?_; clear hE a; intro a hE
          refine WL.vS hS hE (runs_plain rfl) (Gives.p hE rfl) rfl ?_; clear hE a; intro a hE
          refine WL.nil ?_
          refine W.ret ?_
          refine finG (fn := Try.f56) (rs := [.cell 4 25, .tmp 5, .tmp 6]) (vs := [_, _, _]) hE rfl ⟨⟨_, _, rfl, rfl, hS.seesAt 0 rfl, ty25⟩, rfl, rfl, trivial⟩ ?_
          obtain rfl := Option.some.inj hr
          replace hS := hS.tail
          replace hS := hS.tail
          replace hS := hS.tail
          exact ⟨_, s, rfl, (Sg.Le.refl _), ⟨_, _, _, _, rfl, Sl.nil, Sl.nil⟩, hS⟩
        · replace hr := iteF hc76 hr
          refine W.seq ?_
          obtain ⟨q78, hq77, hr⟩ := bindS hr
          refine W.cut (fun a w => ∃ (q81 : Bool), q81 = q78 ∧ Rep a 131 [(2, .pointer (some ⟨b51, 0, none⟩)), (3, .pointer (some ⟨b52, 0, none⟩)), (4, .pointer (some ⟨b53, 0, none⟩)), (50, .bool q81)] ∧ St w s (pt b53 (.cells #[.slice none 0 0, .slice none 0 0] 25 (0, 0)) :: pt b52 (.cells (FleetMove.cells x1).toArray 44 (0, 0)) :: pt b51 (.cells #[.slice a0_0 x0.Room.length c0_0, .slice a0_1 x0.Tracks.length c0_1] 25 (0, 0)) :: R)) ?_ ?_
          · refine W.gen fun K82 hK82 => ?_
            refine W.regionQ (C := fun w => St w s (pt b53 (.cells #[.slice none 0 0, .slice none 0 0] 25 (0, 0)) :: pt b52 (.cells (FleetMove.cells x1).toArray 44 (0, 0)) :: pt b51 (.cells #[.slice a0_0 x0.Room.length c0_0, .slice a0_1 x0.Tracks.length c0_1] 25 (0, 0)) :: R)) mixed (by kernel_rfl) hS.drew ?_
            refine QL.v hE (runs_plain rfl) (Gives.fld hE rfl fl44_1) rfl ?_; clear hE a; intro a hE
            refine QL.v hE (runs_plain rfl) (Gives.loadB hE 1 rfl rfl rfl ty3) rfl ?_; clear hE a; intro a hE
            refine QL.v hE (runs_plain rfl) (Gives.p hE rfl) rfl ?_; clear hE a; intro a hE
            refine QL.v hE (runs_plain rfl) (Gives.p hE rfl) rfl ?_; clear hE a; intro a hE
            rcases Bool.eq_false_or_eq_true (decide (x1.To ≥ 0)) with hg83 | hg83
            · replace hq77 := iteT hg83 hq77
              refine QL.v hE (runs_if hE rfl rfl rfl hg83) (Gives.fld hE rfl fl25_1) rfl ?_; clear hE a; intro a hE
              refine QL.v hE (runs_if hE rfl rfl rfl hg83) (Gives.loadB hE 2 rfl rfl rfl ty23) rfl ?_; clear hE a; intro a hE
              refine QL.v hE (runs_if hE rfl rfl rfl hg83) (Gives.fld hE rfl fl44_1) rfl ?_; clear hE a; intro a hE
              refine QL.v hE (runs_if hE rfl rfl rfl hg83) (Gives.loadB hE 1 rfl rfl rfl ty3) rfl ?_; clear hE a; intro a hE
              obtain ⟨x84, hx85, hq77⟩ := bindS hq77
              obtain ⟨hi86, hlt87, hy88⟩ := gx_some hx85
              obtain ⟨cs89, hl90, hR91, hat92⟩ := h0_1.at hy88
              obtain ⟨a93, c94, rfl, h95⟩ := hR91
              refine QL.v hE (runs_if hE rfl rfl rfl hg83) (Gives.idx hE (x1.To).toNat rfl rfl sl23 hi86 hlt87 (h0_1.aok hlt87)) rfl ?_; clear hE a; intro a hE
              refine QL.v hE (runs_if hE rfl rfl rfl hg83) (Gives.load1 hE rfl (fun w h => hat92 w _ h) ty22) rfl ?_; clear hE a; intro a hE
              refine QL.v hE (runs_if hE rfl rfl rfl hg83) (Gives.len hE rfl sl22) rfl ?_; clear hE a; intro a hE
              refine QL.v hE (runs_if hE rfl rfl rfl hg83) (Gives.fld hE rfl fl25_0) rfl ?_; clear hE a; intro a hE
              refine QL.v hE (runs_if hE rfl rfl rfl hg83) (Gives.loadB hE 2 rfl rfl rfl ty22) rfl ?_; clear hE a; intro a hE
              refine QL.v hE (runs_if hE rfl rfl rfl hg83) (Gives.fld hE rfl fl44_1) rfl ?_; clear hE a; intro a hE
              refine QL.v hE (runs_if hE rfl rfl rfl hg83) (Gives.loadB hE 1 rfl rfl rfl ty3) rfl ?_; clear hE a; intro a hE
              obtain ⟨x96, hx97, hq77⟩ := bindS hq77
              obtain ⟨hi98, hlt99, hy100⟩ := gx_some hx97
              obtain ⟨cs101, hl102, hR103, hat104⟩ := h0_0.at hy100
              subst hR103
              refine QL.v hE (runs_if hE rfl rfl rfl hg83) (Gives.idx hE (x1.To).toNat rfl rfl sl22 hi98 hlt99 (h0_0.aok hlt99)) rfl ?_; clear hE a; intro a hE
              refine QL.v hE (runs_if hE rfl rfl rfl hg83) (Gives.load1 hE rfl (fun w h => hat104 w _ h) ty3) rfl ?_; clear hE a; intro a hE
              refine QL.v hE (runs_if hE rfl rfl rfl hg83) (Gives.p hE rfl) rfl ?_; clear hE a; intro a hE
              refine QL.v hE (runs_plain rfl) (Gives.pickT hE rfl hg83 rfl) rfl ?_; clear hE a; intro a hE
              refine QL.v hE (runs_plain rfl) (Gives.p hE rfl) rfl ?_; clear hE a; intro a hE
              refine QL.nil ?_; clear hS w; intro w hS
              subst hK82
              exact ⟨decide (((x84).length : Int) ≥ x96), Option.some.inj hq77, hE.pick _ ⟨rfl, rfl, rfl, rfl, trivial⟩, hS⟩
            · replace hq77 := iteF hg83 hq77
              refine QL.no hE (runs_not hE rfl rfl rfl (by rw [hg83]; decide)) rfl ?_; clear hE a; intro a hE
              refine QL.no hE (runs_not hE rfl rfl rfl (by rw [hg83]; decide)) rfl ?_; clear hE a; intro a hE
              refine QL.no hE (runs_not hE rfl rfl rfl (by rw [hg83]; decide)) rfl ?_; clear hE a; intro a hE
              refine QL.no hE (runs_not hE rfl rfl rfl (by rw [hg83]; decide)) rfl ?_; clear hE a; intro a hE
              refine QL.no hE (runs_not hE rfl rfl rfl (by rw [hg83]; decide)) rfl ?_; clear hE a; intro a hE
              refine QL.no hE (runs_not hE rfl rfl rfl (by rw [hg83]; decide)) rfl ?_; clear hE a; intro a hE
              refine QL.no hE (runs_not hE rfl rfl rfl (by rw [hg83]; decide)) rfl ?_; clear hE a; intro a hE
              refine QL.no hE (runs_not hE rfl rfl rfl (by rw [hg83]; decide)) rfl ?_; clear hE a; intro a hE
              refine QL.no hE (runs_not hE rfl rfl rfl (by rw [hg83]; decide)) rfl ?_; clear hE a; intro a hE
              refine QL.no hE (runs_not hE rfl rfl rfl (by rw [hg83]; decide)) rfl ?_; clear hE a; intro a hE
              refine QL.no hE (runs_not hE rfl rfl rfl (by rw [hg83]; decide)) rfl ?_; clear hE a; intro a hE
              refine QL.no hE (runs_not hE rfl rfl rfl (by rw [hg83]; decide)) rfl ?_; clear hE a; intro a hE
              refine QL.no hE (runs_not hE rfl rfl rfl (by rw [hg83]; decide)) rfl ?_; clear hE a; intro a hE
              refine QL.no hE (runs_not hE rfl rfl rfl (by rw [hg83]; decide)) rfl ?_; clear hE a; intro a hE
              refine QL.v hE (runs_plain rfl) (Gives.pickF hE rfl hg83 rfl) rfl ?_; clear hE a; intro a hE
              refine QL.v hE (runs_plain rfl) (Gives.p hE rfl) rfl ?_; clear hE a; intro a hE
              refine QL.nil ?_; clear hS w; intro w hS
              subst hK82
              exact ⟨false, Option.some.inj hq77, hE.pick _ ⟨rfl, rfl, rfl, rfl, trivial⟩, hS⟩
          · clear hE hS a w; rintro a w ⟨q81, rfl, hE, hS⟩
            refine W.cond hE rfl (fun hc105 => ?_) (fun hc105 => ?_)
            · replace hr := iteT hc105 hr
              refine W.seq ?_
              refine W.region ?_
              refine WL.vS hS hE (runs_plain rfl) (Gives.build hE (vs := []) [.slice none 0 0, .slice none 0 0] rfl (by kernel_rfl)) rfl ?_; clear hE a; intro a hE
              refine WL.storeI hE hS 0 rfl [.slice none 0 0, .slice none 0 0] (runs_plain rfl) rfl rfl rfl ty25 rfl rfl rfl rfl ?_; clear hE hS a w; intro a w hE hS
              refine WL.vS hS hE (runs_plain rfl) (Gives.p hE rfl) rfl ?_; clear hE a; intro a hE
              refine WL.vS hS hE (runs_plain rfl) (Gives.p hE rfl) rfl ?_; clear hE a; intro a hE
              refine WL.nil ?_
              refine W.ret ?_
              refine finG (fn := Try.f56) (rs := [.cell 4 25, .tmp 5, .tmp 6]) (vs := [_, _, _]) hE rfl ⟨⟨_, _, rfl, rfl, hS.seesAt 0 rfl, ty25⟩, rfl, rfl, trivial⟩ ?_
              obtain rfl := Option.some.inj hr
              replace hS := hS.tail
              replace hS := hS.tail
              replace hS := hS.tail
              exact ⟨_, s, rfl, (Sg.Le.refl _), ⟨_, _, _, _, rfl, Sl.nil, Sl.nil⟩, hS⟩
            · replace hr := iteF hc105 hr
              refine W.skip ?_
              refine W.seq ?_
              refine W.region ?_
              refine WL.vS hS hE (runs_plain rfl) (Gives.fld hE rfl fl25_0) rfl ?_; clear hE a; intro a hE
              refine WL.vS hS hE (runs_plain rfl) (Gives.loadB hE 2 rfl rfl rfl ty22) rfl ?_; clear hE a; intro a hE
              obtain ⟨q106, hq107, hr⟩ := bindS hr
              refine WL.fn hE (SlicesCloneLint_ok hS h0_0 hq107) (runs_plain rfl) bd55 rfl rfl ?_
              clear hE hS; rintro e w ⟨a108, c109, n110, cs111, rfl, h112, rfl, hS⟩; refine ⟨_, rfl, ?_⟩; clear a; intro a hE
              refine WL.vS hS hE (runs_plain rfl) (Gives.build hE (vs := [(0, .slice a108 q106.length c109)]) [.slice a108 q106.length c109, .slice none 0 0] rfl (by kernel_rfl)) rfl ?_; clear hE a; intro a hE
              refine WL.alloc hE hS (runs_plain rfl) zr25 rfl ?_; clear hE hS a w; intro b114 a w hE hS
              refine WL.storeI hE hS 0 rfl [.slice a108 q106.length c109, .slice none 0 0] (runs_plain rfl) rfl rfl rfl ty25 rfl rfl rfl rfl ?_; clear hE hS a w; intro a w hE hS
              refine WL.nil ?_
              refine W.seq ?_
              refine W.seq ?_
              refine W.region ?_
              refine WL.vS hS hE (runs_plain rfl) (Gives.fld hE rfl fl25_1) rfl ?_; clear hE a; intro a hE
              refine WL.vS hS hE (runs_plain rfl) (Gives.loadB hE 4 rfl rfl rfl ty23) rfl ?_; clear hE a; intro a hE
              refine WL.vS hS hE (runs_plain rfl) (Gives.len hE rfl sl23) rfl ?_; clear hE a; intro a hE
              refine WL.vS hS hE (runs_plain rfl) (Gives.p hE rfl) rfl ?_; clear hE a; intro a hE
              refine WL.nil ?_
              replace hS := hS.nestNil 22 3 1
              obtain ⟨q117, hq116, hr⟩ := bindS hr
              refine W.cut (fun a w => ∃ (q127 : List (List Int)), ∃ (a128 : Option Addr), ∃ (c129 : Nat), ∃ (n130 : Nat), ∃ (ds131 : List In), q127 = q117 ∧ NEv 1 (RI .i64) s ds131 q127 ∧ q127.length = n130 ∧ Rep a 131 [(3, .pointer (some ⟨b52, 0, none⟩)), (4, .pointer (some ⟨b53, 0, none⟩)), (8, .pointer (some ⟨b114, 0, none⟩))] ∧ St w s (nestC 22 3 1 a128 c129 n130 ds131 :: pt b114 (.cells #[.slice a108 q106.length c109, .slice a128 n130 c129] 25 (0, 0)) :: vecC 3 1 a108 c109 q106.length cs111 :: pt b53 (.cells #[.slice none 0 0, .slice none 0 0] 25 (0, 0)) :: pt b52 (.cells (FleetMove.cells x1).toArray 44 (0, 0)) :: pt b51 (.cells #[.slice a0_0 x0.Room.length c0_0, .slice a0_1 x0.Tracks.length c0_1] 25 (0, 0)) :: R)) ?_ ?_
              · refine W.block ?_
                refine W.loop (fun m a w => ∃ (rest120 : List (List Int)) (k118 : Nat), ∃ (q127 : List (List Int)), ∃ (a128 : Option Addr), ∃ (c129 : Nat), ∃ (n130 : Nat), ∃ (ds131 : List In), rest120.length = m ∧ x0.Tracks.drop k118 = rest120 ∧ Fleetdo.loop1 rest120 q127 = some q117 ∧ NEv 1 (RI .i64) s ds131 q127 ∧ q127.length = n130 ∧ Rep a 131 [(3, .pointer (some ⟨b52, 0, none⟩)), (4, .pointer (some ⟨b53, 0, none⟩)), (8, .pointer (some ⟨b114, 0, none⟩)), (76, .slice a0_1 x0.Tracks.length c0_1), (77, .int .i64 ((x0.Tracks).length : Int)), (78, .int .i64 ((k118 : Nat) : Int))] ∧ St w s (nestC 22 3 1 a128 c129 n130 ds131 :: pt b114 (.cells #[.slice a108 q106.length c109, .slice a128 n130 c129] 25 (0, 0)) :: vecC 3 1 a108 c109 q106.length cs111 :: pt b53 (.cells #[.slice none 0 0, .slice none 0 0] 25 (0, 0)) :: pt b52 (.cells (FleetMove.cells x1).toArray 44 (0, 0)) :: pt b51 (.cells #[.slice a0_0 x0.Room.length c0_0, .slice a0_1 x0.Tracks.length c0_1] 25 (0, 0)) :: R)) (m := x0.Tracks.length) ⟨x0.Tracks, 0, [], none, 0, 0, [], rfl, rfl, hq116, (NEv.nil), (rfl), hE.pick _ ⟨rfl, rfl, rfl, rfl, rfl, rfl, trivial⟩, hS⟩ ?_
                clear hE hS a w hq116; rintro m124 a w ⟨rest120, k118, q127, a128, c129, n130, ds131, rfl, hd121, hq116, h132, rfl, hE, hS⟩
                refine W.gen fun K134 hK134 => ?_
                rcases rest120 with _ | ⟨x119, rest120⟩
                · have hlt122 := drop_nil hd121
                  refine W.seq ?_
                  refine W.region ?_
                  refine WL.vS hS hE (runs_plain rfl) (Gives.p hE rfl) rfl ?_; clear hE a; intro a hE
                  refine WL.nil ?_
                  refine W.seq ?_
                  refine W.condF hE rfl (decide_eq_false (by omega)) ?_
                  subst hK134
                  refine W.exit rfl ?_
                  exact ⟨q127, a128, c129, q127.length, ds131, Option.some.inj hq116, h132, rfl, hE.pick _ ⟨rfl, rfl, rfl, trivial⟩, hS⟩
                · obtain ⟨hlt122, hx123, hd121⟩ := drop_cons hd121
                  rw [Fleetdo.loop1] at hq116
                  refine W.seq ?_
                  refine W.region ?_
                  refine WL.vS hS hE (runs_plain rfl) (Gives.p hE rfl) rfl ?_; clear hE a; intro a hE
                  refine WL.nil ?_
                  refine W.seq ?_
                  refine W.condT hE rfl (decide_eq_true (by omega)) ?_
                  refine W.skip ?_
                  refine W.seq ?_
                  refine W.block ?_
                  refine W.seq ?_
                  refine W.region ?_
                  obtain ⟨cs135, hl136, hR137, hat138⟩ := h0_1.at hx123
                  obtain ⟨a139, c140, rfl, h141⟩ := hR137
                  refine WL.vS hS hE (runs_plain rfl) (Gives.idx hE k118 rfl rfl sl23 rfl hlt122 (h0_1.aok hlt122)) rfl ?_; clear hE a; intro a hE
                  refine WL.vS hS hE (runs_plain rfl) (Gives.load1 hE rfl (fun w h => hat138 w _ h) ty22) rfl ?_; clear hE a; intro a hE
                  refine WL.vS hS hE (runs_plain rfl) (Gives.p hE rfl) rfl ?_; clear hE a; intro a hE
                  refine WL.nil ?_
                  refine W.gen fun K142 hK142 => ?_
                  refine W.regionE (sel (fun w => St w s (nestC 22 3 1 a128 c129 q127.length ds131 :: pt b114 (.cells #[.slice a108 q106.length c109, .slice a128 q127.length c129] 25 (0, 0)) :: vecC 3 1 a108 c109 q106.length cs111 :: pt b53 (.cells #[.slice none 0 0, .slice none 0 0] 25 (0, 0)) :: pt b52 (.cells (FleetMove.cells x1).toArray 44 (0, 0)) :: pt b51 (.cells #[.slice a0_0 x0.Room.length c0_0, .slice a0_1 x0.Tracks.length c0_1] 25 (0, 0)) :: R)) (fun w => St w s (pt b114 (.cells #[.slice a108 q106.length c109, .slice a128 q127.length c129] 25 (0, 0)) :: vecC 3 1 a108 c109 q106.length cs111 :: pt b53 (.cells #[.slice none 0 0, .slice none 0 0] 25 (0, 0)) :: pt b52 (.cells (FleetMove.cells x1).toArray 44 (0, 0)) :: pt b51 (.cells #[.slice a0_0 x0.Room.length c0_0, .slice a0_1 x0.Tracks.length c0_1] 25 (0, 0)) :: R))) (fun b i => cond b ([0, 1, 2, 3, 4, 6].contains i) ([0, 1, 2, 3, 4, 5, 6].contains i)) mixed ?_
                  replace hS := hS.drew
                  refine Rg.takeP (i := 0) hE rfl (by kernel_rfl) (runs_plain rfl) (Gives.fld hE rfl fl25_1) rfl (tw_sel (fun _ => hS) (fun _ => (hS.tail))) ?_; clear hE a; intro a hE
                  have hT := tw_sel (A := fun w => St w s (nestC 22 3 1 a128 c129 q127.length ds131 :: pt b114 (.cells #[.slice a108 q106.length c109, .slice a128 q127.length c129] 25 (0, 0)) :: vecC 3 1 a108 c109 q106.length cs111 :: pt b53 (.cells #[.slice none 0 0, .slice none 0 0] 25 (0, 0)) :: pt b52 (.cells (FleetMove.cells x1).toArray 44 (0, 0)) :: pt b51 (.cells #[.slice a0_0 x0.Room.length c0_0, .slice a0_1 x0.Tracks.length c0_1] 25 (0, 0)) :: R)) (B := fun w => St w s (pt b114 (.cells #[.slice a108 q106.length c109, .slice a128 q127.length c129] 25 (0, 0)) :: vecC 3 1 a108 c109 q106.length cs111 :: pt b53 (.cells #[.slice none 0 0, .slice none 0 0] 25 (0, 0)) :: pt b52 (.cells (FleetMove.cells x1).toArray 44 (0, 0)) :: pt b51 (.cells #[.slice a0_0 x0.Room.length c0_0, .slice a0_1 x0.Tracks.length c0_1] 25 (0, 0)) :: R)) (w := _) (x := true) (y := true) (fun _ => hS) (fun _ => (hS.tail))
                  have hF := hS; replace hS := hS
                  refine Rg.take (i := 1) true rfl hE rfl (by kernel_rfl) (runs_plain rfl) (Gives.loadB hE 1 rfl rfl rfl ty23) rfl hT ?_; clear hE a; intro a hE
                  replace hS := hF; clear hF hT
                  refine Rg.takeP (i := 2) hE rfl (by kernel_rfl) (runs_plain rfl) (Gives.p hE rfl) rfl (tw_sel (fun _ => hS) (fun _ => (hS.tail))) ?_; clear hE a; intro a hE
                  refine Rg.one (i := 3) true true rfl (by kernel_rfl) (by kernel_rfl) (by kernel_rfl) ?_
                  obtain ⟨q143, hq144, hq116⟩ := bindS hq116
                  refine WL.fn hE (SlicesCloneLint_ok hS h141 hq144) (runs_plain rfl) bd55 rfl rfl ?_
                  clear hE hS; rintro e w ⟨a145, c146, n147, cs148, rfl, h149, rfl, hS⟩; refine ⟨_, rfl, ?_⟩; clear a; intro a hE
                  refine WL.nil ?_
                  refine ⟨⟨fun _ => (hS.tail), fun _ => ((hS.tail).tail)⟩, ?_⟩
                  refine Rg.one (i := 4) true true rfl (by kernel_rfl) (by kernel_rfl) (by kernel_rfl) ?_
                  refine WL.lit hE hS (e := 22) (es := 1) (vs := [(0, .slice a145 q143.length c146)]) (cs := [.slice a145 q143.length c146]) (runs_plain rfl) rfl (by kernel_rfl) rfl ?_; clear hE hS a w; intro b151 a w hE hS
                  refine WL.nil ?_
                  refine ⟨⟨fun _ => ((hS.tail).tail), fun _ => (((hS.tail).tail).tail)⟩, ?_⟩
                  refine Rg.one (i := 5) false true rfl (by kernel_rfl) (by kernel_rfl) (by kernel_rfl) ?_
                  obtain ⟨x152, hx153, hq116⟩ := bindS hq116
                  replace hS := hS.front 1 rfl
                  replace hS := hS.front 1 rfl
                  refine WL.appND hE hS 0 rfl (runs_plain rfl) rfl rfl ap23 h132 rfl h149 rfl hx153 rfl ?_; clear hE hS a w; intro a154 c155 ds156 a w h157 hE hS
                  refine WL.nil ?_
                  refine ⟨⟨fun h => absurd h (by decide), fun _ => (hS.tail)⟩, ?_⟩
                  refine Rg.takeP (i := 6) hE rfl (by kernel_rfl) (runs_plain rfl) (Gives.fld hE rfl fl25_1) rfl (tw_sel (fun h => absurd h (by decide)) (fun _ => (hS.tail))) ?_; clear hE a; intro a hE
                  refine Rg.one (i := 7) false false rfl (by kernel_rfl) (by kernel_rfl) (by kernel_rfl) ?_
                  refine WL.storeI hE hS 1 rfl [.slice a108 q106.length c109, .slice a154 x152.length c155] (runs_plain rfl) rfl rfl rfl ty23 rfl rfl rfl rfl ?_; clear hE hS a w; intro a w hE hS
                  refine WL.nil ?_
                  refine ⟨⟨fun h => absurd h (by decide), fun h => absurd h (by decide)⟩, ?_⟩
                  refine Rg.done (by kernel_rfl) ?_
                  subst hK142
                  refine W.region ?_
                  refine WL.vS hS hE (runs_plain rfl) (Gives.inc hE rfl (by have := h0_1.small; omega)) rfl ?_; clear hE a; intro a hE
                  refine WL.vS hS hE (runs_plain rfl) (Gives.p hE rfl) rfl ?_; clear hE a; intro a hE
                  refine WL.nil ?_
                  subst hK134
                  exact ⟨rest120.length, Nat.lt_succ_self _, rest120, k118 + 1, x152, a154, c155, x152.length, ds156, rfl, hd121, hq116, h157, (rfl), hE.pick _ ⟨rfl, rfl, rfl, rfl, rfl, rfl, trivial⟩, hS⟩
              · clear hE hS a w; rintro a w ⟨q127, a128, c129, n130, ds131, rfl, h132, rfl, hE, hS⟩
                refine W.seq ?_
                refine W.region ?_
                refine WL.vS hS hE (runs_plain rfl) (Gives.fld hE rfl fl25_1) rfl ?_; clear hE a; intro a hE
                refine WL.vS hS hE (runs_plain rfl) (Gives.loadB hE 1 rfl rfl rfl ty23) rfl ?_; clear hE a; intro a hE
                refine WL.vS hS hE (runs_plain rfl) (Gives.fld hE rfl fl44_0) rfl ?_; clear hE a; intro a hE
                refine WL.vS hS hE (runs_plain rfl) (Gives.loadB hE 4 rfl rfl rfl ty3) rfl ?_; clear hE a; intro a hE
                obtain ⟨x158, hx159, hr⟩ := bindS hr
                obtain ⟨hi160, hlt161, hy162⟩ := gx_some hx159
                obtain ⟨a163, c164, cs165, hd166, hev167⟩ := h132.at hy162
                refine WL.vS hS hE (runs_plain rfl) (Gives.idx hE ((x1.From).toNat) rfl rfl sl23 hi160 (by omega) (hS.nAok 0 rfl (by omega : (x1.From).toNat < q127.length))) rfl ?_; clear hE a; intro a hE
                refine WL.vS hS hE (runs_plain rfl) (Gives.load1 (v := .slice a163 x158.length c164) hE rfl (fun w h => St.nSees h 0 rfl hd166) ty22) rfl ?_; clear hE a; intro a hE
                refine WL.vS hS hE (runs_plain rfl) (Gives.p hE rfl) rfl ?_; clear hE a; intro a hE
                refine WL.nil ?_
                refine W.seq ?_
                refine W.region ?_
                refine WL.vS hS hE (runs_plain rfl) (Gives.p hE rfl) rfl ?_; clear hE a; intro a hE
                refine WL.vS hS hE (runs_plain rfl) (Gives.p hE rfl) rfl ?_; clear hE a; intro a hE
                refine WL.vS hS hE (runs_plain rfl) (Gives.len hE rfl sl22) rfl ?_; clear hE a; intro a hE
                refine WL.vS hS hE (runs_plain rfl) (Gives.p hE rfl) rfl ?_; clear hE a; intro a hE
                obtain ⟨x168, hx169, hr⟩ := bindS hr
                obtain ⟨hi170, hlt171, hy172⟩ := gx_some hx169
                obtain ⟨vs173, hl174, hR175, hd176, hget177⟩ := hev167.at hy172
                subst hR175
                refine WL.vS hS hE (runs_plain rfl) (Gives.idx hE ((w64 (((x158).length : Int) - 1)).toNat) rfl rfl sl22 hi170 hlt171 (hS.nnAok 0 rfl hd166 hlt171)) rfl ?_; clear hE a; intro a hE
                refine WL.vS hS hE (runs_plain rfl) (Gives.load1 hE rfl (fun w h => St.nnSees h 0 rfl hd166 ((w64 (((x158).length : Int) - 1)).toNat * 1) _ hget177) ty3) rfl ?_; clear hE a; intro a hE
                refine WL.vS hS hE (runs_plain rfl) (Gives.p hE rfl) rfl ?_; clear hE a; intro a hE
                refine WL.nil ?_
                refine W.seq ?_
                refine W.gen fun K178 hK178 => ?_
                refine W.regionE (sel (fun w => St w s (pt b114 (.cells #[.slice a108 q106.length c109, .slice a128 q127.length c129] 25 (0, 0)) :: vecC 3 1 a108 c109 q106.length cs111 :: pt b53 (.cells #[.slice none 0 0, .slice none 0 0] 25 (0, 0)) :: pt b52 (.cells (FleetMove.cells x1).toArray 44 (0, 0)) :: pt b51 (.cells #[.slice a0_0 x0.Room.length c0_0, .slice a0_1 x0.Tracks.length c0_1] 25 (0, 0)) :: R)) (fun w => St w s (pt b114 (.cells #[.slice a108 q106.length c109, .slice a128 q127.length c129] 25 (0, 0)) :: vecC 3 1 a108 c109 q106.length cs111 :: pt b53 (.cells #[.slice none 0 0, .slice none 0 0] 25 (0, 0)) :: pt b52 (.cells (FleetMove.cells x1).toArray 44 (0, 0)) :: pt b51 (.cells #[.slice a0_0 x0.Room.length c0_0, .slice a0_1 x0.Tracks.length c0_1] 25 (0, 0)) :: R))) (fun b i => cond b ([0, 1, 2, 3, 4, 5, 6, 7, 8, 9, 10].contains i) ([0, 1, 2, 3, 4, 5, 6, 7, 8, 9, 10].contains i)) mixed ?_
                replace hS := hS.drew
                refine Rg.takeP (i := 0) hE rfl (by kernel_rfl) (runs_plain rfl) (Gives.fld hE rfl fl25_1) rfl (tw_sel (fun _ => (hS.tail)) (fun _ => (hS.tail))) ?_; clear hE a; intro a hE
                have hT := tw_sel (A := fun w => St w s (pt b114 (.cells #[.slice a108 q106.length c109, .slice a128 q127.length c129] 25 (0, 0)) :: vecC 3 1 a108 c109 q106.length cs111 :: pt b53 (.cells #[.slice none 0 0, .slice none 0 0] 25 (0, 0)) :: pt b52 (.cells (FleetMove.cells x1).toArray 44 (0, 0)) :: pt b51 (.cells #[.slice a0_0 x0.Room.length c0_0, .slice a0_1 x0.Tracks.length c0_1] 25 (0, 0)) :: R)) (B := fun w => St w s (pt b114 (.cells #[.slice a108 q106.length c109, .slice a128 q127.length c129] 25 (0, 0)) :: vecC 3 1 a108 c109 q106.length cs111 :: pt b53 (.cells #[.slice none 0 0, .slice none 0 0] 25 (0, 0)) :: pt b52 (.cells (FleetMove.cells x1).toArray 44 (0, 0)) :: pt b51 (.cells #[.slice a0_0 x0.Room.length c0_0, .slice a0_1 x0.Tracks.length c0_1] 25 (0, 0)) :: R)) (w := _) (x := true) (y := true) (fun _ => (hS.tail)) (fun _ => (hS.tail))
                have hF := hS; replace hS := (hS.tail)
                refine Rg.take (i := 1) true rfl hE rfl (by kernel_rfl) (runs_plain rfl) (Gives.loadB hE 0 rfl rfl rfl ty23) rfl hT ?_; clear hE a; intro a hE
                replace hS := hF; clear hF hT
                refine Rg.takeP (i := 2) hE rfl (by kernel_rfl) (runs_plain rfl) (Gives.fld hE rfl fl44_0) rfl (tw_sel (fun _ => (hS.tail)) (fun _ => (hS.tail))) ?_; clear hE a; intro a hE
                have hT := tw_sel (A := fun w => St w s (pt b114 (.cells #[.slice a108 q106.length c109, .slice a128 q127.length c129] 25 (0, 0)) :: vecC 3 1 a108 c109 q106.length cs111 :: pt b53 (.cells #[.slice none 0 0, .slice none 0 0] 25 (0, 0)) :: pt b52 (.cells (FleetMove.cells x1).toArray 44 (0, 0)) :: pt b51 (.cells #[.slice a0_0 x0.Room.length c0_0, .slice a0_1 x0.Tracks.length c0_1] 25 (0, 0)) :: R)) (B := fun w => St w s (pt b114 (.cells #[.slice a108 q106.length c109, .slice a128 q127.length c129] 25 (0, 0)) :: vecC 3 1 a108 c109 q106.length cs111 :: pt b53 (.cells #[.slice none 0 0, .slice none 0 0] 25 (0, 0)) :: pt b52 (.cells (FleetMove.cells x1).toArray 44 (0, 0)) :: pt b51 (.cells #[.slice a0_0 x0.Room.length c0_0, .slice a0_1 x0.Tracks.length c0_1] 25 (0, 0)) :: R)) (w := _) (x := true) (y := true) (fun _ => (hS.tail)) (fun _ => (hS.tail))
                have hF := hS; replace hS := (hS.tail)
                refine Rg.take (i := 3) true rfl hE rfl (by kernel_rfl) (runs_plain rfl) (Gives.loadB hE 3 rfl rfl rfl ty3) rfl hT ?_; clear hE a; intro a hE
                replace hS := hF; clear hF hT
                refine Rg.takeP (i := 4) hE rfl (by kernel_rfl) (runs_plain rfl) (Gives.p hE rfl) rfl (tw_sel (fun _ => (hS.tail)) (fun _ => (hS.tail))) ?_; clear hE a; intro a hE
                refine Rg.takeP (i := 5) hE rfl (by kernel_rfl) (runs_plain rfl) (Gives.p hE rfl) rfl (tw_sel (fun _ => (hS.tail)) (fun _ => (hS.tail))) ?_; clear hE a; intro a hE
                refine Rg.takeP (i := 6) hE rfl (by kernel_rfl) (runs_plain rfl) (Gives.len hE rfl sl22) rfl (tw_sel (fun _ => (hS.tail)) (fun _ => (hS.tail))) ?_; clear hE a; intro a hE
                refine Rg.takeP (i := 7) hE rfl (by kernel_rfl) (runs_plain rfl) (Gives.p hE rfl) rfl (tw_sel (fun _ => (hS.tail)) (fun _ => (hS.tail))) ?_; clear hE a; intro a hE
                replace hS := hS.borrowM 0 rfl hd166
                obtain ⟨x180, hx181, hr⟩ := bindS hr
                obtain ⟨_, h182, h183, h184, h185, _⟩ := cutl_some hx181
                have h186 := (hS.vecCap 0 rfl).1
                have h187 : Ev 1 (RI .i64) s (cs165.take ((w64 (((x158).length : Int) - 1)).toNat * 1)) x180 := by rw [h184]; exact hev167.take _
                have hn188 : x180.length = (w64 (((x158).length : Int) - 1)).toNat := by rw [h184]; simp; omega
                replace hS := hS.vecTake 0 rfl (by omega)
                refine Rg.takeP (i := 8) hE rfl (by kernel_rfl) (runs_plain rfl) (Gives.slH hE sl22 rfl rfl h182 (Int.le_trans h183 (by omega)) (sliced_zero _ _ _ _)) rfl (tw_sel (fun _ => ((hS.tail).tail)) (fun _ => ((hS.tail).tail))) ?_; clear hE a; intro a hE
                obtain ⟨_, hx189, hr⟩ := bindS hr
                obtain ⟨h190, h191⟩ := ix_some hx189
                refine Rg.takeP (i := 9) hE rfl (by kernel_rfl) (runs_plain rfl) (Gives.idx hE ((x1.From).toNat) rfl rfl sl23 h190 (by omega) (hS.hAok 1 rfl (by omega : (x1.From).toNat < q127.length))) rfl (tw_sel (fun _ => ((hS.tail).tail)) (fun _ => ((hS.tail).tail))) ?_; clear hE a; intro a hE
                refine Rg.one (i := 10) true true rfl (by kernel_rfl) (by kernel_rfl) (by kernel_rfl) ?_
                obtain ⟨x192, hx193, hr⟩ := bindS hr
                refine WL.storeND hE hS 0 rfl (runs_plain rfl) rfl rfl ty22 h132 rfl (by have := (sx_some hx193).1; omega) hx193 h187 hn188 rfl ?_; clear hE hS a w; intro ds194 a w h195 hn196 hE hS
                refine WL.nil ?_
                refine ⟨⟨fun _ => (hS.tail), fun _ => (hS.tail)⟩, ?_⟩
                refine Rg.done (by kernel_rfl) ?_
                subst hK178
                refine W.seq ?_
                refine W.seq ?_
                refine W.region ?_
                refine WL.vS hS hE (runs_plain rfl) (Gives.fld hE rfl fl44_1) rfl ?_; clear hE a; intro a hE
                refine WL.vS hS hE (runs_plain rfl) (Gives.loadB hE 4 rfl rfl rfl ty3) rfl ?_; clear hE a; intro a hE
                refine WL.vS hS hE (runs_plain rfl) (Gives.p hE rfl) rfl ?_; clear hE a; intro a hE
                refine WL.nil ?_
                obtain ⟨q198, hq197, hr⟩ := bindS hr
                refine W.cut (fun a w => ∃ (q201 : List (List Int)), ∃ (ds205 : List In), q201 = q198 ∧ NEv 1 (RI .i64) s ds205 q201 ∧ q201.length = q127.length ∧ Rep a 131 [(4, .pointer (some ⟨b53, 0, none⟩)), (8, .pointer (some ⟨b114, 0, none⟩)), (12, .int .i64 x168)] ∧ St w s (nestC 22 3 1 a128 c129 q127.length ds205 :: pt b114 (.cells #[.slice a108 q106.length c109, .slice a128 q127.length c129] 25 (0, 0)) :: vecC 3 1 a108 c109 q106.length cs111 :: pt b53 (.cells #[.slice none 0 0, .slice none 0 0] 25 (0, 0)) :: pt b52 (.cells (FleetMove.cells x1).toArray 44 (0, 0)) :: pt b51 (.cells #[.slice a0_0 x0.Room.length c0_0, .slice a0_1 x0.Tracks.length c0_1] 25 (0, 0)) :: R)) ?_ ?_
                · refine W.gen fun K208 hK208 => ?_
                  refine W.cond hE rfl (fun hc209 => ?_) (fun hc209 => ?_)
                  · replace hq197 := iteT hc209 hq197
                    refine W.gen fun K210 hK210 => ?_
                    refine W.regionE (sel (fun w => St w s (nestC 22 3 1 a128 c129 q127.length ds194 :: pt b114 (.cells #[.slice a108 q106.length c109, .slice a128 q127.length c129] 25 (0, 0)) :: vecC 3 1 a108 c109 q106.length cs111 :: pt b53 (.cells #[.slice none 0 0, .slice none 0 0] 25 (0, 0)) :: pt b52 (.cells (FleetMove.cells x1).toArray 44 (0, 0)) :: pt b51 (.cells #[.slice a0_0 x0.Room.length c0_0, .slice a0_1 x0.Tracks.length c0_1] 25 (0, 0)) :: R)) (fun w => St w s (pt b114 (.cells #[.slice a108 q106.length c109, .slice a128 q127.length c129] 25 (0, 0)) :: vecC 3 1 a108 c109 q106.length cs111 :: pt b53 (.cells #[.slice none 0 0, .slice none 0 0] 25 (0, 0)) :: pt b52 (.cells (FleetMove.cells x1).toArray 44 (0, 0)) :: pt b51 (.cells #[.slice a0_0 x0.Room.length c0_0, .slice a0_1 x0.Tracks.length c0_1] 25 (0, 0)) :: R))) (fun b i => cond b ([0, 1, 2, 3, 4, 5, 6, 7, 8, 9, 10, 11, 13].contains i) ([0, 1, 2, 3, 4, 5, 6, 7, 8, 9, 10, 11, 12, 13, 14].contains i)) mixed ?_
                    replace hS := hS.drew
                    refine Rg.takeP (i := 0) hE rfl (by kernel_rfl) (runs_plain rfl) (Gives.fld hE rfl fl25_1) rfl (tw_sel (fun _ => hS) (fun _ => (hS.tail))) ?_; clear hE a; intro a hE
                    have hT := tw_sel (A := fun w => St w s (nestC 22 3 1 a128 c129 q127.length ds194 :: pt b114 (.cells #[.slice a108 q106.length c109, .slice a128 q127.length c129] 25 (0, 0)) :: vecC 3 1 a108 c109 q106.length cs111 :: pt b53 (.cells #[.slice none 0 0, .slice none 0 0] 25 (0, 0)) :: pt b52 (.cells (FleetMove.cells x1).toArray 44 (0, 0)) :: pt b51 (.cells #[.slice a0_0 x0.Room.length c0_0, .slice a0_1 x0.Tracks.length c0_1] 25 (0, 0)) :: R)) (B := fun w => St w s (pt b114 (.cells #[.slice a108 q106.length c109, .slice a128 q127.length c129] 25 (0, 0)) :: vecC 3 1 a108 c109 q106.length cs111 :: pt b53 (.cells #[.slice none 0 0, .slice none 0 0] 25 (0, 0)) :: pt b52 (.cells (FleetMove.cells x1).toArray 44 (0, 0)) :: pt b51 (.cells #[.slice a0_0 x0.Room.length c0_0, .slice a0_1 x0.Tracks.length c0_1] 25 (0, 0)) :: R)) (w := _) (x := true) (y := true) (fun _ => hS) (fun _ => (hS.tail))
                    have hF := hS; replace hS := (hS.tail)
                    refine Rg.take (i := 1) false rfl hE rfl (by kernel_rfl) (runs_plain rfl) (Gives.loadB hE 0 rfl rfl rfl ty23) rfl hT ?_; clear hE a; intro a hE
                    replace hS := hF; clear hF hT
                    refine Rg.takeP (i := 2) hE rfl (by kernel_rfl) (runs_plain rfl) (Gives.fld hE rfl fl44_1) rfl (tw_sel (fun _ => hS) (fun _ => (hS.tail))) ?_; clear hE a; intro a hE
                    have hT := tw_sel (A := fun w => St w s (nestC 22 3 1 a128 c129 q127.length ds194 :: pt b114 (.cells #[.slice a108 q106.length c109, .slice a128 q127.length c129] 25 (0, 0)) :: vecC 3 1 a108 c109 q106.length cs111 :: pt b53 (.cells #[.slice none 0 0, .slice none 0 0] 25 (0, 0)) :: pt b52 (.cells (FleetMove.cells x1).toArray 44 (0, 0)) :: pt b51 (.cells #[.slice a0_0 x0.Room.length c0_0, .slice a0_1 x0.Tracks.length c0_1] 25 (0, 0)) :: R)) (B := fun w => St w s (pt b114 (.cells #[.slice a108 q106.length c109, .slice a128 q127.length c129] 25 (0, 0)) :: vecC 3 1 a108 c109 q106.length cs111 :: pt b53 (.cells #[.slice none 0 0, .slice none 0 0] 25 (0, 0)) :: pt b52 (.cells (FleetMove.cells x1).toArray 44 (0, 0)) :: pt b51 (.cells #[.slice a0_0 x0.Room.length c0_0, .slice a0_1 x0.Tracks.length c0_1] 25 (0, 0)) :: R)) (w := _) (x := true) (y := true) (fun _ => hS) (fun _ => (hS.tail))
                    have hF := hS; replace hS := (hS.tail)
                    refine Rg.take (i := 3) false rfl hE rfl (by kernel_rfl) (runs_plain rfl) (Gives.loadB hE 3 rfl rfl rfl ty3) rfl hT ?_; clear hE a; intro a hE
                    replace hS := hF; clear hF hT
                    refine Rg.takeP (i := 4) hE rfl (by kernel_rfl) (runs_plain rfl) (Gives.fld hE rfl fl25_1) rfl (tw_sel (fun _ => hS) (fun _ => (hS.tail))) ?_; clear hE a; intro a hE
                    have hT := tw_sel (A := fun w => St w s (nestC 22 3 1 a128 c129 q127.length ds194 :: pt b114 (.cells #[.slice a108 q106.length c109, .slice a128 q127.length c129] 25 (0, 0)) :: vecC 3 1 a108 c109 q106.length cs111 :: pt b53 (.cells #[.slice none 0 0, .slice none 0 0] 25 (0, 0)) :: pt b52 (.cells (FleetMove.cells x1).toArray 44 (0, 0)) :: pt b51 (.cells #[.slice a0_0 x0.Room.length c0_0, .slice a0_1 x0.Tracks.length c0_1] 25 (0, 0)) :: R)) (B := fun w => St w s (pt b114 (.cells #[.slice a108 q106.length c109, .slice a128 q127.length c129] 25 (0, 0)) :: vecC 3 1 a108 c109 q106.length cs111 :: pt b53 (.cells #[.slice none 0 0, .slice none 0 0] 25 (0, 0)) :: pt b52 (.cells (FleetMove.cells x1).toArray 44 (0, 0)) :: pt b51 (.cells #[.slice a0_0 x0.Room.length c0_0, .slice a0_1 x0.Tracks.length c0_1] 25 (0, 0)) :: R)) (w := _) (x := true) (y := true) (fun _ => hS) (fun _ => (hS.tail))
                    have hF := hS; replace hS := (hS.tail)
                    refine Rg.take (i := 5) false rfl hE rfl (by kernel_rfl) (runs_plain rfl) (Gives.loadB hE 0 rfl rfl rfl ty23) rfl hT ?_; clear hE a; intro a hE
                    replace hS := hF; clear hF hT
                    refine Rg.takeP (i := 6) hE rfl (by kernel_rfl) (runs_plain rfl) (Gives.fld hE rfl fl44_1) rfl (tw_sel (fun _ => hS) (fun _ => (hS.tail))) ?_; clear hE a; intro a hE
                    have hT := tw_sel (A := fun w => St w s (nestC 22 3 1 a128 c129 q127.length ds194 :: pt b114 (.cells #[.slice a108 q106.length c109, .slice a128 q127.length c129] 25 (0, 0)) :: vecC 3 1 a108 c109 q106.length cs111 :: pt b53 (.cells #[.slice none 0 0, .slice none 0 0] 25 (0, 0)) :: pt b52 (.cells (FleetMove.cells x1).toArray 44 (0, 0)) :: pt b51 (.cells #[.slice a0_0 x0.Room.length c0_0, .slice a0_1 x0.Tracks.length c0_1] 25 (0, 0)) :: R)) (B := fun w => St w s (pt b114 (.cells #[.slice a108 q106.length c109, .slice a128 q127.length c129] 25 (0, 0)) :: vecC 3 1 a108 c109 q106.length cs111 :: pt b53 (.cells #[.slice none 0 0, .slice none 0 0] 25 (0, 0)) :: pt b52 (.cells (FleetMove.cells x1).toArray 44 (0, 0)) :: pt b51 (.cells #[.slice a0_0 x0.Room.length c0_0, .slice a0_1 x0.Tracks.length c0_1] 25 (0, 0)) :: R)) (w := _) (x := true) (y := true) (fun _ => hS) (fun _ => (hS.tail))
                    have hF := hS; replace hS := (hS.tail)
                    refine Rg.take (i := 7) false rfl hE rfl (by kernel_rfl) (runs_plain rfl) (Gives.loadB hE 3 rfl rfl rfl ty3) rfl hT ?_; clear hE a; intro a hE
                    replace hS := hF; clear hF hT
                    obtain ⟨x211, hx212, hq197⟩ := bindS hq197
                    obtain ⟨hi213, hlt214, hy215⟩ := gx_some hx212
                    obtain ⟨a216, c217, cs218, hd219, hev220⟩ := h195.at hy215
                    refine Rg.takeP (i := 8) hE rfl (by kernel_rfl) (runs_plain rfl) (Gives.idx hE ((x1.To).toNat) rfl rfl sl23 hi213 (by have := hn196; omega) (hS.nAok 0 rfl (by have := hn196; omega : (x1.To).toNat < q127.length))) rfl (tw_sel (fun _ => hS) (fun _ => (hS.tail))) ?_; clear hE a; intro a hE
                    have hT := tw_sel (A := fun w => St w s (nestC 22 3 1 a128 c129 q127.length ds194 :: pt b114 (.cells #[.slice a108 q106.length c109, .slice a128 q127.length c129] 25 (0, 0)) :: vecC 3 1 a108 c109 q106.length cs111 :: pt b53 (.cells #[.slice none 0 0, .slice none 0 0] 25 (0, 0)) :: pt b52 (.cells (FleetMove.cells x1).toArray 44 (0, 0)) :: pt b51 (.cells #[.slice a0_0 x0.Room.length c0_0, .slice a0_1 x0.Tracks.length c0_1] 25 (0, 0)) :: R)) (B := fun w => St w s (pt b114 (.cells #[.slice a108 q106.length c109, .slice a128 q127.length c129] 25 (0, 0)) :: vecC 3 1 a108 c109 q106.length cs111 :: pt b53 (.cells #[.slice none 0 0, .slice none 0 0] 25 (0, 0)) :: pt b52 (.cells (FleetMove.cells x1).toArray 44 (0, 0)) :: pt b51 (.cells #[.slice a0_0 x0.Room.length c0_0, .slice a0_1 x0.Tracks.length c0_1] 25 (0, 0)) :: R)) (w := _) (x := true) (y := true) (fun _ => hS) (fun _ => (hS.tail))
                    have hF := hS; replace hS := hS
                    refine Rg.take (i := 9) true rfl hE rfl (by kernel_rfl) (runs_plain rfl) (Gives.load1 (v := .slice a216 x211.length c217) hE rfl (fun w h => St.nSees h 0 rfl hd219) ty22) rfl hT ?_; clear hE a; intro a hE
                    replace hS := hF; clear hF hT
                    refine Rg.takeP (i := 10) hE rfl (by kernel_rfl) (runs_plain rfl) (Gives.p hE rfl) rfl (tw_sel (fun _ => hS) (fun _ => (hS.tail))) ?_; clear hE a; intro a hE
                    refine Rg.one (i := 11) true true rfl (by kernel_rfl) (by kernel_rfl) (by kernel_rfl) ?_
                    refine WL.lit hE hS (e := 3) (es := 1) (vs := [(0, .int .i64 x168)]) (cs := [.int .i64 x168]) (runs_plain rfl) rfl (by kernel_rfl) rfl ?_; clear hE hS a w; intro b221 a w hE hS
                    refine WL.nil ?_
                    refine ⟨⟨fun _ => (hS.tail), fun _ => ((hS.tail).tail)⟩, ?_⟩
                    refine Rg.one (i := 12) false true rfl (by kernel_rfl) (by kernel_rfl) (by kernel_rfl) ?_
                    replace hS := hS.borrowM 1 rfl hd219
                    replace hS := hS.front 1 rfl
                    obtain ⟨x223, hx224, hq197⟩ := bindS hq197
                    refine WL.appD hE hS 0 (m := 1) (runs_plain rfl) rfl rfl rfl ap22 rfl hev220 (rfl) (xs := [x168]) (Ev.cons (c1 := [.int .i64 x168]) rfl rfl (Ev.nil)) rfl rfl hx224 rfl ?_; clear hE hS a w; intro a225 c226 cs227 a w h228 hE hS
                    refine WL.nil ?_
                    refine ⟨⟨fun h => absurd h (by decide), fun _ => ((hS.tail).tail)⟩, ?_⟩
                    obtain ⟨_, hx229, hq197⟩ := bindS hq197
                    obtain ⟨h230, h231⟩ := ix_some hx229
                    refine Rg.takeP (i := 13) hE rfl (by kernel_rfl) (runs_plain rfl) (Gives.idx hE ((x1.To).toNat) rfl rfl sl23 h230 (by have := hn196; omega) (hS.hAok 1 rfl (by have := hn196; omega : (x1.To).toNat < q127.length))) rfl (tw_sel (fun h => absurd h (by decide)) (fun _ => ((hS.tail).tail))) ?_; clear hE a; intro a hE
                    refine Rg.one (i := 14) false true rfl (by kernel_rfl) (by kernel_rfl) (by kernel_rfl) ?_
                    obtain ⟨x232, hx233, hq197⟩ := bindS hq197
                    refine WL.storeND hE hS 0 rfl (runs_plain rfl) rfl rfl ty22 h195 hn196 (by have := (sx_some hx233).1; omega) hx233 h228 (rfl) rfl ?_; clear hE hS a w; intro ds234 a w h235 hn236 hE hS
                    refine WL.nil ?_
                    refine ⟨⟨fun h => absurd h (by decide), fun _ => (hS.tail)⟩, ?_⟩
                    refine Rg.done (by kernel_rfl) ?_
                    subst hK210
                    subst hK208
                    exact ⟨x232, ds234, Option.some.inj hq197, h235, hn236, hE.pick _ ⟨rfl, rfl, rfl, trivial⟩, hS⟩
                  · replace hq197 := iteF hc209 hq197
                    refine W.skip ?_
                    subst hK208
                    exact ⟨x192, ds194, Option.some.inj hq197, h195, hn196, hE.pick _ ⟨rfl, rfl, rfl, trivial⟩, hS⟩
                · clear hE hS a w; rintro a w ⟨q201, ds205, rfl, h206, hn207, hE, hS⟩
                  refine W.seq ?_
                  refine W.region ?_
                  refine WL.vS hS hE (runs_plain rfl) (Gives.loadBA hE 1 rfl rfl ty25) rfl ?_; clear hE a; intro a hE
                  refine WL.vS hS hE (runs_plain rfl) (Gives.p hE rfl) rfl ?_; clear hE a; intro a hE
                  refine WL.storeI hE hS 3 rfl [.slice a108 q106.length c109, .slice a128 q127.length c129] (runs_plain rfl) rfl rfl rfl ty25 rfl rfl rfl rfl ?_; clear hE hS a w; intro a w hE hS
                  refine WL.vS hS hE (runs_plain rfl) (Gives.p hE rfl) rfl ?_; clear hE a; intro a hE
                  refine WL.vS hS hE (runs_plain rfl) (Gives.p hE rfl) rfl ?_; clear hE a; intro a hE
                  refine WL.nil ?_
                  refine W.ret ?_
                  have hF := hS.fixD RI.mono 2 rfl h112 rfl; clear hS; obtain ⟨s237, hle238, hS, h239⟩ := hF
                  replace h206 := NEv.mono RI.mono hle238 h206
                  replace h0_0 := Sl.mono RI.mono hle238 h0_0
                  replace h0_1 := Sl.mono (RL.mono RI.mono) hle238 h0_1
                  have hF := hS.fixN RI.mono 0 rfl h206 hn207; clear hS; obtain ⟨s240, hle241, hS, h242⟩ := hF
                  (try rw [← hn207] at hE)
                  (try rw [← hn207] at hS)
                  replace h239 := Sl.mono RI.mono hle241 h239
                  replace h0_0 := Sl.mono RI.mono hle241 h0_0
                  replace h0_1 := Sl.mono (RL.mono RI.mono) hle241 h0_1
                  refine finG (fn := Try.f56) (rs := [.cell 4 25, .tmp 5, .tmp 6]) (vs := [_, _, _]) hE rfl ⟨⟨_, _, rfl, rfl, hS.seesAt 1 rfl, ty25⟩, rfl, rfl, trivial⟩ ?_
                  obtain rfl := Option.some.inj hr
                  replace hS := hS.tail
                  replace hS := hS.tail
                  replace hS := hS.tail
                  replace hS := hS.tail
                  exact ⟨_, s240, rfl, (Sg.Le.trans hle238 hle241), ⟨_, _, _, _, rfl, h239, h242⟩, hS⟩
set_option maxHeartbeats 8000000 in
theorem FleetPlay_ok  {w : World} {s : Sg} {R : List HP} {x0 : FleetDepot} {a0_0 : Option Addr} {c0_0 : Nat} {a0_1 : Option Addr} {c0_1 : Nat} {x1 : List FleetMove} {a1 : Option Addr} {c1 : Nat} (hS : St w s (R)) (h0_0 : Sl 1 (RI .i64) s a0_0 c0_0 x0.Room) (h0_1 : Sl 1 (RL 1 (RI .i64)) s a0_1 c0_1 x0.Tracks) (h1 : Sl 2 RFleetMove s a1 c1 x1) {r : FleetDepot × (List Int) × Int} (hr : FleetPlay x0 x1 = some r) :
    Calls Try.prog 20 [.agg [.slice a0_0 x0.Room.length c0_0, .slice a0_1 x0.Tracks.length c0_1].toArray, .slice a1 x1.length c1].toArray w (fun e w => ∃ (cs0 : List Value) (a1 : Option Addr) (c1 n1 : Nat) (cs1 : List Value) (t : Sg), e = .returned (.tuple #[.agg cs0.toArray, .slice a1 n1 c1, .int .i64 r.2.2]) ∧ s.Le t ∧ RFleetDepot t cs0 r.1 ∧ Ev 1 (RI .i64) t cs1 r.2.1 ∧ r.2.1.length = n1 ∧ St w t (vecC 3 1 a1 c1 n1 cs1 :: R)) := by
  refine enter Try.func20 rfl rfl rfl fun a hE => ?_
  rw [FleetPlay] at hr
  refine W.seq ?_
  refine W.region ?_
  refine WL.box hE hS (runs_plain rfl) rfl rfl rfl ?_; clear hE hS a w; intro b51 a w hE hS
  refine WL.alloc hE hS (runs_plain rfl) zr25 rfl ?_; clear hE hS a w; intro b52 a w hE hS
  refine WL.vS hS hE (runs_plain rfl) (Gives.p hE rfl) rfl ?_; clear hE a; intro a hE
  refine WL.vS hS hE (runs_plain rfl) (Gives.p hE rfl) rfl ?_; clear hE a; intro a hE
  refine WL.nil ?_
  refine W.seq ?_
  refine W.seq ?_
  refine W.region ?_
  refine WL.vS hS hE (runs_plain rfl) (Gives.loadBA hE 1 rfl rfl ty25) rfl ?_; clear hE a; intro a hE
  obtain ⟨q53, hq54, hr⟩ := bindS hr
  refine WL.fn hE (FleetCheckDepot_ok hS h0_0 h0_1 hq54) (runs_plain rfl) bd15 rfl rfl ?_
  clear hE hS; rintro e w ⟨rfl, hS⟩; refine ⟨_, rfl, ?_⟩; clear a; intro a hE
  refine WL.vS hS hE (runs_plain rfl) (Gives.p hE rfl) rfl ?_; clear hE a; intro a hE
  refine WL.nil ?_
  refine W.seq ?_
  refine W.region ?_
  refine WL.vS hS hE (runs_plain rfl) (Gives.p hE rfl) rfl ?_; clear hE a; intro a hE
  refine WL.vS hS hE (runs_plain rfl) (Gives.p hE rfl) rfl ?_; clear hE a; intro a hE
  refine WL.nil ?_
  refine W.cond hE rfl (fun hc55 => ?_) (fun hc55 => ?_)
  · replace hr := iteT hc55 hr
    refine W.seq ?_
    refine W.region ?_
    refine WL.vS hS hE (runs_plain rfl) (Gives.build hE (vs := []) [.slice none 0 0, .slice none 0 0] rfl (by kernel_rfl)) rfl ?_; clear hE a; intro a hE
    refine WL.vS hS hE (runs_plain rfl) (Gives.p hE rfl) rfl ?_; clear hE a; intro a hE
    refine WL.storeI hE hS 0 rfl [.slice none 0 0, .slice none 0 0] (runs_plain rfl) rfl rfl rfl ty25 rfl rfl rfl rfl ?_; clear hE hS a w; intro a w hE hS
    refine WL.vS hS hE (runs_plain rfl) (Gives.p hE rfl) rfl ?_; clear hE a; intro a hE
    refine WL.vS hS hE (runs_plain rfl) (Gives.p hE rfl) rfl ?_; clear hE a; intro a hE
    refine WL.nil ?_
    refine W.ret ?_
    replace hS := hS.vecNil 3 1
    refine finG (fn := Try.f20) (rs := [.cell 4 25, .tmp 5, .tmp 6]) (vs := [_, _, _]) hE rfl ⟨⟨_, _, rfl, rfl, hS.seesAt 1 rfl, ty25⟩, rfl, rfl, trivial⟩ ?_
    obtain rfl := Option.some.inj hr
    replace hS := hS.dropAt 1
    replace hS := hS.dropAt 1
    exact ⟨_, none, 0, 0, [], s, rfl, (Sg.Le.refl _), ⟨_, _, _, _, rfl, Sl.nil, Sl.nil⟩, (Ev.nil), (rfl), hS⟩
  · replace hr := iteF hc55 hr
    refine W.skip ?_
    refine W.seq ?_
    refine W.region ?_
    refine WL.vS hS hE (runs_plain rfl) (Gives.fld hE rfl fl25_0) rfl ?_; clear hE a; intro a hE
    refine WL.vS hS hE (runs_plain rfl) (Gives.loadB hE 1 rfl rfl rfl ty22) rfl ?_; clear hE a; intro a hE
    obtain ⟨q57, hq58, hr⟩ := bindS hr
    refine WL.fn hE (SlicesCloneLint_ok hS h0_0 hq58) (runs_plain rfl) bd55 rfl rfl ?_
    clear hE hS; rintro e w ⟨a59, c60, n61, cs62, rfl, h63, rfl, hS⟩; refine ⟨_, rfl, ?_⟩; clear a; intro a hE
    refine WL.vS hS hE (runs_plain rfl) (Gives.build hE (vs := [(0, .slice a59 q57.length c60)]) [.slice a59 q57.length c60, .slice none 0 0] rfl (by kernel_rfl)) rfl ?_; clear hE a; intro a hE
    refine WL.alloc hE hS (runs_plain rfl) zr25 rfl ?_; clear hE hS a w; intro b65 a w hE hS
    refine WL.storeI hE hS 0 rfl [.slice a59 q57.length c60, .slice none 0 0] (runs_plain rfl) rfl rfl rfl ty25 rfl rfl rfl rfl ?_; clear hE hS a w; intro a w hE hS
    refine WL.nil ?_
    refine W.seq ?_
    refine W.seq ?_
    refine W.region ?_
    refine WL.vS hS hE (runs_plain rfl) (Gives.fld hE rfl fl25_1) rfl ?_; clear hE a; intro a hE
    refine WL.vS hS hE (runs_plain rfl) (Gives.loadB hE 3 rfl rfl rfl ty23) rfl ?_; clear hE a; intro a hE
    refine WL.vS hS hE (runs_plain rfl) (Gives.len hE rfl sl23) rfl ?_; clear hE a; intro a hE
    refine WL.vS hS hE (runs_plain rfl) (Gives.p hE rfl) rfl ?_; clear hE a; intro a hE
    refine WL.nil ?_
    replace hS := hS.vecNil 22 1
    obtain ⟨q68, hq67, hr⟩ := bindS hr
    refine W.cut (fun a w => ∃ (q78 : List (List Int)), ∃ (a79 : Option Addr), ∃ (c80 : Nat), ∃ (n82 : Nat), ∃ (cs83 : List Value), ∃ (s76 : Sg), s.Le s76 ∧ q78 = q68 ∧ Ev 1 (RL 1 (RI .i64)) s76 cs83 q78 ∧ q78.length = n82 ∧ Rep a 70 [(1, .slice a1 x1.length c1), (4, .pointer (some ⟨b52, 0, none⟩)), (8, .pointer (some ⟨b65, 0, none⟩))] ∧ St w s76 (vecC 22 1 a79 c80 n82 cs83 :: pt b65 (.cells #[.slice a59 q57.length c60, .slice a79 n82 c80] 25 (0, 0)) :: vecC 3 1 a59 c60 q57.length cs62 :: pt b52 (.cells #[.slice none 0 0, .slice none 0 0] 25 (0, 0)) :: pt b51 (.cells #[.slice a0_0 x0.Room.length c0_0, .slice a0_1 x0.Tracks.length c0_1] 25 (0, 0)) :: R)) ?_ ?_
    · refine W.block ?_
      refine W.loop (fun m a w => ∃ (rest71 : List (List Int)) (k69 : Nat), ∃ (q78 : List (List Int)), ∃ (a79 : Option Addr), ∃ (c80 : Nat), ∃ (n82 : Nat), ∃ (cs83 : List Value), ∃ (s76 : Sg), rest71.length = m ∧ x0.Tracks.drop k69 = rest71 ∧ s.Le s76 ∧ FleetPlay.loop1 rest71 q78 = some q68 ∧ Ev 1 (RL 1 (RI .i64)) s76 cs83 q78 ∧ q78.length = n82 ∧ Rep a 70 [(1, .slice a1 x1.length c1), (4, .pointer (some ⟨b52, 0, none⟩)), (8, .pointer (some ⟨b65, 0, none⟩)), (28, .slice a0_1 x0.Tracks.length c0_1), (29, .int .i64 ((x0.Tracks).length : Int)), (30, .int .i64 ((k69 : Nat) : Int))] ∧ St w s76 (vecC 22 1 a79 c80 n82 cs83 :: pt b65 (.cells #[.slice a59 q57.length c60, .slice a79 n82 c80] 25 (0, 0)) :: vecC 3 1 a59 c60 q57.length cs62 :: pt b52 (.cells #[.slice none 0 0, .slice none 0 0] 25 (0, 0)) :: pt b51 (.cells #[.slice a0_0 x0.Room.length c0_0, .slice a0_1 x0.Tracks.length c0_1] 25 (0, 0)) :: R)) (m := x0.Tracks.length) ⟨x0.Tracks, 0, [], none, 0, 0, [], s, rfl, rfl, (Sg.Le.refl _), hq67, (Ev.nil), (rfl), hE.pick _ ⟨rfl, rfl, rfl, rfl, rfl, rfl, trivial⟩, hS⟩ ?_
      clear hE hS a w hq67; rintro m75 a w ⟨rest71, k69, q78, a79, c80, n82, cs83, s76, rfl, hd72, hle77, hq67, h81, rfl, hE, hS⟩
      refine W.gen fun K85 hK85 => ?_
      replace h0_0 := Sl.mono RI.mono hle77 h0_0
      replace h0_1 := Sl.mono (RL.mono RI.mono) hle77 h0_1
      replace h1 := Sl.mono RFleetMove.mono hle77 h1
      replace h63 := Ev.mono RI.mono hle77 h63
      rcases rest71 with _ | ⟨x70, rest71⟩
      · have hlt73 := drop_nil hd72
        refine W.seq ?_
        refine W.region ?_
        refine WL.vS hS hE (runs_plain rfl) (Gives.p hE rfl) rfl ?_; clear hE a; intro a hE
        refine WL.nil ?_
        refine W.seq ?_
        refine W.condF hE rfl (decide_eq_false (by omega)) ?_
        subst hK85
        refine W.exit rfl ?_
        exact ⟨q78, a79, c80, q78.length, cs83, s76, hle77, Option.some.inj hq67, h81, rfl, hE.pick _ ⟨rfl, rfl, rfl, trivial⟩, hS⟩
      · obtain ⟨hlt73, hx74, hd72⟩ := drop_cons hd72
        rw [FleetPlay.loop1] at hq67
        refine W.seq ?_
        refine W.region ?_
        refine WL.vS hS hE (runs_plain rfl) (Gives.p hE rfl) rfl ?_; clear hE a; intro a hE
        refine WL.nil ?_
        refine W.seq ?_
        refine W.condT hE rfl (decide_eq_true (by omega)) ?_
        refine W.skip ?_
        refine W.seq ?_
        refine W.block ?_
        refine W.seq ?_
        refine W.region ?_
        obtain ⟨cs86, hl87, hR88, hat89⟩ := h0_1.at hx74
        obtain ⟨a90, c91, rfl, h92⟩ := hR88
        refine WL.vS hS hE (runs_plain rfl) (Gives.idx hE k69 rfl rfl sl23 rfl hlt73 (h0_1.aok hlt73)) rfl ?_; clear hE a; intro a hE
        refine WL.vS hS hE (runs_plain rfl) (Gives.load1 hE rfl (fun w h => hat89 w _ h) ty22) rfl ?_; clear hE a; intro a hE
        refine WL.vS hS hE (runs_plain rfl) (Gives.p hE rfl) rfl ?_; clear hE a; intro a hE
        refine WL.nil ?_
        refine W.gen fun K93 hK93 => ?_
        refine W.regionE (sel (fun w => St w s76 (vecC 22 1 a79 c80 q78.length cs83 :: pt b65 (.cells #[.slice a59 q57.length c60, .slice a79 q78.length c80] 25 (0, 0)) :: vecC 3 1 a59 c60 q57.length cs62 :: pt b52 (.cells #[.slice none 0 0, .slice none 0 0] 25 (0, 0)) :: pt b51 (.cells #[.slice a0_0 x0.Room.length c0_0, .slice a0_1 x0.Tracks.length c0_1] 25 (0, 0)) :: R)) (fun w => St w s76 (pt b65 (.cells #[.slice a59 q57.length c60, .slice a79 q78.length c80] 25 (0, 0)) :: vecC 3 1 a59 c60 q57.length cs62 :: pt b52 (.cells #[.slice none 0 0, .slice none 0 0] 25 (0, 0)) :: pt b51 (.cells #[.slice a0_0 x0.Room.length c0_0, .slice a0_1 x0.Tracks.length c0_1] 25 (0, 0)) :: R))) (fun b i => cond b ([0, 1, 2, 3, 4, 6].contains i) ([0, 1, 2, 3, 4, 5, 6].contains i)) mixed ?_
        replace hS := hS.drew
        refine Rg.takeP (i := 0) hE rfl (by kernel_rfl) (runs_plain rfl) (Gives.fld hE rfl fl25_1) rfl (tw_sel (fun _ => hS) (fun _ => (hS.tail))) ?_; clear hE a; intro a hE
        have hT := tw_sel (A := fun w => St w s76 (vecC 22 1 a79 c80 q78.length cs83 :: pt b65 (.cells #[.slice a59 q57.length c60, .slice a79 q78.length c80] 25 (0, 0)) :: vecC 3 1 a59 c60 q57.length cs62 :: pt b52 (.cells #[.slice none 0 0, .slice none 0 0] 25 (0, 0)) :: pt b51 (.cells #[.slice a0_0 x0.Room.length c0_0, .slice a0_1 x0.Tracks.length c0_1] 25 (0, 0)) :: R)) (B := fun w => St w s76 (pt b65 (.cells #[.slice a59 q57.length c60, .slice a79 q78.length c80] 25 (0, 0)) :: vecC 3 1 a59 c60 q57.length cs62 :: pt b52 (.cells #[.slice none 0 0, .slice none 0 0] 25 (0, 0)) :: pt b51 (.cells #[.slice a0_0 x0.Room.length c0_0, .slice a0_1 x0.Tracks.length c0_1] 25 (0, 0)) :: R)) (w := _) (x := true) (y := true) (fun _ => hS) (fun _ => (hS.tail))
        have hF := hS; replace hS := hS
        refine Rg.take (i := 1) true rfl hE rfl (by kernel_rfl) (runs_plain rfl) (Gives.loadB hE 1 rfl rfl rfl ty23) rfl hT ?_; clear hE a; intro a hE
        replace hS := hF; clear hF hT
        refine Rg.takeP (i := 2) hE rfl (by kernel_rfl) (runs_plain rfl) (Gives.p hE rfl) rfl (tw_sel (fun _ => hS) (fun _ => (hS.tail))) ?_; clear hE a; intro a hE
        refine Rg.one (i := 3) true true rfl (by kernel_rfl) (by kernel_rfl) (by kernel_rfl) ?_
        obtain ⟨q94, hq95, hq67⟩ := bindS hq67
        refine WL.fn hE (SlicesCloneLint_ok hS h92 hq95) (runs_plain rfl) bd55 rfl rfl ?_
        clear hE hS; rintro e w ⟨a96, c97, n98, cs99, rfl, h100, rfl, hS⟩; refine ⟨_, rfl, ?_⟩; clear a; intro a hE
        refine WL.nil ?_
        refine ⟨⟨fun _ => (hS.tail), fun _ => ((hS.tail).tail)⟩, ?_⟩
        refine Rg.one (i := 4) true true rfl (by kernel_rfl) (by kernel_rfl) (by kernel_rfl) ?_
        have hF := hS.fixD RI.mono 0 rfl h100 rfl; clear hS; obtain ⟨s102, hle103, hS, h104⟩ := hF
        replace h1 := Sl.mono RFleetMove.mono hle103 h1
        replace h0_1 := Sl.mono (RL.mono RI.mono) hle103 h0_1
        replace h92 := Sl.mono RI.mono hle103 h92
        replace h81 := Ev.mono (RL.mono RI.mono) hle103 h81
        replace h63 := Ev.mono RI.mono hle103 h63
        replace h0_0 := Sl.mono RI.mono hle103 h0_0
        refine WL.lit hE hS (e := 22) (es := 1) (vs := [(0, .slice a96 q94.length c97)]) (cs := [.slice a96 q94.length c97]) (runs_plain rfl) rfl (by kernel_rfl) rfl ?_; clear hE hS a w; intro b105 a w hE hS
        refine WL.nil ?_
        refine ⟨⟨fun _ => (St.down hle103 (hS.tail)), fun _ => (St.down hle103 ((hS.tail).tail))⟩, ?_⟩
        refine Rg.one (i := 5) false true rfl (by kernel_rfl) (by kernel_rfl) (by kernel_rfl) ?_
        obtain ⟨x106, hx107, hq67⟩ := bindS hq67
        refine WL.appD hE hS 0 (m := 1) (runs_plain rfl) rfl rfl rfl ap23 rfl h81 rfl (xs := [q94]) (Ev.cons (c1 := [.slice a96 q94.length c97]) ⟨_, _, rfl, h104⟩ rfl (Ev.nil)) rfl rfl hx107 rfl ?_; clear hE hS a w; intro a108 c109 cs110 a w h111 hE hS
        refine WL.nil ?_
        refine ⟨⟨fun h => absurd h (by decide), fun _ => (St.down hle103 (hS.tail))⟩, ?_⟩
        refine Rg.takeP (i := 6) hE rfl (by kernel_rfl) (runs_plain rfl) (Gives.fld hE rfl fl25_1) rfl (tw_sel (fun h => absurd h (by decide)) (fun _ => (St.down hle103 (hS.tail)))) ?_; clear hE a; intro a hE
        refine Rg.one (i := 7) false false rfl (by kernel_rfl) (by kernel_rfl) (by kernel_rfl) ?_
        refine WL.storeI hE hS 1 rfl [.slice a59 q57.length c60, .slice a108 x106.length c109] (runs_plain rfl) rfl rfl rfl ty23 rfl rfl rfl rfl ?_; clear hE hS a w; intro a w hE hS
        refine WL.nil ?_
        refine ⟨⟨fun h => absurd h (by decide), fun h => absurd h (by decide)⟩, ?_⟩
        refine Rg.done (by kernel_rfl) ?_
        subst hK93
        refine W.region ?_
        refine WL.vS hS hE (runs_plain rfl) (Gives.inc hE rfl (by have := h0_1.small; omega)) rfl ?_; clear hE a; intro a hE
        refine WL.vS hS hE (runs_plain rfl) (Gives.p hE rfl) rfl ?_; clear hE a; intro a hE
        refine WL.nil ?_
        subst hK85
        exact ⟨rest71.length, Nat.lt_succ_self _, rest71, k69 + 1, x106, a108, c109, x106.length, cs110, s102, rfl, hd72, (Sg.Le.trans hle77 hle103), hq67, h111, (rfl), hE.pick _ ⟨rfl, rfl, rfl, rfl, rfl, rfl, trivial⟩, hS⟩
    · clear hE hS a w; rintro a w ⟨q78, a79, c80, n82, cs83, s76, hle77, rfl, h81, rfl, hE, hS⟩
      replace h0_0 := Sl.mono RI.mono hle77 h0_0
      replace h0_1 := Sl.mono (RL.mono RI.mono) hle77 h0_1
      replace h1 := Sl.mono RFleetMove.mono hle77 h1
      replace h63 := Ev.mono RI.mono hle77 h63
      refine W.seq ?_
      refine W.region ?_
      replace hS := hS.vecNil 3 1
      refine WL.vS hS hE (runs_plain rfl) (Gives.p hE rfl) rfl ?_; clear hE a; intro a hE
      refine WL.nil ?_
      refine W.seq ?_
      refine W.seq ?_
      refine W.region ?_
      refine WL.vS hS hE (runs_plain rfl) (Gives.p hE rfl) rfl ?_; clear hE a; intro a hE
      refine WL.vS hS hE (runs_plain rfl) (Gives.len hE rfl sl38) rfl ?_; clear hE a; intro a hE
      refine WL.vS hS hE (runs_plain rfl) (Gives.p hE rfl) rfl ?_; clear hE a; intro a hE
      refine WL.nil ?_
      have hF := hS.fixD RI.mono 3 rfl h63 rfl; clear hS; obtain ⟨s113, hle114, hS, h115⟩ := hF
      replace h1 := Sl.mono RFleetMove.mono hle114 h1
      replace h81 := Ev.mono (RL.mono RI.mono) hle114 h81
      replace h0_0 := Sl.mono RI.mono hle114 h0_0
      replace h0_1 := Sl.mono (RL.mono RI.mono) hle114 h0_1
      have hF := hS.fixD (RL.mono RI.mono) 1 rfl h81 rfl; clear hS; obtain ⟨s116, hle117, hS, h118⟩ := hF
      replace h1 := Sl.mono RFleetMove.mono hle117 h1
      replace h115 := Sl.mono RI.mono hle117 h115
      replace h0_0 := Sl.mono RI.mono hle117 h0_0
      replace h0_1 := Sl.mono (RL.mono RI.mono) hle117 h0_1
      obtain ⟨q120, hq119, hr⟩ := bindS hr
      refine W.cut (fun a w => ∃ (q130 : List Int), ∃ (q137 : List Int), ∃ (q141 : List (List Int)), ∃ (q145 : List Int), ∃ (q149 : List (List Int)), ∃ (a131 : Option Addr), ∃ (c132 : Nat), ∃ (n134 : Nat), ∃ (cs135 : List Value), ∃ (a138 : Option Addr), ∃ (c139 : Nat), ∃ (a142 : Option Addr), ∃ (c143 : Nat), ∃ (a146 : Option Addr), ∃ (c147 : Nat), ∃ (a150 : Option Addr), ∃ (c151 : Nat), ∃ (s128 : Sg), s116.Le s128 ∧ (.next (q130, q137, q141, q145, q149)) = q120 ∧ Ev 1 (RI .i64) s128 cs135 q130 ∧ q130.length = n134 ∧ Sl 1 (RI .i64) s128 a138 c139 q137 ∧ Sl 1 (RL 1 (RI .i64)) s128 a142 c143 q141 ∧ Sl 1 (RI .i64) s128 a146 c147 q145 ∧ Sl 1 (RL 1 (RI .i64)) s128 a150 c151 q149 ∧ Rep a 70 [(4, .pointer (some ⟨b52, 0, none⟩)), (8, .pointer (some ⟨b65, 0, none⟩)), (11, .slice a131 n134 c132)] ∧ St w s128 (vecC 3 1 a131 c132 n134 cs135 :: pt b65 (.cells #[.slice a146 q145.length c147, .slice a150 q149.length c151] 25 (0, 0)) :: pt b52 (.cells #[.slice a138 q137.length c139, .slice a142 q141.length c143] 25 (0, 0)) :: pt b51 (.cells #[.slice a0_0 x0.Room.length c0_0, .slice a0_1 x0.Tracks.length c0_1] 25 (0, 0)) :: R)) ?_ ?_
      · refine W.block ?_
        refine W.loop (fun m a w => ∃ (rest123 : List FleetMove) (k121 : Nat), ∃ (q130 : List Int), ∃ (q137 : List Int), ∃ (q141 : List (List Int)), ∃ (q145 : List Int), ∃ (q149 : List (List Int)), ∃ (a131 : Option Addr), ∃ (c132 : Nat), ∃ (n134 : Nat), ∃ (cs135 : List Value), ∃ (a138 : Option Addr), ∃ (c139 : Nat), ∃ (a142 : Option Addr), ∃ (c143 : Nat), ∃ (a146 : Option Addr), ∃ (c147 : Nat), ∃ (a150 : Option Addr), ∃ (c151 : Nat), ∃ (s128 : Sg), rest123.length = m ∧ x1.drop k121 = rest123 ∧ s116.Le s128 ∧ FleetPlay.loop2 rest123 q130 q137 q141 q145 q149 = some q120 ∧ Ev 1 (RI .i64) s128 cs135 q130 ∧ q130.length = n134 ∧ Sl 1 (RI .i64) s128 a138 c139 q137 ∧ Sl 1 (RL 1 (RI .i64)) s128 a142 c143 q141 ∧ Sl 1 (RI .i64) s128 a146 c147 q145 ∧ Sl 1 (RL 1 (RI .i64)) s128 a150 c151 q149 ∧ Rep a 70 [(4, .pointer (some ⟨b52, 0, none⟩)), (8, .pointer (some ⟨b65, 0, none⟩)), (11, .slice a131 n134 c132), (42, .slice a1 x1.length c1), (43, .int .i64 ((x1).length : Int)), (44, .int .i64 ((k121 : Nat) : Int))] ∧ St w s128 (vecC 3 1 a131 c132 n134 cs135 :: pt b65 (.cells #[.slice a146 q145.length c147, .slice a150 q149.length c151] 25 (0, 0)) :: pt b52 (.cells #[.slice a138 q137.length c139, .slice a142 q141.length c143] 25 (0, 0)) :: pt b51 (.cells #[.slice a0_0 x0.Room.length c0_0, .slice a0_1 x0.Tracks.length c0_1] 25 (0, 0)) :: R)) (m := x1.length) ⟨x1, 0, [], [], [], q57, q78, none, 0, 0, [], none, 0, none, 0, a59, c60, a79, c80, s116, rfl, rfl, (Sg.Le.refl _), hq119, (Ev.nil), (rfl), Sl.nil, Sl.nil, h115, h118, hE.pick _ ⟨rfl, rfl, rfl, rfl, rfl, rfl, trivial⟩, hS⟩ ?_
        clear hE hS a w hq119; rintro m127 a w ⟨rest123, k121, q130, q137, q141, q145, q149, a131, c132, n134, cs135, a138, c139, a142, c143, a146, c147, a150, c151, s128, rfl, hd124, hle129, hq119, h133, rfl, h140, h144, h148, h152, hE, hS⟩
        refine W.gen fun K153 hK153 => ?_
        replace h1 := Sl.mono RFleetMove.mono hle129 h1
        replace h115 := Sl.mono RI.mono hle129 h115
        replace h118 := Sl.mono (RL.mono RI.mono) hle129 h118
        replace h0_0 := Sl.mono RI.mono hle129 h0_0
        replace h0_1 := Sl.mono (RL.mono RI.mono) hle129 h0_1
        rcases rest123 with _ | ⟨x122, rest123⟩
        · have hlt125 := drop_nil hd124
          refine W.seq ?_
          refine W.region ?_
          refine WL.vS hS hE (runs_plain rfl) (Gives.p hE rfl) rfl ?_; clear hE a; intro a hE
          refine WL.nil ?_
          refine W.seq ?_
          refine W.condF hE rfl (decide_eq_false (by omega)) ?_
          subst hK153
          refine W.exit rfl ?_
          exact ⟨q130, q137, q141, q145, q149, a131, c132, q130.length, cs135, a138, c139, a142, c143, a146, c147, a150, c151, s128, hle129, Option.some.inj hq119, h133, rfl, h140, h144, h148, h152, hE.pick _ ⟨rfl, rfl, rfl, trivial⟩, hS⟩
        · obtain ⟨hlt125, hx126, hd124⟩ := drop_cons hd124
          rw [FleetPlay.loop2] at hq119
          refine W.seq ?_
          refine W.region ?_
          refine WL.vS hS hE (runs_plain rfl) (Gives.p hE rfl) rfl ?_; clear hE a; intro a hE
          refine WL.nil ?_
          refine W.seq ?_
          refine W.condT hE rfl (decide_eq_true (by omega)) ?_
          refine W.skip ?_
          refine W.seq ?_
          refine W.block ?_
          refine W.seq ?_
          refine W.region ?_
          obtain ⟨cs154, hl155, hR156, hat157⟩ := h1.at hx126
          subst hR156
          refine WL.vS hS hE (runs_plain rfl) (Gives.idx hE k121 rfl rfl sl38 rfl hlt125 (h1.aok hlt125)) rfl ?_; clear hE a; intro a hE
          refine WL.vS hS hE (runs_plain rfl) (Gives.loadA hE rfl (fun w h => hat157 w _ h) ty44) rfl ?_; clear hE a; intro a hE
          refine WL.alloc hE hS (runs_plain rfl) zr44 rfl ?_; clear hE hS a w; intro b158 a w hE hS
          refine WL.storeI hE hS 0 rfl (FleetMove.cells x122) (runs_plain rfl) rfl rfl rfl ty44 rfl rfl rfl rfl ?_; clear hE hS a w; intro a w hE hS
          refine WL.nil ?_
          refine W.seq ?_
          refine W.region ?_
          refine WL.vS hS hE (runs_plain rfl) (Gives.loadBA hE 2 rfl rfl ty25) rfl ?_; clear hE a; intro a hE
          refine WL.vS hS hE (runs_plain rfl) (Gives.loadBA hE 0 rfl rfl ty44) rfl ?_; clear hE a; intro a hE
          obtain ⟨q159, hq160, hq119⟩ := bindS hq119
          refine WL.fn hE (Fleetdo_ok hS h148 h152 hq160) (runs_plain rfl) bd56 rfl rfl ?_
          clear hE hS; rintro e w ⟨cs161, s163, rfl, hle164, h162, hS⟩; refine ⟨_, rfl, ?_⟩; clear a; intro a hE
          replace h1 := Sl.mono RFleetMove.mono hle164 h1
          replace h148 := Sl.mono RI.mono hle164 h148
          replace h152 := Sl.mono (RL.mono RI.mono) hle164 h152
          replace h133 := Ev.mono RI.mono hle164 h133
          replace h140 := Sl.mono RI.mono hle164 h140
          replace h144 := Sl.mono (RL.mono RI.mono) hle164 h144
          replace h0_0 := Sl.mono RI.mono hle164 h0_0
          replace h0_1 := Sl.mono (RL.mono RI.mono) hle164 h0_1
          obtain ⟨a165, c166, a168, c169, rfl, h167, h170⟩ := h162
          refine WL.vS hS hE (runs_plain rfl) (Gives.p hE rfl) rfl ?_; clear hE a; intro a hE
          refine WL.vS hS hE (runs_plain rfl) (Gives.p hE rfl) rfl ?_; clear hE a; intro a hE
          refine WL.vS hS hE (runs_plain rfl) (Gives.p hE rfl) rfl ?_; clear hE a; intro a hE
          refine WL.vS hS hE (runs_plain rfl) (Gives.p hE rfl) rfl ?_; clear hE a; intro a hE
          refine WL.alloc hE hS (runs_plain rfl) zr25 rfl ?_; clear hE hS a w; intro b171 a w hE hS
          refine WL.storeI hE hS 0 rfl [.slice a165 q159.1.Room.length c166, .slice a168 q159.1.Tracks.length c169] (runs_plain rfl) rfl rfl rfl ty25 rfl rfl rfl rfl ?_; clear hE hS a w; intro a w hE hS
          refine WL.vS hS hE (runs_plain rfl) (Gives.p hE rfl) rfl ?_; clear hE a; intro a hE
          refine WL.vS hS hE (runs_plain rfl) (Gives.p hE rfl) rfl ?_; clear hE a; intro a hE
          refine WL.nil ?_
          refine W.seq ?_
          refine W.seq ?_
          refine W.region ?_
          refine WL.vS hS hE (runs_plain rfl) (Gives.p hE rfl) rfl ?_; clear hE a; intro a hE
          refine WL.vS hS hE (runs_plain rfl) (Gives.p hE rfl) rfl ?_; clear hE a; intro a hE
          refine WL.nil ?_
          refine W.cond hE rfl (fun hc172 => ?_) (fun hc172 => ?_)
          · replace hq119 := iteT hc172 hq119
            refine W.seq ?_
            refine W.region ?_
            refine WL.vS hS hE (runs_plain rfl) (Gives.build hE (vs := []) [.slice none 0 0, .slice none 0 0] rfl (by kernel_rfl)) rfl ?_; clear hE a; intro a hE
            refine WL.vS hS hE (runs_plain rfl) (Gives.p hE rfl) rfl ?_; clear hE a; intro a hE
            refine WL.storeI hE hS 4 rfl [.slice none 0 0, .slice none 0 0] (runs_plain rfl) rfl rfl rfl ty25 rfl rfl rfl rfl ?_; clear hE hS a w; intro a w hE hS
            refine WL.vS hS hE (runs_plain rfl) (Gives.p hE rfl) rfl ?_; clear hE a; intro a hE
            refine WL.vS hS hE (runs_plain rfl) (Gives.p hE rfl) rfl ?_; clear hE a; intro a hE
            refine WL.nil ?_
            refine W.ret ?_
            subst hK153
            rw [← Option.some.inj hq119] at hr
            dsimp only at hr
            replace hS := hS.vecNil 3 1
            refine finG (fn := Try.f20) (rs := [.cell 4 25, .tmp 5, .tmp 6]) (vs := [_, _, _]) hE rfl ⟨⟨_, _, rfl, rfl, hS.seesAt 5 rfl, ty25⟩, rfl, rfl, trivial⟩ ?_
            obtain rfl := Option.some.inj hr
            replace hS := hS.dropAt 1
            replace hS := hS.dropAt 1
            replace hS := hS.dropAt 1
            replace hS := hS.dropAt 1
            replace hS := hS.dropAt 1
            replace hS := hS.dropAt 1
            exact ⟨_, none, 0, 0, [], s163, rfl, (Sg.Le.trans (Sg.Le.trans (Sg.Le.trans (Sg.Le.trans hle77 hle114) hle117) hle129) hle164), ⟨_, _, _, _, rfl, Sl.nil, Sl.nil⟩, (Ev.nil), (rfl), hS⟩
          · replace hq119 := iteF hc172 hq119
            refine W.skip ?_
            refine W.seq ?_
            refine W.region ?_
            refine WL.vS hS hE (runs_plain rfl) (Gives.loadBA hE 0 rfl rfl ty25) rfl ?_; clear hE a; intro a hE
            refine WL.storeI hE hS 3 rfl [.slice a165 q159.1.Room.length c166, .slice a168 q159.1.Tracks.length c169] (runs_plain rfl) rfl rfl rfl ty25 rfl rfl rfl rfl ?_; clear hE hS a w; intro a w hE hS
            refine WL.nil ?_
            refine W.seq ?_
            refine W.region ?_
            refine WL.vS hS hE (runs_plain rfl) (Gives.fld hE rfl fl44_1) rfl ?_; clear hE a; intro a hE
            refine WL.vS hS hE (runs_plain rfl) (Gives.loadB hE 1 rfl rfl rfl ty3) rfl ?_; clear hE a; intro a hE
            refine WL.vS hS hE (runs_plain rfl) (Gives.p hE rfl) rfl ?_; clear hE a; intro a hE
            refine WL.nil ?_
            obtain ⟨q175, hq174, hq119⟩ := bindS hq119
            refine W.cut (fun a w => ∃ (q178 : List Int), ∃ (a179 : Option Addr), ∃ (c180 : Nat), ∃ (n182 : Nat), ∃ (cs183 : List Value), q178 = q175 ∧ Ev 1 (RI .i64) s163 cs183 q178 ∧ q178.length = n182 ∧ Rep a 70 [(4, .pointer (some ⟨b52, 0, none⟩)), (8, .pointer (some ⟨b65, 0, none⟩)), (11, .slice a179 n182 c180), (42, .slice a1 x1.length c1), (43, .int .i64 ((x1).length : Int)), (44, .int .i64 ((k121 : Nat) : Int))] ∧ St w s163 (pt b171 (.cells #[.slice a165 q159.1.Room.length c166, .slice a168 q159.1.Tracks.length c169] 25 (0, 0)) :: pt b158 (.cells (FleetMove.cells x122).toArray 44 (0, 0)) :: vecC 3 1 a179 c180 n182 cs183 :: pt b65 (.cells #[.slice a165 q159.1.Room.length c166, .slice a168 q159.1.Tracks.length c169] 25 (0, 0)) :: pt b52 (.cells #[.slice a138 q137.length c139, .slice a142 q141.length c143] 25 (0, 0)) :: pt b51 (.cells #[.slice a0_0 x0.Room.length c0_0, .slice a0_1 x0.Tracks.length c0_1] 25 (0, 0)) :: R)) ?_ ?_
            · refine W.gen fun K185 hK185 => ?_
              refine W.cond hE rfl (fun hc186 => ?_) (fun hc186 => ?_)
              · replace hq174 := iteT hc186 hq174
                refine W.region ?_
                refine WL.vS hS hE (runs_plain rfl) (Gives.p hE rfl) rfl ?_; clear hE a; intro a hE
                refine WL.vS hS hE (runs_plain rfl) (Gives.p hE rfl) rfl ?_; clear hE a; intro a hE
                refine WL.lit hE hS (e := 3) (es := 1) (vs := [(0, .int .i64 q159.2.1)]) (cs := [.int .i64 q159.2.1]) (runs_plain rfl) rfl (by kernel_rfl) rfl ?_; clear hE hS a w; intro b187 a w hE hS
                obtain ⟨x188, hx189, hq174⟩ := bindS hq174
                refine WL.appD hE hS 2 (m := 1) (runs_plain rfl) rfl rfl rfl ap22 rfl h133 rfl (xs := [q159.2.1]) (Ev.cons (c1 := [.int .i64 q159.2.1]) rfl rfl (Ev.nil)) rfl rfl hx189 rfl ?_; clear hE hS a w; intro a190 c191 cs192 a w h193 hE hS
                refine WL.vS hS hE (runs_plain rfl) (Gives.p hE rfl) rfl ?_; clear hE a; intro a hE
                refine WL.nil ?_
                subst hK185
                exact ⟨x188, a190, c191, x188.length, cs192, Option.some.inj hq174, h193, (rfl), hE.pick _ ⟨rfl, rfl, rfl, rfl, rfl, rfl, trivial⟩, hS⟩
              · replace hq174 := iteF hc186 hq174
                refine W.skip ?_
                subst hK185
                exact ⟨q130, a131, c132, q130.length, cs135, Option.some.inj hq174, h133, rfl, hE.pick _ ⟨rfl, rfl, rfl, rfl, rfl, rfl, trivial⟩, hS⟩
            · clear hE hS a w; rintro a w ⟨q178, a179, c180, n182, cs183, rfl, h181, rfl, hE, hS⟩
              refine W.region ?_
              refine WL.vS hS hE (runs_plain rfl) (Gives.inc hE rfl (by have := h1.small; omega)) rfl ?_; clear hE a; intro a hE
              refine WL.vS hS hE (runs_plain rfl) (Gives.p hE rfl) rfl ?_; clear hE a; intro a hE
              refine WL.nil ?_
              replace hS := hS.tail
              replace hS := hS.tail
              subst hK153
              exact ⟨rest123.length, Nat.lt_succ_self _, rest123, k121 + 1, q178, q137, q141, q159.1.Room, q159.1.Tracks, a179, c180, q178.length, cs183, a138, c139, a142, c143, a165, c166, a168, c169, s163, rfl, hd124, (Sg.Le.trans hle129 hle164), hq119, h181, rfl, h140, h144, h167, h170, hE.pick _ ⟨rfl, rfl, rfl, rfl, rfl, rfl, trivial⟩, hS⟩
      · clear hE hS a w; rintro a w ⟨q130, q137, q141, q145, q149, a131, c132, n134, cs135, a138, c139, a142, c143, a146, c147, a150, c151, s128, hle129, rfl, h133, rfl, h140, h144, h148, h152, hE, hS⟩
        dsimp only at hr
        replace h1 := Sl.mono RFleetMove.mono hle129 h1
        replace h115 := Sl.mono RI.mono hle129 h115
        replace h118 := Sl.mono (RL.mono RI.mono) hle129 h118
        replace h0_0 := Sl.mono RI.mono hle129 h0_0
        replace h0_1 := Sl.mono (RL.mono RI.mono) hle129 h0_1
        refine W.seq ?_
        refine W.region ?_
        refine WL.vS hS hE (runs_plain rfl) (Gives.loadBA hE 1 rfl rfl ty25) rfl ?_; clear hE a; intro a hE
        refine WL.vS hS hE (runs_plain rfl) (Gives.p hE rfl) rfl ?_; clear hE a; intro a hE
        refine WL.storeI hE hS 2 rfl [.slice a146 q145.length c147, .slice a150 q149.length c151] (runs_plain rfl) rfl rfl rfl ty25 rfl rfl rfl rfl ?_; clear hE hS a w; intro a w hE hS
        refine WL.vS hS hE (runs_plain rfl) (Gives.p hE rfl) rfl ?_; clear hE a; intro a hE
        refine WL.vS hS hE (runs_plain rfl) (Gives.p hE rfl) rfl ?_; clear hE a; intro a hE
        refine WL.nil ?_
        refine W.ret ?_
        refine finG (fn := Try.f20) (rs := [.cell 4 25, .tmp 5, .tmp 6]) (vs := [_, _, _]) hE rfl ⟨⟨_, _, rfl, rfl, hS.seesAt 2 rfl, ty25⟩, rfl, rfl, trivial⟩ ?_
        obtain rfl := Option.some.inj hr
        replace hS := hS.dropAt 1
        replace hS := hS.dropAt 1
        replace hS := hS.dropAt 1
        exact ⟨_, a131, c132, q130.length, cs135, s128, rfl, (Sg.Le.trans (Sg.Le.trans (Sg.Le.trans hle77 hle114) hle117) hle129), ⟨_, _, _, _, rfl, h148, h152⟩, h133, rfl, hS⟩
set_option maxHeartbeats 8000000 in
theorem Fishref2within_ok  {w : World} {s : Sg} {R : List HP} {x0 : Int} {x1 : Int} {x2 : Int} (hS : St w s (R))  {r : Bool} (hr : Fishref2within x0 x1 x2 = r) :
    Calls Try.prog 49 [.int .i64 x0, .int .i64 x1, .int .i64 x2].toArray w (fun e w => e = .returned (.bool r) ∧ St w s (R)) := by
  refine enter Try.func49 rfl rfl rfl fun a hE => ?_
  rw [Fishref2within] at hr
  refine W.seq ?_
  refine W.region ?_
  refine WL.vS hS hE (runs_plain rfl) (Gives.p hE rfl) rfl ?_; clear hE a; intro a hE
  refine WL.nil ?_
  refine W.seq ?_
  obtain ⟨q52, hq51, hr⟩ := bndS hr
  refine W.cut (fun a w => ∃ (q55 : Bool), q55 = q52 ∧ Rep a 15 [(6, .bool q55)] ∧ St w s (R)) ?_ ?_
  · refine W.gen fun K56 hK56 => ?_
    refine W.region ?_
    refine WL.vS hS hE (runs_plain rfl) (Gives.p hE rfl) rfl ?_; clear hE a; intro a hE
    refine WL.vS hS hE (runs_plain rfl) (Gives.p hE rfl) rfl ?_; clear hE a; intro a hE
    refine WL.vS hS hE (runs_plain rfl) (Gives.p hE rfl) rfl ?_; clear hE a; intro a hE
    refine WL.vS hS hE (runs_plain rfl) (Gives.p hE rfl) rfl ?_; clear hE a; intro a hE
    rcases Bool.eq_false_or_eq_true (decide (x0 ≥ x1)) with hg57 | hg57
    · replace hq51 := iteT hg57 hq51
      refine WL.vS hS hE (runs_if hE rfl rfl rfl hg57) (Gives.p hE rfl) rfl ?_; clear hE a; intro a hE
      refine WL.vS hS hE (runs_if hE rfl rfl rfl hg57) (Gives.p hE rfl) rfl ?_; clear hE a; intro a hE
      refine WL.vS hS hE (runs_if hE rfl rfl rfl hg57) (Gives.p hE rfl) rfl ?_; clear hE a; intro a hE
      refine WL.vS hS hE (runs_plain rfl) (Gives.pickT hE rfl hg57 rfl) rfl ?_; clear hE a; intro a hE
      refine WL.vS hS hE (runs_plain rfl) (Gives.p hE rfl) rfl ?_; clear hE a; intro a hE
      refine WL.nil ?_
      subst hK56
      exact ⟨decide (x0 ≤ x2), hq51, hE.pick _ ⟨rfl, trivial⟩, hS⟩
    · replace hq51 := iteF hg57 hq51
      refine WL.no hE (runs_not hE rfl rfl rfl (by rw [hg57]; decide)) rfl ?_; clear hE a; intro a hE
      refine WL.no hE (runs_not hE rfl rfl rfl (by rw [hg57]; decide)) rfl ?_; clear hE a; intro a hE
      refine WL.no hE (runs_not hE rfl rfl rfl (by rw [hg57]; decide)) rfl ?_; clear hE a; intro a hE
      refine WL.vS hS hE (runs_plain rfl) (Gives.pickF hE rfl hg57 rfl) rfl ?_; clear hE a; intro a hE
      refine WL.vS hS hE (runs_plain rfl) (Gives.p hE rfl) rfl ?_; clear hE a; intro a hE
      refine WL.nil ?_
      subst hK56
      exact ⟨false, hq51, hE.pick _ ⟨rfl, trivial⟩, hS⟩
  · clear hE hS a w; rintro a w ⟨q55, rfl, hE, hS⟩
    refine W.ret ?_
    refine finG (fn := Try.f49) (rs := [.tmp 6]) (vs := [_]) hE rfl ⟨rfl, trivial⟩ ?_
    subst hr
    exact ⟨rfl, hS⟩
set_option maxHeartbeats 8000000 in
theorem SlicesIndexLint_ok  {w : World} {s : Sg} {R : List HP} {x0 : List Int} {a0 : Option Addr} {c0 : Nat} {x1 : Int} (hS : St w s (R)) (h0 : Sl 1 (RI .i64) s a0 c0 x0) {r : Int} (hr : SlicesIndexLint x0 x1 = r) :
    Calls Try.prog 16 [.slice a0 x0.length c0, .int .i64 x1].toArray w (fun e w => e = .returned (.int .i64 r) ∧ St w s (R)) := by
  refine enter Try.func16 rfl rfl rfl fun a hE => ?_
  rw [SlicesIndexLint] at hr
  refine W.seq ?_
  refine W.region ?_
  refine WL.vS hS hE (runs_plain rfl) (Gives.p hE rfl) rfl ?_; clear hE a; intro a hE
  refine WL.nil ?_
  refine W.seq ?_
  refine W.seq ?_
  refine W.region ?_
  refine WL.vS hS hE (runs_plain rfl) (Gives.p hE rfl) rfl ?_; clear hE a; intro a hE
  refine WL.vS hS hE (runs_plain rfl) (Gives.len hE rfl sl22) rfl ?_; clear hE a; intro a hE
  refine WL.vS hS hE (runs_plain rfl) (Gives.p hE rfl) rfl ?_; clear hE a; intro a hE
  refine WL.nil ?_
  obtain ⟨q52, hq51, hr⟩ := bndS hr
  refine W.cut (fun a w => (.next ()) = q52 ∧ Rep a 19 [] ∧ St w s (R)) ?_ ?_
  · refine W.block ?_
    refine W.loop (fun m a w => ∃ (rest55 : List Int) (k53 : Nat), rest55.length = m ∧ x0.drop k53 = rest55 ∧ SlicesIndexLint.loop1 x1 rest55 k53 = q52 ∧ Rep a 19 [(0, .slice a0 x0.length c0), (1, .int .i64 x1), (7, .int .i64 ((x0).length : Int)), (8, .int .i64 ((k53 : Nat) : Int))] ∧ St w s (R)) (m := x0.length) ⟨x0, 0, rfl, rfl, hq51, hE.pick _ ⟨rfl, rfl, rfl, rfl, trivial⟩, hS⟩ ?_
    clear hE hS a w hq51; rintro m59 a w ⟨rest55, k53, rfl, hd56, hq51, hE, hS⟩
    refine W.gen fun K62 hK62 => ?_
    rcases rest55 with _ | ⟨x54, rest55⟩
    · have hlt57 := drop_nil hd56
      refine W.seq ?_
      refine W.region ?_
      refine WL.vS hS hE (runs_plain rfl) (Gives.p hE rfl) rfl ?_; clear hE a; intro a hE
      refine WL.nil ?_
      refine W.seq ?_
      refine W.condF hE rfl (decide_eq_false (by omega)) ?_
      subst hK62
      refine W.exit rfl ?_
      exact ⟨hq51, hE.pick _ trivial, hS⟩
    · obtain ⟨hlt57, hx58, hd56⟩ := drop_cons hd56
      rw [SlicesIndexLint.loop1] at hq51
      refine W.seq ?_
      refine W.region ?_
      refine WL.vS hS hE (runs_plain rfl) (Gives.p hE rfl) rfl ?_; clear hE a; intro a hE
      refine WL.nil ?_
      refine W.seq ?_
      refine W.condT hE rfl (decide_eq_true (by omega)) ?_
      refine W.skip ?_
      refine W.seq ?_
      refine W.block ?_
      refine W.seq ?_
      refine W.region ?_
      refine WL.vS hS hE (runs_plain rfl) (Gives.p hE rfl) rfl ?_; clear hE a; intro a hE
      refine WL.vS hS hE (runs_plain rfl) (Gives.p hE rfl) rfl ?_; clear hE a; intro a hE
      refine WL.nil ?_
      refine W.seq ?_
      refine W.region ?_
      refine WL.vS hS hE (runs_plain rfl) (Gives.p hE rfl) rfl ?_; clear hE a; intro a hE
      refine WL.vS hS hE (runs_plain rfl) (Gives.p hE rfl) rfl ?_; clear hE a; intro a hE
      refine WL.vS hS hE (runs_plain rfl) (Gives.p hE rfl) rfl ?_; clear hE a; intro a hE
      obtain ⟨cs63, hl64, hR65, hat66⟩ := h0.at hx58
      subst hR65
      refine WL.vS hS hE (runs_plain rfl) (Gives.idx hE k53 rfl rfl sl22 rfl hlt57 (h0.aok hlt57)) rfl ?_; clear hE a; intro a hE
      refine WL.vS hS hE (runs_plain rfl) (Gives.load1 hE rfl (fun w h => hat66 w _ h) ty3) rfl ?_; clear hE a; intro a hE
      refine WL.vS hS hE (runs_plain rfl) (Gives.p hE rfl) rfl ?_; clear hE a; intro a hE
      refine WL.nil ?_
      refine W.cond hE rfl (fun hc67 => ?_) (fun hc67 => ?_)
      · replace hq51 := iteT hc67 hq51
        refine W.seq ?_
        refine W.region ?_
        refine WL.vS hS hE (runs_plain rfl) (Gives.p hE rfl) rfl ?_; clear hE a; intro a hE
        refine WL.vS hS hE (runs_plain rfl) (Gives.p hE rfl) rfl ?_; clear hE a; intro a hE
        refine WL.nil ?_
        refine W.ret ?_
        subst hK62
        rw [← hq51] at hr
        dsimp only at hr
        refine finG (fn := Try.f16) (rs := [.tmp 4]) (vs := [_]) hE rfl ⟨rfl, trivial⟩ ?_
        subst hr
        exact ⟨rfl, hS⟩
      · replace hq51 := iteF hc67 hq51
        refine W.skip ?_
        refine W.region ?_
        refine WL.vS hS hE (runs_plain rfl) (Gives.inc hE rfl (by have := h0.small; omega)) rfl ?_; clear hE a; intro a hE
        refine WL.vS hS hE (runs_plain rfl) (Gives.p hE rfl) rfl ?_; clear hE a; intro a hE
        refine WL.nil ?_
        subst hK62
        exact ⟨rest55.length, Nat.lt_succ_self _, rest55, k53 + 1, rfl, hd56, hq51, hE.pick _ ⟨rfl, rfl, rfl, rfl, trivial⟩, hS⟩
  · clear hE hS a w; rintro a w ⟨rfl, hE, hS⟩
    dsimp only at hr
    refine W.seq ?_
    refine W.region ?_
    refine WL.vS hS hE (runs_plain rfl) (Gives.p hE rfl) rfl ?_; clear hE a; intro a hE
    refine WL.nil ?_
    refine W.ret ?_
    refine finG (fn := Try.f16) (rs := [.tmp 4]) (vs := [_]) hE rfl ⟨rfl, trivial⟩ ?_
    subst hr
    exact ⟨rfl, hS⟩
set_option maxHeartbeats 8000000 in
theorem SlicesContainsLint_ok  {w : World} {s : Sg} {R : List HP} {x0 : List Int} {a0 : Option Addr} {c0 : Nat} {x1 : Int} (hS : St w s (R)) (h0 : Sl 1 (RI .i64) s a0 c0 x0) {r : Bool} (hr : SlicesContainsLint x0 x1 = r) :
    Calls Try.prog 50 [.slice a0 x0.length c0, .int .i64 x1].toArray w (fun e w => e = .returned (.bool r) ∧ St w s (R)) := by
  refine enter Try.func50 rfl rfl rfl fun a hE => ?_
  rw [SlicesContainsLint] at hr
  refine W.seq ?_
  refine W.region ?_
  refine WL.vS hS hE (runs_plain rfl) (Gives.p hE rfl) rfl ?_; clear hE a; intro a hE
  refine WL.nil ?_
  refine W.seq ?_
  refine W.region ?_
  refine WL.vS hS hE (runs_plain rfl) (Gives.p hE rfl) rfl ?_; clear hE a; intro a hE
  refine WL.vS hS hE (runs_plain rfl) (Gives.p hE rfl) rfl ?_; clear hE a; intro a hE
  refine WL.fn hE (SlicesIndexLint_ok hS h0 rfl) (runs_plain rfl) bd16 rfl rfl ?_
  clear hE hS; rintro e w ⟨rfl, hS⟩; refine ⟨_, rfl, ?_⟩; clear a; intro a hE
  refine WL.vS hS hE (runs_plain rfl) (Gives.p hE rfl) rfl ?_; clear hE a; intro a hE
  refine WL.vS hS hE (runs_plain rfl) (Gives.p hE rfl) rfl ?_; clear hE a; intro a hE
  refine WL.nil ?_
  refine W.ret ?_
  refine finG (fn := Try.f50) (rs := [.tmp 4]) (vs := [_]) hE rfl ⟨rfl, trivial⟩ ?_
  subst hr
  exact ⟨rfl, hS⟩
set_option maxHeartbeats 8000000 in
theorem Fishref2DepotFault_ok  {w : World} {s : Sg} {R : List HP} {x0 : FleetDepot} {a0_0 : Option Addr} {c0_0 : Nat} {a0_1 : Option Addr} {c0_1 : Nat} (hS : St w s (R)) (h0_0 : Sl 1 (RI .i64) s a0_0 c0_0 x0.Room) (h0_1 : Sl 1 (RL 1 (RI .i64)) s a0_1 c0_1 x0.Tracks) {r : Int} (hr : Fishref2DepotFault x0 = some r) :
    Calls Try.prog 13 [.agg [.slice a0_0 x0.Room.length c0_0, .slice a0_1 x0.Tracks.length c0_1].toArray].toArray w (fun e w => e = .returned (.int .i64 r) ∧ St w s (R)) := by
  refine enter Try.func13 rfl rfl rfl fun a hE => ?_
  rw [Fishref2DepotFault] at hr
  refine W.seq ?_
  refine W.region ?_
  refine WL.box hE hS (runs_plain rfl) rfl rfl rfl ?_; clear hE hS a w; intro b51 a w hE hS
  refine WL.vS hS hE (runs_plain rfl) (Gives.p hE rfl) rfl ?_; clear hE a; intro a hE
  refine WL.nil ?_
  refine W.seq ?_
  refine W.seq ?_
  refine W.region ?_
  refine WL.vS hS hE (runs_plain rfl) (Gives.fld hE rfl fl25_0) rfl ?_; clear hE a; intro a hE
  refine WL.vS hS hE (runs_plain rfl) (Gives.loadB hE 0 rfl rfl rfl ty22) rfl ?_; clear hE a; intro a hE
  refine WL.vS hS hE (runs_plain rfl) (Gives.len hE rfl sl22) rfl ?_; clear hE a; intro a hE
  refine WL.fn hE (Fishref2within_ok hS  rfl) (runs_plain rfl) bd49 rfl rfl ?_
  clear hE hS; rintro e w ⟨rfl, hS⟩; refine ⟨_, rfl, ?_⟩; clear a; intro a hE
  refine WL.vS hS hE (runs_plain rfl) (Gives.p hE rfl) rfl ?_; clear hE a; intro a hE
  refine WL.nil ?_
  refine W.cond hE rfl (fun hc52 => ?_) (fun hc52 => ?_)
  · replace hr := iteT hc52 hr
    refine W.seq ?_
    refine W.region ?_
    refine WL.vS hS hE (runs_plain rfl) (Gives.p hE rfl) rfl ?_; clear hE a; intro a hE
    refine WL.nil ?_
    refine W.ret ?_
    refine finG (fn := Try.f13) (rs := [.tmp 2]) (vs := [_]) hE rfl ⟨rfl, trivial⟩ ?_
    obtain rfl := Option.some.inj hr
    replace hS := hS.tail
    exact ⟨rfl, hS⟩
  · replace hr := iteF hc52 hr
    refine W.skip ?_
    refine W.seq ?_
    refine W.seq ?_
    refine W.region ?_
    refine WL.vS hS hE (runs_plain rfl) (Gives.fld hE rfl fl25_1) rfl ?_; clear hE a; intro a hE
    refine WL.vS hS hE (runs_plain rfl) (Gives.loadB hE 0 rfl rfl rfl ty23) rfl ?_; clear hE a; intro a hE
    refine WL.vS hS hE (runs_plain rfl) (Gives.len hE rfl sl23) rfl ?_; clear hE a; intro a hE
    refine WL.vS hS hE (runs_plain rfl) (Gives.fld hE rfl fl25_0) rfl ?_; clear hE a; intro a hE
    refine WL.vS hS hE (runs_plain rfl) (Gives.loadB hE 0 rfl rfl rfl ty22) rfl ?_; clear hE a; intro a hE
    refine WL.vS hS hE (runs_plain rfl) (Gives.len hE rfl sl22) rfl ?_; clear hE a; intro a hE
    refine WL.vS hS hE (runs_plain rfl) (Gives.p hE rfl) rfl ?_; clear hE a; intro a hE
    refine WL.nil ?_
    refine W.cond hE rfl (fun hc53 => ?_) (fun hc53 => ?_)
    · replace hr := iteT hc53 hr
      refine W.seq ?_
      refine W.region ?_
      refine WL.vS hS hE (runs_plain rfl) (Gives.p hE rfl) rfl ?_; clear hE a; intro a hE
      refine WL.nil ?_
      refine W.ret ?_
      refine finG (fn := Try.f13) (rs := [.tmp 2]) (vs := [_]) hE rfl ⟨rfl, trivial⟩ ?_
      obtain rfl := Option.some.inj hr
      replace hS := hS.tail
      exact ⟨rfl, hS⟩
    · replace hr := iteF hc53 hr
      refine W.skip ?_
      refine W.seq ?_
      refine W.region ?_
      replace hS := hS.vecNil 3 1
      refine WL.vS hS hE (runs_plain rfl) (Gives.p hE rfl) rfl ?_; clear hE a; intro a hE
      refine WL.nil ?_
      refine W.seq ?_
      refine W.seq ?_
      refine W.region ?_
      refine WL.vS hS hE (runs_plain rfl) (Gives.fld hE rfl fl25_0) rfl ?_; clear hE a; intro a hE
      refine WL.vS hS hE (runs_plain rfl) (Gives.loadB hE 1 rfl rfl rfl ty22) rfl ?_; clear hE a; intro a hE
      refine WL.vS hS hE (runs_plain rfl) (Gives.len hE rfl sl22) rfl ?_; clear hE a; intro a hE
      refine WL.vS hS hE (runs_plain rfl) (Gives.p hE rfl) rfl ?_; clear hE a; intro a hE
      refine WL.nil ?_
      obtain ⟨q56, hq55, hr⟩ := bindS hr
      refine W.cut (fun a w => ∃ (q66 : List Int), ∃ (a67 : Option Addr), ∃ (c68 : Nat), ∃ (n70 : Nat), ∃ (cs71 : List Value), (.next q66) = q56 ∧ Ev 1 (RI .i64) s cs71 q66 ∧ q66.length = n70 ∧ Rep a 61 [] ∧ St w s (vecC 3 1 a67 c68 n70 cs71 :: pt b51 (.cells #[.slice a0_0 x0.Room.length c0_0, .slice a0_1 x0.Tracks.length c0_1] 25 (0, 0)) :: R)) ?_ ?_
      · refine W.block ?_
        refine W.loop (fun m a w => ∃ (rest59 : List Int) (k57 : Nat), ∃ (q66 : List Int), ∃ (a67 : Option Addr), ∃ (c68 : Nat), ∃ (n70 : Nat), ∃ (cs71 : List Value), rest59.length = m ∧ x0.Room.drop k57 = rest59 ∧ Fishref2DepotFault.loop1 x0 rest59 k57 q66 = some q56 ∧ Ev 1 (RI .i64) s cs71 q66 ∧ q66.length = n70 ∧ Rep a 61 [(1, .pointer (some ⟨b51, 0, none⟩)), (3, .slice a67 n70 c68), (21, .slice a0_0 x0.Room.length c0_0), (22, .int .i64 ((x0.Room).length : Int)), (23, .int .i64 ((k57 : Nat) : Int))] ∧ St w s (vecC 3 1 a67 c68 n70 cs71 :: pt b51 (.cells #[.slice a0_0 x0.Room.length c0_0, .slice a0_1 x0.Tracks.length c0_1] 25 (0, 0)) :: R)) (m := x0.Room.length) ⟨x0.Room, 0, [], none, 0, 0, [], rfl, rfl, hq55, (Ev.nil), (rfl), hE.pick _ ⟨rfl, rfl, rfl, rfl, rfl, trivial⟩, hS⟩ ?_
        clear hE hS a w hq55; rintro m63 a w ⟨rest59, k57, q66, a67, c68, n70, cs71, rfl, hd60, hq55, h69, rfl, hE, hS⟩
        refine W.gen fun K73 hK73 => ?_
        rcases rest59 with _ | ⟨x58, rest59⟩
        · have hlt61 := drop_nil hd60
          refine W.seq ?_
          refine W.region ?_
          refine WL.vS hS hE (runs_plain rfl) (Gives.p hE rfl) rfl ?_; clear hE a; intro a hE
          refine WL.nil ?_
          refine W.seq ?_
          refine W.condF hE rfl (decide_eq_false (by omega)) ?_
          subst hK73
          refine W.exit rfl ?_
          exact ⟨q66, a67, c68, q66.length, cs71, Option.some.inj hq55, h69, rfl, hE.pick _ trivial, hS⟩
        · obtain ⟨hlt61, hx62, hd60⟩ := drop_cons hd60
          rw [Fishref2DepotFault.loop1] at hq55
          refine W.seq ?_
          refine W.region ?_
          refine WL.vS hS hE (runs_plain rfl) (Gives.p hE rfl) rfl ?_; clear hE a; intro a hE
          refine WL.nil ?_
          refine W.seq ?_
          refine W.condT hE rfl (decide_eq_true (by omega)) ?_
          refine W.skip ?_
          refine W.seq ?_
          refine W.block ?_
          refine W.seq ?_
          refine W.region ?_
          refine WL.vS hS hE (runs_plain rfl) (Gives.p hE rfl) rfl ?_; clear hE a; intro a hE
          obtain ⟨cs74, hl75, hR76, hat77⟩ := h0_0.at hx62
          subst hR76
          refine WL.vS hS hE (runs_plain rfl) (Gives.idx hE k57 rfl rfl sl22 rfl hlt61 (h0_0.aok hlt61)) rfl ?_; clear hE a; intro a hE
          refine WL.vS hS hE (runs_plain rfl) (Gives.load1 hE rfl (fun w h => hat77 w _ h) ty3) rfl ?_; clear hE a; intro a hE
          refine WL.vS hS hE (runs_plain rfl) (Gives.p hE rfl) rfl ?_; clear hE a; intro a hE
          refine WL.vS hS hE (runs_plain rfl) (Gives.p hE rfl) rfl ?_; clear hE a; intro a hE
          refine WL.nil ?_
          refine W.seq ?_
          refine W.seq ?_
          refine W.region ?_
          refine WL.vS hS hE (runs_plain rfl) (Gives.p hE rfl) rfl ?_; clear hE a; intro a hE
          refine WL.fn hE (Fishref2within_ok hS  rfl) (runs_plain rfl) bd49 rfl rfl ?_
          clear hE hS; rintro e w ⟨rfl, hS⟩; refine ⟨_, rfl, ?_⟩; clear a; intro a hE
          refine WL.vS hS hE (runs_plain rfl) (Gives.p hE rfl) rfl ?_; clear hE a; intro a hE
          refine WL.nil ?_
          refine W.cond hE rfl (fun hc78 => ?_) (fun hc78 => ?_)
          · replace hq55 := iteT hc78 hq55
            refine W.seq ?_
            refine W.region ?_
            refine WL.vS hS hE (runs_plain rfl) (Gives.p hE rfl) rfl ?_; clear hE a; intro a hE
            refine WL.nil ?_
            refine W.ret ?_
            subst hK73
            rw [← Option.some.inj hq55] at hr
            dsimp only at hr
            refine finG (fn := Try.f13) (rs := [.tmp 2]) (vs := [_]) hE rfl ⟨rfl, trivial⟩ ?_
            obtain rfl := Option.some.inj hr
            replace hS := hS.tail
            replace hS := hS.tail
            exact ⟨rfl, hS⟩
          · replace hq55 := iteF hc78 hq55
            refine W.skip ?_
            refine W.seq ?_
            refine W.seq ?_
            refine W.region ?_
            refine WL.vS hS hE (runs_plain rfl) (Gives.fld hE rfl fl25_1) rfl ?_; clear hE a; intro a hE
            refine WL.vS hS hE (runs_plain rfl) (Gives.loadB hE 1 rfl rfl rfl ty23) rfl ?_; clear hE a; intro a hE
            refine WL.vS hS hE (runs_plain rfl) (Gives.p hE rfl) rfl ?_; clear hE a; intro a hE
            obtain ⟨x79, hx80, hq55⟩ := bindS hq55
            obtain ⟨hi81, hlt82, hy83⟩ := gx_some hx80
            obtain ⟨cs84, hl85, hR86, hat87⟩ := h0_1.at hy83
            obtain ⟨a88, c89, rfl, h90⟩ := hR86
            refine WL.vS hS hE (runs_plain rfl) (Gives.idx hE (((k57 : Nat) : Int)).toNat rfl rfl sl23 hi81 hlt82 (h0_1.aok hlt82)) rfl ?_; clear hE a; intro a hE
            refine WL.vS hS hE (runs_plain rfl) (Gives.load1 hE rfl (fun w h => hat87 w _ h) ty22) rfl ?_; clear hE a; intro a hE
            refine WL.vS hS hE (runs_plain rfl) (Gives.len hE rfl sl22) rfl ?_; clear hE a; intro a hE
            refine WL.vS hS hE (runs_plain rfl) (Gives.p hE rfl) rfl ?_; clear hE a; intro a hE
            refine WL.vS hS hE (runs_plain rfl) (Gives.p hE rfl) rfl ?_; clear hE a; intro a hE
            refine WL.nil ?_
            refine W.cond hE rfl (fun hc91 => ?_) (fun hc91 => ?_)
            · replace hq55 := iteT hc91 hq55
              refine W.seq ?_
              refine W.region ?_
              refine WL.vS hS hE (runs_plain rfl) (Gives.p hE rfl) rfl ?_; clear hE a; intro a hE
              refine WL.nil ?_
              refine W.ret ?_
              subst hK73
              rw [← Option.some.inj hq55] at hr
              dsimp only at hr
              refine finG (fn := Try.f13) (rs := [.tmp 2]) (vs := [_]) hE rfl ⟨rfl, trivial⟩ ?_
              obtain rfl := Option.some.inj hr
              replace hS := hS.tail
              replace hS := hS.tail
              exact ⟨rfl, hS⟩
            · replace hq55 := iteF hc91 hq55
              refine W.skip ?_
              refine W.seq ?_
              refine W.region ?_
              refine WL.vS hS hE (runs_plain rfl) (Gives.fld hE rfl fl25_1) rfl ?_; clear hE a; intro a hE
              refine WL.vS hS hE (runs_plain rfl) (Gives.loadB hE 1 rfl rfl rfl ty23) rfl ?_; clear hE a; intro a hE
              refine WL.vS hS hE (runs_plain rfl) (Gives.p hE rfl) rfl ?_; clear hE a; intro a hE
              obtain ⟨x92, hx93, hq55⟩ := bindS hq55
              obtain ⟨hi94, hlt95, hy96⟩ := gx_some hx93
              obtain ⟨cs97, hl98, hR99, hat100⟩ := h0_1.at hy96
              obtain ⟨a101, c102, rfl, h103⟩ := hR99
              refine WL.vS hS hE (runs_plain rfl) (Gives.idx hE (((k57 : Nat) : Int)).toNat rfl rfl sl23 hi94 hlt95 (h0_1.aok hlt95)) rfl ?_; clear hE a; intro a hE
              refine WL.vS hS hE (runs_plain rfl) (Gives.load1 hE rfl (fun w h => hat100 w _ h) ty22) rfl ?_; clear hE a; intro a hE
              refine WL.vS hS hE (runs_plain rfl) (Gives.len hE rfl sl22) rfl ?_; clear hE a; intro a hE
              refine WL.vS hS hE (runs_plain rfl) (Gives.p hE rfl) rfl ?_; clear hE a; intro a hE
              refine WL.nil ?_
              obtain ⟨q105, hq104, hq55⟩ := bindS hq55
              refine W.cut (fun a w => ∃ (q115 : List Int), ∃ (a116 : Option Addr), ∃ (c117 : Nat), ∃ (n119 : Nat), ∃ (cs120 : List Value), (.next q115) = q105 ∧ Ev 1 (RI .i64) s cs120 q115 ∧ q115.length = n119 ∧ Rep a 61 [(1, .pointer (some ⟨b51, 0, none⟩)), (3, .slice a116 n119 c117), (21, .slice a0_0 x0.Room.length c0_0), (22, .int .i64 ((x0.Room).length : Int)), (23, .int .i64 ((k57 : Nat) : Int))] ∧ St w s (vecC 3 1 a116 c117 n119 cs120 :: pt b51 (.cells #[.slice a0_0 x0.Room.length c0_0, .slice a0_1 x0.Tracks.length c0_1] 25 (0, 0)) :: R)) ?_ ?_
              · refine W.block ?_
                refine W.loop (fun m a w => ∃ (rest108 : List Int) (k106 : Nat), ∃ (q115 : List Int), ∃ (a116 : Option Addr), ∃ (c117 : Nat), ∃ (n119 : Nat), ∃ (cs120 : List Value), rest108.length = m ∧ x92.drop k106 = rest108 ∧ Fishref2DepotFault.loop2 rest108 q115 = some q105 ∧ Ev 1 (RI .i64) s cs120 q115 ∧ q115.length = n119 ∧ Rep a 61 [(1, .pointer (some ⟨b51, 0, none⟩)), (3, .slice a116 n119 c117), (21, .slice a0_0 x0.Room.length c0_0), (22, .int .i64 ((x0.Room).length : Int)), (23, .int .i64 ((k57 : Nat) : Int)), (43, .slice a101 x92.length c102), (44, .int .i64 ((x92).length : Int)), (45, .int .i64 ((k106 : Nat) : Int))] ∧ St w s (vecC 3 1 a116 c117 n119 cs120 :: pt b51 (.cells #[.slice a0_0 x0.Room.length c0_0, .slice a0_1 x0.Tracks.length c0_1] 25 (0, 0)) :: R)) (m := x92.length) ⟨x92, 0, q66, a67, c68, q66.length, cs71, rfl, rfl, hq104, h69, rfl, hE.pick _ ⟨rfl, rfl, rfl, rfl, rfl, rfl, rfl, rfl, trivial⟩, hS⟩ ?_
                clear hE hS a w hq104; rintro m112 a w ⟨rest108, k106, q115, a116, c117, n119, cs120, rfl, hd109, hq104, h118, rfl, hE, hS⟩
                refine W.gen fun K122 hK122 => ?_
                rcases rest108 with _ | ⟨x107, rest108⟩
                · have hlt110 := drop_nil hd109
                  refine W.seq ?_
                  refine W.region ?_
                  refine WL.vS hS hE (runs_plain rfl) (Gives.p hE rfl) rfl ?_; clear hE a; intro a hE
                  refine WL.nil ?_
                  refine W.seq ?_
                  refine W.condF hE rfl (decide_eq_false (by omega)) ?_
                  subst hK122
                  refine W.exit rfl ?_
                  exact ⟨q115, a116, c117, q115.length, cs120, Option.some.inj hq104, h118, rfl, hE.pick _ ⟨rfl, rfl, rfl, rfl, rfl, trivial⟩, hS⟩
                · obtain ⟨hlt110, hx111, hd109⟩ := drop_cons hd109
                  rw [Fishref2DepotFault.loop2] at hq104
                  refine W.seq ?_
                  refine W.region ?_
                  refine WL.vS hS hE (runs_plain rfl) (Gives.p hE rfl) rfl ?_; clear hE a; intro a hE
                  refine WL.nil ?_
                  refine W.seq ?_
                  refine W.condT hE rfl (decide_eq_true (by omega)) ?_
                  refine W.skip ?_
                  refine W.seq ?_
                  refine W.block ?_
                  refine W.seq ?_
                  refine W.region ?_
                  obtain ⟨cs123, hl124, hR125, hat126⟩ := h103.at hx111
                  subst hR125
                  refine WL.vS hS hE (runs_plain rfl) (Gives.idx hE k106 rfl rfl sl22 rfl hlt110 (h103.aok hlt110)) rfl ?_; clear hE a; intro a hE
                  refine WL.vS hS hE (runs_plain rfl) (Gives.load1 hE rfl (fun w h => hat126 w _ h) ty3) rfl ?_; clear hE a; intro a hE
                  refine WL.vS hS hE (runs_plain rfl) (Gives.p hE rfl) rfl ?_; clear hE a; intro a hE
                  refine WL.nil ?_
                  refine W.seq ?_
                  refine W.seq ?_
                  refine W.region ?_
                  refine WL.vS hS hE (runs_plain rfl) (Gives.p hE rfl) rfl ?_; clear hE a; intro a hE
                  refine WL.fn hE (Fishref2within_ok hS  rfl) (runs_plain rfl) bd49 rfl rfl ?_
                  clear hE hS; rintro e w ⟨rfl, hS⟩; refine ⟨_, rfl, ?_⟩; clear a; intro a hE
                  refine WL.vS hS hE (runs_plain rfl) (Gives.p hE rfl) rfl ?_; clear hE a; intro a hE
                  refine WL.nil ?_
                  refine W.cond hE rfl (fun hc127 => ?_) (fun hc127 => ?_)
                  · replace hq104 := iteT hc127 hq104
                    refine W.seq ?_
                    refine W.region ?_
                    refine WL.vS hS hE (runs_plain rfl) (Gives.p hE rfl) rfl ?_; clear hE a; intro a hE
                    refine WL.nil ?_
                    refine W.ret ?_
                    subst hK122
                    subst hK73
                    rw [← Option.some.inj hq104] at hq55
                    dsimp only at hq55
                    rw [← Option.some.inj hq55] at hr
                    dsimp only at hr
                    refine finG (fn := Try.f13) (rs := [.tmp 2]) (vs := [_]) hE rfl ⟨rfl, trivial⟩ ?_
                    obtain rfl := Option.some.inj hr
                    replace hS := hS.tail
                    replace hS := hS.tail
                    exact ⟨rfl, hS⟩
                  · replace hq104 := iteF hc127 hq104
                    refine W.skip ?_
                    refine W.seq ?_
                    refine W.seq ?_
                    refine W.region ?_
                    refine WL.vS hS hE (runs_plain rfl) (Gives.p hE rfl) rfl ?_; clear hE a; intro a hE
                    refine WL.vS hS hE (runs_plain rfl) (Gives.p hE rfl) rfl ?_; clear hE a; intro a hE
                    have hF := hS.lendV RI.mono 0 rfl h118 rfl; clear hS; obtain ⟨t128, hle129, hS, hs130, bk131⟩ := hF
                    refine WL.fn hE (SlicesContainsLint_ok hS hs130 rfl) (runs_plain rfl) bd50 rfl rfl ?_
                    clear hE hS; rintro e w ⟨rfl, hS⟩; refine ⟨_, rfl, ?_⟩; clear a; intro a hE
                    replace hS := bk131 _ _ hS
                    refine WL.nil ?_
                    refine W.cond hE rfl (fun hc132 => ?_) (fun hc132 => ?_)
                    · replace hq104 := iteT hc132 hq104
                      refine W.seq ?_
                      refine W.region ?_
                      refine WL.vS hS hE (runs_plain rfl) (Gives.p hE rfl) rfl ?_; clear hE a; intro a hE
                      refine WL.nil ?_
                      refine W.ret ?_
                      subst hK122
                      subst hK73
                      rw [← Option.some.inj hq104] at hq55
                      dsimp only at hq55
                      rw [← Option.some.inj hq55] at hr
                      dsimp only at hr
                      refine finG (fn := Try.f13) (rs := [.tmp 2]) (vs := [_]) hE rfl ⟨rfl, trivial⟩ ?_
                      obtain rfl := Option.some.inj hr
                      replace hS := hS.tail
                      replace hS := hS.tail
                      exact ⟨rfl, hS⟩
                    · replace hq104 := iteF hc132 hq104
                      refine W.skip ?_
                      refine W.region ?_
                      refine WL.vS hS hE (runs_plain rfl) (Gives.p hE rfl) rfl ?_; clear hE a; intro a hE
                      refine WL.vS hS hE (runs_plain rfl) (Gives.p hE rfl) rfl ?_; clear hE a; intro a hE
                      refine WL.lit hE hS (e := 3) (es := 1) (vs := [(0, .int .i64 x107)]) (cs := [.int .i64 x107]) (runs_plain rfl) rfl (by kernel_rfl) rfl ?_; clear hE hS a w; intro b133 a w hE hS
                      obtain ⟨x134, hx135, hq104⟩ := bindS hq104
                      refine WL.appD hE hS 0 (m := 1) (runs_plain rfl) rfl rfl rfl ap22 rfl h118 rfl (xs := [x107]) (Ev.cons (c1 := [.int .i64 x107]) rfl rfl (Ev.nil)) rfl rfl hx135 rfl ?_; clear hE hS a w; intro a136 c137 cs138 a w h139 hE hS
                      refine WL.vS hS hE (runs_plain rfl) (Gives.p hE rfl) rfl ?_; clear hE a; intro a hE
                      refine WL.nil ?_
                      refine W.region ?_
                      refine WL.vS hS hE (runs_plain rfl) (Gives.inc hE rfl (by have := h103.small; omega)) rfl ?_; clear hE a; intro a hE
                      refine WL.vS hS hE (runs_plain rfl) (Gives.p hE rfl) rfl ?_; clear hE a; intro a hE
                      refine WL.nil ?_
                      subst hK122
                      exact ⟨rest108.length, Nat.lt_succ_self _, rest108, k106 + 1, x134, a136, c137, x134.length, cs138, rfl, hd109, hq104, h139, (rfl), hE.pick _ ⟨rfl, rfl, rfl, rfl, rfl, rfl, rfl, rfl, trivial⟩, hS⟩
              · clear hE hS a w; rintro a w ⟨q115, a116, c117, n119, cs120, rfl, h118, rfl, hE, hS⟩
                dsimp only at hq55
                refine W.region ?_
                refine WL.vS hS hE (runs_plain rfl) (Gives.inc hE rfl (by have := h0_0.small; omega)) rfl ?_; clear hE a; intro a hE
                refine WL.vS hS hE (runs_plain rfl) (Gives.p hE rfl) rfl ?_; clear hE a; intro a hE
                refine WL.nil ?_
                subst hK73
                exact ⟨rest59.length, Nat.lt_succ_self _, rest59, k57 + 1, q115, a116, c117, q115.length, cs120, rfl, hd60, hq55, h118, rfl, hE.pick _ ⟨rfl, rfl, rfl, rfl, rfl, trivial⟩, hS⟩
      · clear hE hS a w; rintro a w ⟨q66, a67, c68, n70, cs71, rfl, h69, rfl, hE, hS⟩
        dsimp only at hr
        refine W.seq ?_
        refine W.region ?_
        refine WL.vS hS hE (runs_plain rfl) (Gives.p hE rfl) rfl ?_; clear hE a; intro a hE
        refine WL.nil ?_
        refine W.ret ?_
        refine finG (fn := Try.f13) (rs := [.tmp 2]) (vs := [_]) hE rfl ⟨rfl, trivial⟩ ?_
        obtain rfl := Option.some.inj hr
        replace hS := hS.tail
        replace hS := hS.tail
        exact ⟨rfl, hS⟩
set_option maxHeartbeats 8000000 in
theorem FleetDo_ok  {w : World} {s : Sg} {R : List HP} {x0 : FleetDepot} {a0_0 : Option Addr} {c0_0 : Nat} {a0_1 : Option Addr} {c0_1 : Nat} {x1 : FleetMove} (hS : St w s (R)) (h0_0 : Sl 1 (RI .i64) s a0_0 c0_0 x0.Room) (h0_1 : Sl 1 (RL 1 (RI .i64)) s a0_1 c0_1 x0.Tracks) {r : FleetDepot × Int} (hr : FleetDo x0 x1 = some r) :
    Calls Try.prog 21 [.agg [.slice a0_0 x0.Room.length c0_0, .slice a0_1 x0.Tracks.length c0_1].toArray, .agg (FleetMove.cells x1).toArray].toArray w (fun e w => ∃ (cs0 : List Value) (t : Sg), e = .returned (.tuple #[.agg cs0.toArray, .int .i64 r.2]) ∧ s.Le t ∧ RFleetDepot t cs0 r.1 ∧ St w t (R)) := by
  refine enter Try.func21 rfl rfl rfl fun a hE => ?_
  rw [FleetDo] at hr
  refine W.seq ?_
  refine W.region ?_
  refine WL.box hE hS (runs_plain rfl) rfl rfl rfl ?_; clear hE hS a w; intro b51 a w hE hS
  refine WL.box hE hS (runs_plain rfl) rfl rfl rfl ?_; clear hE hS a w; intro b52 a w hE hS
  refine WL.alloc hE hS (runs_plain rfl) zr25 rfl ?_; clear hE hS a w; intro b53 a w hE hS
  refine WL.vS hS hE (runs_plain rfl) (Gives.p hE rfl) rfl ?_; clear hE a; intro a hE
  refine WL.nil ?_
  refine W.seq ?_
  refine W.seq ?_
  refine W.region ?_
  refine WL.vS hS hE (runs_plain rfl) (Gives.loadBA hE 2 rfl rfl ty25) rfl ?_; clear hE a; intro a hE
  obtain ⟨q54, hq55, hr⟩ := bindS hr
  refine WL.fn hE (FleetCheckDepot_ok hS h0_0 h0_1 hq55) (runs_plain rfl) bd15 rfl rfl ?_
  clear hE hS; rintro e w ⟨rfl, hS⟩; refine ⟨_, rfl, ?_⟩; clear a; intro a hE
  refine WL.vS hS hE (runs_plain rfl) (Gives.p hE rfl) rfl ?_; clear hE a; intro a hE
  refine WL.nil ?_
  refine W.seq ?_
  refine W.region ?_
  refine WL.vS hS hE (runs_plain rfl) (Gives.p hE rfl) rfl ?_; clear hE a; intro a hE
  refine WL.vS hS hE (runs_plain rfl) (Gives.p hE rfl) rfl ?_; clear hE a; intro a hE
  refine WL.nil ?_
  refine W.cond hE rfl (fun hc56 => ?_) (fun hc56 => ?_)
  · replace hr := iteT hc56 hr
    refine W.seq ?_
    refine W.region ?_
    refine WL.vS hS hE (runs_plain rfl) (Gives.build hE (vs := []) [.slice none 0 0, .slice none 0 0] rfl (by kernel_rfl)) rfl ?_; clear hE a; intro a hE
    refine WL.vS hS hE (runs_plain rfl) (Gives.p hE rfl) rfl ?_; clear hE a; intro a hE
    refine WL.storeI hE hS 0 rfl [.slice none 0 0, .slice none 0 0] (runs_plain rfl) rfl rfl rfl ty25 rfl rfl rfl rfl ?_; clear hE hS a w; intro a w hE hS
    refine WL.vS hS hE (runs_plain rfl) (Gives.p hE rfl) rfl ?_; clear hE a; intro a hE
    refine WL.nil ?_
    refine W.ret ?_
    refine finG (fn := Try.f21) (rs := [.cell 4 25, .tmp 5]) (vs := [_, _]) hE rfl ⟨⟨_, _, rfl, rfl, hS.seesAt 0 rfl, ty25⟩, rfl, trivial⟩ ?_
    obtain rfl := Option.some.inj hr
    replace hS := hS.tail
    replace hS := hS.tail
    replace hS := hS.tail
    exact ⟨_, s, rfl, (Sg.Le.refl _), ⟨_, _, _, _, rfl, Sl.nil, Sl.nil⟩, hS⟩
  · replace hr := iteF hc56 hr
    refine W.skip ?_
    refine W.seq ?_
    refine W.region ?_
    refine WL.vS hS hE (runs_plain rfl) (Gives.loadBA hE 2 rfl rfl ty25) rfl ?_; clear hE a; intro a hE
    refine WL.vS hS hE (runs_plain rfl) (Gives.loadBA hE 1 rfl rfl ty44) rfl ?_; clear hE a; intro a hE
    obtain ⟨q57, hq58, hr⟩ := bindS hr
    refine WL.fn hE (Fleetdo_ok hS h0_0 h0_1 hq58) (runs_plain rfl) bd56 rfl rfl ?_
    clear hE hS; rintro e w ⟨cs59, s61, rfl, hle62, h60, hS⟩; refine ⟨_, rfl, ?_⟩; clear a; intro a hE
    replace h0_0 := Sl.mono RI.mono hle62 h0_0
    replace h0_1 := Sl.mono (RL.mono RI.mono) hle62 h0_1
    obtain ⟨a63, c64, a66, c67, rfl, h65, h68⟩ := h60
    refine WL.vS hS hE (runs_plain rfl) (Gives.p hE rfl) rfl ?_; clear hE a; intro a hE
    refine WL.vS hS hE (runs_plain rfl) (Gives.p hE rfl) rfl ?_; clear hE a; intro a hE
    refine WL.vS hS hE (runs_plain rfl) (Gives.p hE rfl) rfl ?_; clear hE a; intro a hE
    refine WL.vS hS hE (runs_plain rfl) (Gives.p hE rfl) rfl ?_; clear hE a; intro a hE
    refine WL.alloc hE hS (runs_plain rfl) zr25 rfl ?_; clear hE hS a w; intro b69 a w hE hS
    refine WL.storeI hE hS 0 rfl [.slice a63 q57.1.Room.length c64, .slice a66 q57.1.Tracks.length c67] (runs_plain rfl) rfl rfl rfl ty25 rfl rfl rfl rfl ?_; clear hE hS a w; intro a w hE hS
    refine WL.vS hS hE (runs_plain rfl) (Gives.p hE rfl) rfl ?_; clear hE a; intro a hE
    refine WL.vS hS hE (runs_plain rfl) (Gives.p hE rfl) rfl ?_; clear hE a; intro a hE
    refine WL.nil ?_
    refine W.seq ?_
    refine W.region ?_
    refine WL.vS hS hE (runs_plain rfl) (Gives.loadBA hE 0 rfl rfl ty25) rfl ?_; clear hE a; intro a hE
    refine WL.vS hS hE (runs_plain rfl) (Gives.p hE rfl) rfl ?_; clear hE a; intro a hE
    refine WL.storeI hE hS 1 rfl [.slice a63 q57.1.Room.length c64, .slice a66 q57.1.Tracks.length c67] (runs_plain rfl) rfl rfl rfl ty25 rfl rfl rfl rfl ?_; clear hE hS a w; intro a w hE hS
    refine WL.vS hS hE (runs_plain rfl) (Gives.p hE rfl) rfl ?_; clear hE a; intro a hE
    refine WL.nil ?_
    refine W.ret ?_
    refine finG (fn := Try.f21) (rs := [.cell 4 25, .tmp 5]) (vs := [_, _]) hE rfl ⟨⟨_, _, rfl, rfl, hS.seesAt 1 rfl, ty25⟩, rfl, trivial⟩ ?_
    obtain rfl := Option.some.inj hr
    replace hS := hS.tail
    replace hS := hS.tail
    replace hS := hS.tail
    replace hS := hS.tail
    exact ⟨_, s61, rfl, hle62, ⟨_, _, _, _, rfl, h65, h68⟩, hS⟩
set_option maxHeartbeats 8000000 in
theorem FleetBehind_ok  {w : World} {s : Sg} {R : List HP} {x0 : FleetDepot} {a0_0 : Option Addr} {c0_0 : Nat} {a0_1 : Option Addr} {c0_1 : Nat} {x1 : Int} (hS : St w s (R)) (h0_0 : Sl 1 (RI .i64) s a0_0 c0_0 x0.Room) (h0_1 : Sl 1 (RL 1 (RI .i64)) s a0_1 c0_1 x0.Tracks) {r : Int × Int} (hr : FleetBehind x0 x1 = some r) :
    Calls Try.prog 12 [.agg [.slice a0_0 x0.Room.length c0_0, .slice a0_1 x0.Tracks.length c0_1].toArray, .int .i64 x1].toArray w (fun e w => e = .returned (.tuple #[.int .i64 r.1, .int .i64 r.2]) ∧ St w s (R)) := by
  refine enter Try.func12 rfl rfl rfl fun a hE => ?_
  rw [FleetBehind] at hr
  refine W.seq ?_
  refine W.region ?_
  refine WL.box hE hS (runs_plain rfl) rfl rfl rfl ?_; clear hE hS a w; intro b51 a w hE hS
  refine WL.vS hS hE (runs_plain rfl) (Gives.p hE rfl) rfl ?_; clear hE a; intro a hE
  refine WL.vS hS hE (runs_plain rfl) (Gives.p hE rfl) rfl ?_; clear hE a; intro a hE
  refine WL.nil ?_
  refine W.seq ?_
  refine W.seq ?_
  refine W.region ?_
  refine WL.vS hS hE (runs_plain rfl) (Gives.loadBA hE 0 rfl rfl ty25) rfl ?_; clear hE a; intro a hE
  obtain ⟨q52, hq53, hr⟩ := bindS hr
  refine WL.fn hE (FleetCheckDepot_ok hS h0_0 h0_1 hq53) (runs_plain rfl) bd15 rfl rfl ?_
  clear hE hS; rintro e w ⟨rfl, hS⟩; refine ⟨_, rfl, ?_⟩; clear a; intro a hE
  refine WL.vS hS hE (runs_plain rfl) (Gives.p hE rfl) rfl ?_; clear hE a; intro a hE
  refine WL.nil ?_
  refine W.seq ?_
  refine W.region ?_
  refine WL.vS hS hE (runs_plain rfl) (Gives.p hE rfl) rfl ?_; clear hE a; intro a hE
  refine WL.vS hS hE (runs_plain rfl) (Gives.p hE rfl) rfl ?_; clear hE a; intro a hE
  refine WL.nil ?_
  refine W.cond hE rfl (fun hc54 => ?_) (fun hc54 => ?_)
  · replace hr := iteT hc54 hr
    refine W.seq ?_
    refine W.region ?_
    refine WL.vS hS hE (runs_plain rfl) (Gives.p hE rfl) rfl ?_; clear hE a; intro a hE
    refine WL.vS hS hE (runs_plain rfl) (Gives.p hE rfl) rfl ?_; clear hE a; intro a hE
    refine WL.vS hS hE (runs_plain rfl) (Gives.p hE rfl) rfl ?_; clear hE a; intro a hE
    refine WL.nil ?_
    refine W.ret ?_
    refine finG (fn := Try.f12) (rs := [.tmp 4, .tmp 5]) (vs := [_, _]) hE rfl ⟨rfl, rfl, trivial⟩ ?_
    obtain rfl := Option.some.inj hr
    replace hS := hS.tail
    exact ⟨rfl, hS⟩
  · replace hr := iteF hc54 hr
    refine W.skip ?_
    refine W.seq ?_
    refine W.seq ?_
    refine W.region ?_
    refine WL.vS hS hE (runs_plain rfl) (Gives.fld hE rfl fl25_1) rfl ?_; clear hE a; intro a hE
    refine WL.vS hS hE (runs_plain rfl) (Gives.loadB hE 0 rfl rfl rfl ty23) rfl ?_; clear hE a; intro a hE
    refine WL.vS hS hE (runs_plain rfl) (Gives.len hE rfl sl23) rfl ?_; clear hE a; intro a hE
    refine WL.vS hS hE (runs_plain rfl) (Gives.p hE rfl) rfl ?_; clear hE a; intro a hE
    refine WL.nil ?_
    obtain ⟨q56, hq55, hr⟩ := bndS hr
    refine W.cut (fun a w => (.next ()) = q56 ∧ Rep a 33 [] ∧ St w s (pt b51 (.cells #[.slice a0_0 x0.Room.length c0_0, .slice a0_1 x0.Tracks.length c0_1] 25 (0, 0)) :: R)) ?_ ?_
    · refine W.block ?_
      refine W.loop (fun m a w => ∃ (rest59 : List (List Int)) (k57 : Nat), rest59.length = m ∧ x0.Tracks.drop k57 = rest59 ∧ FleetBehind.loop1 x1 rest59 = q56 ∧ Rep a 33 [(1, .int .i64 x1), (16, .slice a0_1 x0.Tracks.length c0_1), (17, .int .i64 ((x0.Tracks).length : Int)), (18, .int .i64 ((k57 : Nat) : Int))] ∧ St w s (pt b51 (.cells #[.slice a0_0 x0.Room.length c0_0, .slice a0_1 x0.Tracks.length c0_1] 25 (0, 0)) :: R)) (m := x0.Tracks.length) ⟨x0.Tracks, 0, rfl, rfl, hq55, hE.pick _ ⟨rfl, rfl, rfl, rfl, trivial⟩, hS⟩ ?_
      clear hE hS a w hq55; rintro m63 a w ⟨rest59, k57, rfl, hd60, hq55, hE, hS⟩
      refine W.gen fun K66 hK66 => ?_
      rcases rest59 with _ | ⟨x58, rest59⟩
      · have hlt61 := drop_nil hd60
        refine W.seq ?_
        refine W.region ?_
        refine WL.vS hS hE (runs_plain rfl) (Gives.p hE rfl) rfl ?_; clear hE a; intro a hE
        refine WL.nil ?_
        refine W.seq ?_
        refine W.condF hE rfl (decide_eq_false (by omega)) ?_
        subst hK66
        refine W.exit rfl ?_
        exact ⟨hq55, hE.pick _ trivial, hS⟩
      · obtain ⟨hlt61, hx62, hd60⟩ := drop_cons hd60
        rw [FleetBehind.loop1] at hq55
        refine W.seq ?_
        refine W.region ?_
        refine WL.vS hS hE (runs_plain rfl) (Gives.p hE rfl) rfl ?_; clear hE a; intro a hE
        refine WL.nil ?_
        refine W.seq ?_
        refine W.condT hE rfl (decide_eq_true (by omega)) ?_
        refine W.skip ?_
        refine W.seq ?_
        refine W.block ?_
        refine W.seq ?_
        refine W.region ?_
        obtain ⟨cs67, hl68, hR69, hat70⟩ := h0_1.at hx62
        obtain ⟨a71, c72, rfl, h73⟩ := hR69
        refine WL.vS hS hE (runs_plain rfl) (Gives.idx hE k57 rfl rfl sl23 rfl hlt61 (h0_1.aok hlt61)) rfl ?_; clear hE a; intro a hE
        refine WL.vS hS hE (runs_plain rfl) (Gives.load1 hE rfl (fun w h => hat70 w _ h) ty22) rfl ?_; clear hE a; intro a hE
        refine WL.vS hS hE (runs_plain rfl) (Gives.p hE rfl) rfl ?_; clear hE a; intro a hE
        refine WL.nil ?_
        refine W.seq ?_
        refine W.region ?_
        refine WL.vS hS hE (runs_plain rfl) (Gives.p hE rfl) rfl ?_; clear hE a; intro a hE
        refine WL.vS hS hE (runs_plain rfl) (Gives.p hE rfl) rfl ?_; clear hE a; intro a hE
        refine WL.fn hE (SlicesIndexLint_ok hS h73 rfl) (runs_plain rfl) bd16 rfl rfl ?_
        clear hE hS; rintro e w ⟨rfl, hS⟩; refine ⟨_, rfl, ?_⟩; clear a; intro a hE
        refine WL.vS hS hE (runs_plain rfl) (Gives.p hE rfl) rfl ?_; clear hE a; intro a hE
        refine WL.nil ?_
        refine W.seq ?_
        refine W.region ?_
        refine WL.vS hS hE (runs_plain rfl) (Gives.p hE rfl) rfl ?_; clear hE a; intro a hE
        refine WL.vS hS hE (runs_plain rfl) (Gives.p hE rfl) rfl ?_; clear hE a; intro a hE
        refine WL.nil ?_
        refine W.cond hE rfl (fun hc74 => ?_) (fun hc74 => ?_)
        · replace hq55 := iteT hc74 hq55
          refine W.seq ?_
          refine W.region ?_
          refine WL.vS hS hE (runs_plain rfl) (Gives.p hE rfl) rfl ?_; clear hE a; intro a hE
          refine WL.vS hS hE (runs_plain rfl) (Gives.len hE rfl sl22) rfl ?_; clear hE a; intro a hE
          refine WL.vS hS hE (runs_plain rfl) (Gives.p hE rfl) rfl ?_; clear hE a; intro a hE
          refine WL.vS hS hE (runs_plain rfl) (Gives.p hE rfl) rfl ?_; clear hE a; intro a hE
          refine WL.vS hS hE (runs_plain rfl) (Gives.p hE rfl) rfl ?_; clear hE a; intro a hE
          refine WL.vS hS hE (runs_plain rfl) (Gives.p hE rfl) rfl ?_; clear hE a; intro a hE
          refine WL.vS hS hE (runs_plain rfl) (Gives.p hE rfl) rfl ?_; clear hE a; intro a hE
          refine WL.nil ?_
          refine W.ret ?_
          subst hK66
          rw [← hq55] at hr
          dsimp only at hr
          refine finG (fn := Try.f12) (rs := [.tmp 4, .tmp 5]) (vs := [_, _]) hE rfl ⟨rfl, rfl, trivial⟩ ?_
          obtain rfl := Option.some.inj hr
          replace hS := hS.tail
          exact ⟨rfl, hS⟩
        · replace hq55 := iteF hc74 hq55
          refine W.skip ?_
          refine W.region ?_
          refine WL.vS hS hE (runs_plain rfl) (Gives.inc hE rfl (by have := h0_1.small; omega)) rfl ?_; clear hE a; intro a hE
          refine WL.vS hS hE (runs_plain rfl) (Gives.p hE rfl) rfl ?_; clear hE a; intro a hE
          refine WL.nil ?_
          subst hK66
          exact ⟨rest59.length, Nat.lt_succ_self _, rest59, k57 + 1, rfl, hd60, hq55, hE.pick _ ⟨rfl, rfl, rfl, rfl, trivial⟩, hS⟩
    · clear hE hS a w; rintro a w ⟨rfl, hE, hS⟩
      dsimp only at hr
      refine W.seq ?_
      refine W.region ?_
      refine WL.vS hS hE (runs_plain rfl) (Gives.p hE rfl) rfl ?_; clear hE a; intro a hE
      refine WL.vS hS hE (runs_plain rfl) (Gives.p hE rfl) rfl ?_; clear hE a; intro a hE
      refine WL.nil ?_
      refine W.ret ?_
      refine finG (fn := Try.f12) (rs := [.tmp 4, .tmp 5]) (vs := [_, _]) hE rfl ⟨rfl, rfl, trivial⟩ ?_
      obtain rfl := Option.some.inj hr
      replace hS := hS.tail
      exact ⟨rfl, hS⟩
set_option maxHeartbeats 8000000 in
theorem Fishlaw2yards_ok  {w : World} {s : Sg} {R : List HP}  (hS : St w s (R))  {r : Bool} (hr : Fishlaw2yards = some r) :
    Calls Try.prog 14 [].toArray w (fun e w => e = .returned (.bool r) ∧ St w s (R)) := by
  refine enter Try.func14 rfl rfl rfl fun a hE => ?_
  rw [Fishlaw2yards] at hr
  refine W.seq ?_
  refine W.region ?_
  refine WL.vS hS hE (runs_plain rfl) (Gives.p hE rfl) rfl ?_; clear hE a; intro a hE
  refine WL.nil ?_
  refine W.seq ?_
  refine W.region ?_
  refine WL.lit hE hS (e := 3) (es := 1) (vs := [(0, .int .i64 3), (1, .int .i64 1)]) (cs := [.int .i64 3, .int .i64 1]) (runs_plain rfl) rfl (by kernel_rfl) rfl ?_; clear hE hS a w; intro b51 a w hE hS
  replace hS := hS.ptVec (es := 1) (m := 2) rfl (by decide)
  have h53 : Ev 1 (RI .i64) s [.int .i64 3, .int .i64 1] [3, 1] := (Ev.cons (c1 := [.int .i64 3]) rfl rfl (Ev.cons (c1 := [.int .i64 1]) rfl rfl (Ev.nil)))
  have hF := hS.fixD RI.mono 0 rfl h53 (rfl); clear hS; obtain ⟨s54, hle55, hS, h56⟩ := hF
  refine WL.lit hE hS (e := 3) (es := 1) (vs := [(0, .int .i64 0), (1, .int .i64 1)]) (cs := [.int .i64 0, .int .i64 1]) (runs_plain rfl) rfl (by kernel_rfl) rfl ?_; clear hE hS a w; intro b57 a w hE hS
  replace hS := hS.ptVec (es := 1) (m := 2) rfl (by decide)
  have h59 : Ev 1 (RI .i64) s54 [.int .i64 0, .int .i64 1] [0, 1] := (Ev.cons (c1 := [.int .i64 0]) rfl rfl (Ev.cons (c1 := [.int .i64 1]) rfl rfl (Ev.nil)))
  have hF := hS.fixD RI.mono 0 rfl h59 (rfl); clear hS; obtain ⟨s60, hle61, hS, h62⟩ := hF
  replace h56 := Sl.mono RI.mono hle61 h56
  refine WL.lit hE hS (e := 3) (es := 1) (vs := []) (cs := []) (runs_plain rfl) rfl (by kernel_rfl) rfl ?_; clear hE hS a w; intro b63 a w hE hS
  replace hS := hS.ptVec (es := 1) (m := 0) rfl (by decide)
  have h65 : Ev 1 (RI .i64) s60 [] [] := (Ev.nil)
  have hF := hS.fixD RI.mono 0 rfl h65 (rfl); clear hS; obtain ⟨s66, hle67, hS, h68⟩ := hF
  replace h56 := Sl.mono RI.mono hle67 h56
  replace h62 := Sl.mono RI.mono hle67 h62
  refine WL.lit hE hS (e := 22) (es := 1) (vs := [(0, .slice (some ⟨b57, 0, none⟩) 2 2), (1, .slice (some ⟨b63, 0, none⟩) 0 0)]) (cs := [.slice (some ⟨b57, 0, none⟩) 2 2, .slice (some ⟨b63, 0, none⟩) 0 0]) (runs_plain rfl) rfl (by kernel_rfl) rfl ?_; clear hE hS a w; intro b69 a w hE hS
  replace hS := hS.ptVec (es := 1) (m := 2) rfl (by decide)
  have h71 : Ev 1 (RL 1 (RI .i64)) s66 [.slice (some ⟨b57, 0, none⟩) 2 2, .slice (some ⟨b63, 0, none⟩) 0 0] [[0, 1], []] := (Ev.cons (c1 := [.slice (some ⟨b57, 0, none⟩) 2 2]) ⟨_, _, rfl, h62⟩ rfl (Ev.cons (c1 := [.slice (some ⟨b63, 0, none⟩) 0 0]) ⟨_, _, rfl, h68⟩ rfl (Ev.nil)))
  have hF := hS.fixD (RL.mono RI.mono) 0 rfl h71 (rfl); clear hS; obtain ⟨s72, hle73, hS, h74⟩ := hF
  replace h56 := Sl.mono RI.mono hle73 h56
  replace h62 := Sl.mono RI.mono hle73 h62
  replace h68 := Sl.mono RI.mono hle73 h68
  refine WL.vS hS hE (runs_plain rfl) (Gives.build hE (vs := [(0, .slice (some ⟨b51, 0, none⟩) 2 2), (1, .slice (some ⟨b69, 0, none⟩) 2 2)]) [.slice (some ⟨b51, 0, none⟩) 2 2, .slice (some ⟨b69, 0, none⟩) 2 2] rfl (by kernel_rfl)) rfl ?_; clear hE a; intro a hE
  refine WL.alloc hE hS (runs_plain rfl) zr25 rfl ?_; clear hE hS a w; intro b75 a w hE hS
  refine WL.storeI hE hS 0 rfl [.slice (some ⟨b51, 0, none⟩) 2 2, .slice (some ⟨b69, 0, none⟩) 2 2] (runs_plain rfl) rfl rfl rfl ty25 rfl rfl rfl rfl ?_; clear hE hS a w; intro a w hE hS
  refine WL.nil ?_
  refine W.seq ?_
  refine W.region ?_
  refine WL.vS hS hE (runs_plain rfl) (Gives.loadBA hE 0 rfl rfl ty25) rfl ?_; clear hE a; intro a hE
  obtain ⟨q76, hq77, hr⟩ := bindS hr
  refine WL.fn hE (FleetBehind_ok hS h56 h74 hq77) (runs_plain rfl) bd12 rfl rfl ?_
  clear hE hS; rintro e w ⟨rfl, hS⟩; refine ⟨_, rfl, ?_⟩; clear a; intro a hE
  refine WL.vS hS hE (runs_plain rfl) (Gives.p hE rfl) rfl ?_; clear hE a; intro a hE
  refine WL.vS hS hE (runs_plain rfl) (Gives.p hE rfl) rfl ?_; clear hE a; intro a hE
  refine WL.vS hS hE (runs_plain rfl) (Gives.p hE rfl) rfl ?_; clear hE a; intro a hE
  refine WL.vS hS hE (runs_plain rfl) (Gives.p hE rfl) rfl ?_; clear hE a; intro a hE
  refine WL.vS hS hE (runs_plain rfl) (Gives.p hE rfl) rfl ?_; clear hE a; intro a hE
  refine WL.nil ?_
  refine W.seq ?_
  obtain ⟨q79, hq78, hr⟩ := bndS hr
  refine W.cut (fun a w => ∃ (q82 : Bool), q82 = q79 ∧ Rep a 20 [(0, .bool q82)] ∧ St w s72 (pt b75 (.cells #[.slice (some ⟨b51, 0, none⟩) 2 2, .slice (some ⟨b69, 0, none⟩) 2 2] 25 (0, 0)) :: R)) ?_ ?_
  · refine W.gen fun K83 hK83 => ?_
    refine W.region ?_
    refine WL.vS hS hE (runs_plain rfl) (Gives.p hE rfl) rfl ?_; clear hE a; intro a hE
    refine WL.vS hS hE (runs_plain rfl) (Gives.p hE rfl) rfl ?_; clear hE a; intro a hE
    refine WL.vS hS hE (runs_plain rfl) (Gives.p hE rfl) rfl ?_; clear hE a; intro a hE
    rcases Bool.eq_false_or_eq_true (q76.2 == 0) with hg84 | hg84
    · replace hq78 := iteT hg84 hq78
      refine WL.vS hS hE (runs_if hE rfl rfl rfl hg84) (Gives.p hE rfl) rfl ?_; clear hE a; intro a hE
      refine WL.vS hS hE (runs_if hE rfl rfl rfl hg84) (Gives.p hE rfl) rfl ?_; clear hE a; intro a hE
      refine WL.vS hS hE (runs_plain rfl) (Gives.pickT hE rfl hg84 rfl) rfl ?_; clear hE a; intro a hE
      refine WL.vS hS hE (runs_plain rfl) (Gives.p hE rfl) rfl ?_; clear hE a; intro a hE
      refine WL.nil ?_
      subst hK83
      exact ⟨(q76.1 == 1), hq78, hE.pick _ ⟨rfl, trivial⟩, hS⟩
    · replace hq78 := iteF hg84 hq78
      refine WL.no hE (runs_not hE rfl rfl rfl (by rw [hg84]; decide)) rfl ?_; clear hE a; intro a hE
      refine WL.no hE (runs_not hE rfl rfl rfl (by rw [hg84]; decide)) rfl ?_; clear hE a; intro a hE
      refine WL.vS hS hE (runs_plain rfl) (Gives.pickF hE rfl hg84 rfl) rfl ?_; clear hE a; intro a hE
      refine WL.vS hS hE (runs_plain rfl) (Gives.p hE rfl) rfl ?_; clear hE a; intro a hE
      refine WL.nil ?_
      subst hK83
      exact ⟨false, hq78, hE.pick _ ⟨rfl, trivial⟩, hS⟩
  · clear hE hS a w; rintro a w ⟨q82, rfl, hE, hS⟩
    refine W.ret ?_
    refine finG (fn := Try.f14) (rs := [.tmp 0]) (vs := [_]) hE rfl ⟨rfl, trivial⟩ ?_
    obtain rfl := Option.some.inj hr
    replace hS := hS.tail
    exact ⟨rfl, (hS.down (Sg.Le.trans (Sg.Le.trans (Sg.Le.trans hle55 hle61) hle67) hle73))⟩
set_option maxHeartbeats 8000000 in
theorem SlicesEqualLint_ok  {w : World} {s : Sg} {R : List HP} {x0 : List Int} {a0 : Option Addr} {c0 : Nat} {x1 : List Int} {a1 : Option Addr} {c1 : Nat} (hS : St w s (R)) (h0 : Sl 1 (RI .i64) s a0 c0 x0) (h1 : Sl 1 (RI .i64) s a1 c1 x1) {r : Bool} (hr : SlicesEqualLint x0 x1 = some r) :
    Calls Try.prog 24 [.slice a0 x0.length c0, .slice a1 x1.length c1].toArray w (fun e w => e = .returned (.bool r) ∧ St w s (R)) := by
  refine enter Try.func24 rfl rfl rfl fun a hE => ?_
  rw [SlicesEqualLint] at hr
  refine W.seq ?_
  refine W.region ?_
  refine WL.vS hS hE (runs_plain rfl) (Gives.p hE rfl) rfl ?_; clear hE a; intro a hE
  refine WL.nil ?_
  refine W.seq ?_
  refine W.seq ?_
  refine W.region ?_
  refine WL.vS hS hE (runs_plain rfl) (Gives.p hE rfl) rfl ?_; clear hE a; intro a hE
  refine WL.vS hS hE (runs_plain rfl) (Gives.len hE rfl sl22) rfl ?_; clear hE a; intro a hE
  refine WL.vS hS hE (runs_plain rfl) (Gives.p hE rfl) rfl ?_; clear hE a; intro a hE
  refine WL.vS hS hE (runs_plain rfl) (Gives.len hE rfl sl22) rfl ?_; clear hE a; intro a hE
  refine WL.vS hS hE (runs_plain rfl) (Gives.p hE rfl) rfl ?_; clear hE a; intro a hE
  refine WL.nil ?_
  refine W.cond hE rfl (fun hc51 => ?_) (fun hc51 => ?_)
  · replace hr := iteT hc51 hr
    refine W.seq ?_
    refine W.region ?_
    refine WL.vS hS hE (runs_plain rfl) (Gives.p hE rfl) rfl ?_; clear hE a; intro a hE
    refine WL.nil ?_
    refine W.ret ?_
    refine finG (fn := Try.f24) (rs := [.tmp 4]) (vs := [_]) hE rfl ⟨rfl, trivial⟩ ?_
    obtain rfl := Option.some.inj hr
    exact ⟨rfl, hS⟩
  · replace hr := iteF hc51 hr
    refine W.skip ?_
    refine W.seq ?_
    refine W.seq ?_
    refine W.region ?_
    refine WL.vS hS hE (runs_plain rfl) (Gives.p hE rfl) rfl ?_; clear hE a; intro a hE
    refine WL.vS hS hE (runs_plain rfl) (Gives.len hE rfl sl22) rfl ?_; clear hE a; intro a hE
    refine WL.vS hS hE (runs_plain rfl) (Gives.p hE rfl) rfl ?_; clear hE a; intro a hE
    refine WL.nil ?_
    obtain ⟨q53, hq52, hr⟩ := bindS hr
    refine W.cut (fun a w => (.next ()) = q53 ∧ Rep a 26 [] ∧ St w s (R)) ?_ ?_
    · refine W.block ?_
      refine W.loop (fun m a w => ∃ (rest56 : List Int) (k54 : Nat), rest56.length = m ∧ x0.drop k54 = rest56 ∧ SlicesEqualLint.loop1 x1 rest56 k54 = some q53 ∧ Rep a 26 [(0, .slice a0 x0.length c0), (1, .slice a1 x1.length c1), (12, .int .i64 ((x0).length : Int)), (13, .int .i64 ((k54 : Nat) : Int))] ∧ St w s (R)) (m := x0.length) ⟨x0, 0, rfl, rfl, hq52, hE.pick _ ⟨rfl, rfl, rfl, rfl, trivial⟩, hS⟩ ?_
      clear hE hS a w hq52; rintro m60 a w ⟨rest56, k54, rfl, hd57, hq52, hE, hS⟩
      refine W.gen fun K63 hK63 => ?_
      rcases rest56 with _ | ⟨x55, rest56⟩
      · have hlt58 := drop_nil hd57
        refine W.seq ?_
        refine W.region ?_
        refine WL.vS hS hE (runs_plain rfl) (Gives.p hE rfl) rfl ?_; clear hE a; intro a hE
        refine WL.nil ?_
        refine W.seq ?_
        refine W.condF hE rfl (decide_eq_false (by omega)) ?_
        subst hK63
        refine W.exit rfl ?_
        exact ⟨Option.some.inj hq52, hE.pick _ trivial, hS⟩
      · obtain ⟨hlt58, hx59, hd57⟩ := drop_cons hd57
        rw [SlicesEqualLint.loop1] at hq52
        refine W.seq ?_
        refine W.region ?_
        refine WL.vS hS hE (runs_plain rfl) (Gives.p hE rfl) rfl ?_; clear hE a; intro a hE
        refine WL.nil ?_
        refine W.seq ?_
        refine W.condT hE rfl (decide_eq_true (by omega)) ?_
        refine W.skip ?_
        refine W.seq ?_
        refine W.block ?_
        refine W.seq ?_
        refine W.region ?_
        refine WL.vS hS hE (runs_plain rfl) (Gives.p hE rfl) rfl ?_; clear hE a; intro a hE
        refine WL.vS hS hE (runs_plain rfl) (Gives.p hE rfl) rfl ?_; clear hE a; intro a hE
        refine WL.nil ?_
        refine W.seq ?_
        refine W.regionQ (C := fun w => St w s (R)) mixed (by kernel_rfl) hS.drew ?_
        refine QL.v hE (runs_plain rfl) (Gives.p hE rfl) rfl ?_; clear hE a; intro a hE
        refine QL.v hE (runs_plain rfl) (Gives.p hE rfl) rfl ?_; clear hE a; intro a hE
        obtain ⟨cs64, hl65, hR66, hat67⟩ := h0.at hx59
        subst hR66
        refine QL.v hE (runs_plain rfl) (Gives.idx hE k54 rfl rfl sl22 rfl hlt58 (h0.aok hlt58)) rfl ?_; clear hE a; intro a hE
        refine QL.v hE (runs_plain rfl) (Gives.load1 hE rfl (fun w h => hat67 w _ h) ty3) rfl ?_; clear hE a; intro a hE
        refine QL.v hE (runs_plain rfl) (Gives.p hE rfl) rfl ?_; clear hE a; intro a hE
        refine QL.v hE (runs_plain rfl) (Gives.p hE rfl) rfl ?_; clear hE a; intro a hE
        obtain ⟨x68, hx69, hq52⟩ := bindS hq52
        obtain ⟨hi70, hlt71, hy72⟩ := gx_some hx69
        obtain ⟨cs73, hl74, hR75, hat76⟩ := h1.at hy72
        subst hR75
        refine QL.v hE (runs_plain rfl) (Gives.idx hE (((k54 : Nat) : Int)).toNat rfl rfl sl22 hi70 hlt71 (h1.aok hlt71)) rfl ?_; clear hE a; intro a hE
        refine QL.v hE (runs_plain rfl) (Gives.load1 hE rfl (fun w h => hat76 w _ h) ty3) rfl ?_; clear hE a; intro a hE
        refine QL.v hE (runs_plain rfl) (Gives.p hE rfl) rfl ?_; clear hE a; intro a hE
        refine QL.nil ?_; clear hS w; intro w hS
        refine W.cond hE rfl (fun hc77 => ?_) (fun hc77 => ?_)
        · replace hq52 := iteT hc77 hq52
          refine W.seq ?_
          refine W.region ?_
          refine WL.vS hS hE (runs_plain rfl) (Gives.p hE rfl) rfl ?_; clear hE a; intro a hE
          refine WL.nil ?_
          refine W.ret ?_
          subst hK63
          rw [← Option.some.inj hq52] at hr
          dsimp only at hr
          refine finG (fn := Try.f24) (rs := [.tmp 4]) (vs := [_]) hE rfl ⟨rfl, trivial⟩ ?_
          obtain rfl := Option.some.inj hr
          exact ⟨rfl, hS⟩
        · replace hq52 := iteF hc77 hq52
          refine W.skip ?_
          refine W.region ?_
          refine WL.vS hS hE (runs_plain rfl) (Gives.inc hE rfl (by have := h0.small; omega)) rfl ?_; clear hE a; intro a hE
          refine WL.vS hS hE (runs_plain rfl) (Gives.p hE rfl) rfl ?_; clear hE a; intro a hE
          refine WL.nil ?_
          subst hK63
          exact ⟨rest56.length, Nat.lt_succ_self _, rest56, k54 + 1, rfl, hd57, hq52, hE.pick _ ⟨rfl, rfl, rfl, rfl, trivial⟩, hS⟩
    · clear hE hS a w; rintro a w ⟨rfl, hE, hS⟩
      dsimp only at hr
      refine W.seq ?_
      refine W.region ?_
      refine WL.vS hS hE (runs_plain rfl) (Gives.p hE rfl) rfl ?_; clear hE a; intro a hE
      refine WL.nil ?_
      refine W.ret ?_
      refine finG (fn := Try.f24) (rs := [.tmp 4]) (vs := [_]) hE rfl ⟨rfl, trivial⟩ ?_
      obtain rfl := Option.some.inj hr
      exact ⟨rfl, hS⟩
set_option maxHeartbeats 8000000 in
theorem SlicesEqualFuncLLint_v1_ok  {w : World} {s : Sg} {R : List HP} {x0 : List (List Int)} {a0 : Option Addr} {c0 : Nat} {x1 : List (List Int)} {a1 : Option Addr} {c1 : Nat} (hS : St w s (R)) (h0 : Sl 1 (RL 1 (RI .i64)) s a0 c0 x0) (h1 : Sl 1 (RL 1 (RI .i64)) s a1 c1 x1) {r : Bool} (hr : SlicesEqualFuncLLint_v1 x0 x1 = some r) :
    Calls Try.prog 57 [.slice a0 x0.length c0, .slice a1 x1.length c1, .func (.func 24) #[] #[]].toArray w (fun e w => e = .returned (.bool r) ∧ St w s (R)) := by
  refine enter Try.func57 rfl rfl rfl fun a hE => ?_
  rw [SlicesEqualFuncLLint_v1] at hr
  refine W.seq ?_
  refine W.region ?_
  refine WL.vS hS hE (runs_plain rfl) (Gives.p hE rfl) rfl ?_; clear hE a; intro a hE
  refine WL.nil ?_
  refine W.seq ?_
  refine W.seq ?_
  refine W.region ?_
  refine WL.vS hS hE (runs_plain rfl) (Gives.p hE rfl) rfl ?_; clear hE a; intro a hE
  refine WL.vS hS hE (runs_plain rfl) (Gives.len hE rfl sl23) rfl ?_; clear hE a; intro a hE
  refine WL.vS hS hE (runs_plain rfl) (Gives.p hE rfl) rfl ?_; clear hE a; intro a hE
  refine WL.vS hS hE (runs_plain rfl) (Gives.len hE rfl sl23) rfl ?_; clear hE a; intro a hE
  refine WL.vS hS hE (runs_plain rfl) (Gives.p hE rfl) rfl ?_; clear hE a; intro a hE
  refine WL.nil ?_
  refine W.cond hE rfl (fun hc51 => ?_) (fun hc51 => ?_)
  · replace hr := iteT hc51 hr
    refine W.seq ?_
    refine W.region ?_
    refine WL.vS hS hE (runs_plain rfl) (Gives.p hE rfl) rfl ?_; clear hE a; intro a hE
    refine WL.nil ?_
    refine W.ret ?_
    refine finG (fn := Try.f57) (rs := [.tmp 6]) (vs := [_]) hE rfl ⟨rfl, trivial⟩ ?_
    obtain rfl := Option.some.inj hr
    exact ⟨rfl, hS⟩
  · replace hr := iteF hc51 hr
    refine W.skip ?_
    refine W.seq ?_
    refine W.seq ?_
    refine W.region ?_
    refine WL.vS hS hE (runs_plain rfl) (Gives.p hE rfl) rfl ?_; clear hE a; intro a hE
    refine WL.vS hS hE (runs_plain rfl) (Gives.len hE rfl sl23) rfl ?_; clear hE a; intro a hE
    refine WL.vS hS hE (runs_plain rfl) (Gives.p hE rfl) rfl ?_; clear hE a; intro a hE
    refine WL.nil ?_
    obtain ⟨q53, hq52, hr⟩ := bindS hr
    refine W.cut (fun a w => (.next ()) = q53 ∧ Rep a 32 [] ∧ St w s (R)) ?_ ?_
    · refine W.block ?_
      refine W.loop (fun m a w => ∃ (rest56 : List (List Int)) (k54 : Nat), rest56.length = m ∧ x0.drop k54 = rest56 ∧ SlicesEqualFuncLLint_v1.loop1 x1 rest56 k54 = some q53 ∧ Rep a 32 [(1, .slice a1 x1.length c1), (2, .func (.func 24) #[] #[]), (15, .slice a0 x0.length c0), (16, .int .i64 ((x0).length : Int)), (17, .int .i64 ((k54 : Nat) : Int))] ∧ St w s (R)) (m := x0.length) ⟨x0, 0, rfl, rfl, hq52, hE.pick _ ⟨rfl, rfl, rfl, rfl, rfl, trivial⟩, hS⟩ ?_
      clear hE hS a w hq52; rintro m60 a w ⟨rest56, k54, rfl, hd57, hq52, hE, hS⟩
      refine W.gen fun K63 hK63 => ?_
      rcases rest56 with _ | ⟨x55, rest56⟩
      · have hlt58 := drop_nil hd57
        refine W.seq ?_
        refine W.region ?_
        refine WL.vS hS hE (runs_plain rfl) (Gives.p hE rfl) rfl ?_; clear hE a; intro a hE
        refine WL.nil ?_
        refine W.seq ?_
        refine W.condF hE rfl (decide_eq_false (by omega)) ?_
        subst hK63
        refine W.exit rfl ?_
        exact ⟨Option.some.inj hq52, hE.pick _ trivial, hS⟩
      · obtain ⟨hlt58, hx59, hd57⟩ := drop_cons hd57
        rw [SlicesEqualFuncLLint_v1.loop1] at hq52
        refine W.seq ?_
        refine W.region ?_
        refine WL.vS hS hE (runs_plain rfl) (Gives.p hE rfl) rfl ?_; clear hE a; intro a hE
        refine WL.nil ?_
        refine W.seq ?_
        refine W.condT hE rfl (decide_eq_true (by omega)) ?_
        refine W.skip ?_
        refine W.seq ?_
        refine W.block ?_
        refine W.seq ?_
        refine W.region ?_
        refine WL.vS hS hE (runs_plain rfl) (Gives.p hE rfl) rfl ?_; clear hE a; intro a hE
        obtain ⟨cs64, hl65, hR66, hat67⟩ := h0.at hx59
        obtain ⟨a68, c69, rfl, h70⟩ := hR66
        refine WL.vS hS hE (runs_plain rfl) (Gives.idx hE k54 rfl rfl sl23 rfl hlt58 (h0.aok hlt58)) rfl ?_; clear hE a; intro a hE
        refine WL.vS hS hE (runs_plain rfl) (Gives.load1 hE rfl (fun w h => hat67 w _ h) ty22) rfl ?_; clear hE a; intro a hE
        refine WL.vS hS hE (runs_plain rfl) (Gives.p hE rfl) rfl ?_; clear hE a; intro a hE
        refine WL.vS hS hE (runs_plain rfl) (Gives.p hE rfl) rfl ?_; clear hE a; intro a hE
        refine WL.nil ?_
        refine W.seq ?_
        refine W.region ?_
        refine WL.vS hS hE (runs_plain rfl) (Gives.p hE rfl) rfl ?_; clear hE a; intro a hE
        refine WL.vS hS hE (runs_plain rfl) (Gives.p hE rfl) rfl ?_; clear hE a; intro a hE
        obtain ⟨x71, hx72, hq52⟩ := bindS hq52
        obtain ⟨hi73, hlt74, hy75⟩ := gx_some hx72
        obtain ⟨cs76, hl77, hR78, hat79⟩ := h1.at hy75
        obtain ⟨a80, c81, rfl, h82⟩ := hR78
        refine WL.vS hS hE (runs_plain rfl) (Gives.idx hE (((k54 : Nat) : Int)).toNat rfl rfl sl23 hi73 hlt74 (h1.aok hlt74)) rfl ?_; clear hE a; intro a hE
        refine WL.vS hS hE (runs_plain rfl) (Gives.load1 hE rfl (fun w h => hat79 w _ h) ty22) rfl ?_; clear hE a; intro a hE
        refine WL.vS hS hE (runs_plain rfl) (Gives.p hE rfl) rfl ?_; clear hE a; intro a hE
        refine WL.nil ?_
        refine W.seq ?_
        refine W.region ?_
        refine WL.vS hS hE (runs_plain rfl) (Gives.p hE rfl) rfl ?_; clear hE a; intro a hE
        refine WL.vS hS hE (runs_plain rfl) (Gives.p hE rfl) rfl ?_; clear hE a; intro a hE
        refine WL.vS hS hE (runs_plain rfl) (Gives.p hE rfl) rfl ?_; clear hE a; intro a hE
        obtain ⟨q83, hq84, hq52⟩ := bindS hq52
        refine WL.fnv hE (vs := [.slice a68 x55.length c69, .slice a80 x71.length c81]) (cs := []) rfl (SlicesEqualLint_ok hS h70 h82 hq84) (runs_plain rfl) bd24 rfl rfl ?_
        clear hE hS; rintro e w ⟨rfl, hS⟩; refine ⟨_, rfl, ?_⟩; clear a; intro a hE
        refine WL.vS hS hE (runs_plain rfl) (Gives.p hE rfl) rfl ?_; clear hE a; intro a hE
        refine WL.nil ?_
        refine W.cond hE rfl (fun hc85 => ?_) (fun hc85 => ?_)
        · replace hq52 := iteT hc85 hq52
          refine W.seq ?_
          refine W.region ?_
          refine WL.vS hS hE (runs_plain rfl) (Gives.p hE rfl) rfl ?_; clear hE a; intro a hE
          refine WL.nil ?_
          refine W.ret ?_
          subst hK63
          rw [← Option.some.inj hq52] at hr
          dsimp only at hr
          refine finG (fn := Try.f57) (rs := [.tmp 6]) (vs := [_]) hE rfl ⟨rfl, trivial⟩ ?_
          obtain rfl := Option.some.inj hr
          exact ⟨rfl, hS⟩
        · replace hq52 := iteF hc85 hq52
          refine W.skip ?_
          refine W.region ?_
          refine WL.vS hS hE (runs_plain rfl) (Gives.inc hE rfl (by have := h0.small; omega)) rfl ?_; clear hE a; intro a hE
          refine WL.vS hS hE (runs_plain rfl) (Gives.p hE rfl) rfl ?_; clear hE a; intro a hE
          refine WL.nil ?_
          subst hK63
          exact ⟨rest56.length, Nat.lt_succ_self _, rest56, k54 + 1, rfl, hd57, hq52, hE.pick _ ⟨rfl, rfl, rfl, rfl, rfl, trivial⟩, hS⟩
    · clear hE hS a w; rintro a w ⟨rfl, hE, hS⟩
      dsimp only at hr
      refine W.seq ?_
      refine W.region ?_
      refine WL.vS hS hE (runs_plain rfl) (Gives.p hE rfl) rfl ?_; clear hE a; intro a hE
      refine WL.nil ?_
      refine W.ret ?_
      refine finG (fn := Try.f57) (rs := [.tmp 6]) (vs := [_]) hE rfl ⟨rfl, trivial⟩ ?_
      obtain rfl := Option.some.inj hr
      exact ⟨rfl, hS⟩
set_option maxHeartbeats 8000000 in
theorem Fishref2SameDepot_ok  {w : World} {s : Sg} {R : List HP} {x0 : FleetDepot} {a0_0 : Option Addr} {c0_0 : Nat} {a0_1 : Option Addr} {c0_1 : Nat} {x1 : FleetDepot} {a1_0 : Option Addr} {c1_0 : Nat} {a1_1 : Option Addr} {c1_1 : Nat} (hS : St w s (R)) (h0_0 : Sl 1 (RI .i64) s a0_0 c0_0 x0.Room) (h0_1 : Sl 1 (RL 1 (RI .i64)) s a0_1 c0_1 x0.Tracks) (h1_0 : Sl 1 (RI .i64) s a1_0 c1_0 x1.Room) (h1_1 : Sl 1 (RL 1 (RI .i64)) s a1_1 c1_1 x1.Tracks) {r : Bool} (hr : Fishref2SameDepot x0 x1 = some r) :
    Calls Try.prog 22 [.agg [.slice a0_0 x0.Room.length c0_0, .slice a0_1 x0.Tracks.length c0_1].toArray, .agg [.slice a1_0 x1.Room.length c1_0, .slice a1_1 x1.Tracks.length c1_1].toArray].toArray w (fun e w => e = .returned (.bool r) ∧ St w s (R)) := by
  refine enter Try.func22 rfl rfl rfl fun a hE => ?_
  rw [Fishref2SameDepot] at hr
  refine W.seq ?_
  refine W.region ?_
  refine WL.box hE hS (runs_plain rfl) rfl rfl rfl ?_; clear hE hS a w; intro b51 a w hE hS
  refine WL.box hE hS (runs_plain rfl) rfl rfl rfl ?_; clear hE hS a w; intro b52 a w hE hS
  refine WL.vS hS hE (runs_plain rfl) (Gives.p hE rfl) rfl ?_; clear hE a; intro a hE
  refine WL.nil ?_
  refine W.seq ?_
  obtain ⟨q54, hq53, hr⟩ := bindS hr
  refine W.cut (fun a w => ∃ (q57 : Bool), q57 = q54 ∧ Rep a 17 [(4, .bool q57)] ∧ St w s (pt b52 (.cells #[.slice a1_0 x1.Room.length c1_0, .slice a1_1 x1.Tracks.length c1_1] 25 (0, 0)) :: pt b51 (.cells #[.slice a0_0 x0.Room.length c0_0, .slice a0_1 x0.Tracks.length c0_1] 25 (0, 0)) :: R)) ?_ ?_
  · refine W.gen fun K58 hK58 => ?_
    refine W.region ?_
    refine WL.vS hS hE (runs_plain rfl) (Gives.fld hE rfl fl25_0) rfl ?_; clear hE a; intro a hE
    refine WL.vS hS hE (runs_plain rfl) (Gives.loadB hE 1 rfl rfl rfl ty22) rfl ?_; clear hE a; intro a hE
    refine WL.vS hS hE (runs_plain rfl) (Gives.fld hE rfl fl25_0) rfl ?_; clear hE a; intro a hE
    refine WL.vS hS hE (runs_plain rfl) (Gives.loadB hE 0 rfl rfl rfl ty22) rfl ?_; clear hE a; intro a hE
    obtain ⟨q59, hq60, hq53⟩ := bindS hq53
    refine WL.fn hE (SlicesEqualLint_ok hS h0_0 h1_0 hq60) (runs_plain rfl) bd24 rfl rfl ?_
    clear hE hS; rintro e w ⟨rfl, hS⟩; refine ⟨_, rfl, ?_⟩; clear a; intro a hE
    refine WL.vS hS hE (runs_plain rfl) (Gives.p hE rfl) rfl ?_; clear hE a; intro a hE
    rcases Bool.eq_false_or_eq_true q59 with hg61 | hg61
    · replace hq53 := iteT hg61 hq53
      refine WL.vS hS hE (runs_if hE rfl rfl rfl hg61) (Gives.fld hE rfl fl25_1) rfl ?_; clear hE a; intro a hE
      refine WL.vS hS hE (runs_if hE rfl rfl rfl hg61) (Gives.loadB hE 1 rfl rfl rfl ty23) rfl ?_; clear hE a; intro a hE
      refine WL.vS hS hE (runs_if hE rfl rfl rfl hg61) (Gives.fld hE rfl fl25_1) rfl ?_; clear hE a; intro a hE
      refine WL.vS hS hE (runs_if hE rfl rfl rfl hg61) (Gives.loadB hE 0 rfl rfl rfl ty23) rfl ?_; clear hE a; intro a hE
      obtain ⟨q62, hq63, hq53⟩ := bindS hq53
      refine WL.fn hE (SlicesEqualFuncLLint_v1_ok hS h0_1 h1_1 hq63) (runs_if hE rfl rfl rfl hg61) bd57 rfl rfl ?_
      clear hE hS; rintro e w ⟨rfl, hS⟩; refine ⟨_, rfl, ?_⟩; clear a; intro a hE
      refine WL.vS hS hE (runs_plain rfl) (Gives.pickT hE rfl hg61 rfl) rfl ?_; clear hE a; intro a hE
      refine WL.vS hS hE (runs_plain rfl) (Gives.p hE rfl) rfl ?_; clear hE a; intro a hE
      refine WL.nil ?_
      subst hK58
      exact ⟨q62, Option.some.inj hq53, hE.pick _ ⟨rfl, trivial⟩, hS⟩
    · replace hq53 := iteF hg61 hq53
      refine WL.no hE (runs_not hE rfl rfl rfl (by rw [hg61]; decide)) rfl ?_; clear hE a; intro a hE
      refine WL.no hE (runs_not hE rfl rfl rfl (by rw [hg61]; decide)) rfl ?_; clear hE a; intro a hE
      refine WL.no hE (runs_not hE rfl rfl rfl (by rw [hg61]; decide)) rfl ?_; clear hE a; intro a hE
      refine WL.no hE (runs_not hE rfl rfl rfl (by rw [hg61]; decide)) rfl ?_; clear hE a; intro a hE
      refine WL.no hE (runs_not hE rfl rfl rfl (by rw [hg61]; decide)) rfl ?_; clear hE a; intro a hE
      refine WL.vS hS hE (runs_plain rfl) (Gives.pickF hE rfl hg61 rfl) rfl ?_; clear hE a; intro a hE
      refine WL.vS hS hE (runs_plain rfl) (Gives.p hE rfl) rfl ?_; clear hE a; intro a hE
      refine WL.nil ?_
      subst hK58
      exact ⟨false, Option.some.inj hq53, hE.pick _ ⟨rfl, trivial⟩, hS⟩
  · clear hE hS a w; rintro a w ⟨q57, rfl, hE, hS⟩
    refine W.ret ?_
    refine finG (fn := Try.f22) (rs := [.tmp 4]) (vs := [_]) hE rfl ⟨rfl, trivial⟩ ?_
    obtain rfl := Option.some.inj hr
    replace hS := hS.tail
    replace hS := hS.tail
    exact ⟨rfl, hS⟩
set_option maxHeartbeats 8000000 in
theorem Fishref2Moved_ok  {w : World} {s : Sg} {R : List HP} {x0 : FleetDepot} {a0_0 : Option Addr} {c0_0 : Nat} {a0_1 : Option Addr} {c0_1 : Nat} {x1 : FleetMove} (hS : St w s (R)) (h0_0 : Sl 1 (RI .i64) s a0_0 c0_0 x0.Room) (h0_1 : Sl 1 (RL 1 (RI .i64)) s a0_1 c0_1 x0.Tracks) {r : FleetDepot × Int × Int} (hr : Fishref2Moved x0 x1 = some r) :
    Calls Try.prog 25 [.agg [.slice a0_0 x0.Room.length c0_0, .slice a0_1 x0.Tracks.length c0_1].toArray, .agg (FleetMove.cells x1).toArray].toArray w (fun e w => ∃ (cs0 : List Value) (t : Sg), e = .returned (.tuple #[.agg cs0.toArray, .int .i64 r.2.1, .int .i64 r.2.2]) ∧ s.Le t ∧ RFleetDepot t cs0 r.1 ∧ St w t (R)) := by
  refine enter Try.func25 rfl rfl rfl fun a hE => ?_
  rw [Fishref2Moved] at hr
  refine W.seq ?_
  refine W.region ?_
  refine WL.box hE hS (runs_plain rfl) rfl rfl rfl ?_; clear hE hS a w; intro b51 a w hE hS
  refine WL.box hE hS (runs_plain rfl) rfl rfl rfl ?_; clear hE hS a w; intro b52 a w hE hS
  refine WL.alloc hE hS (runs_plain rfl) zr25 rfl ?_; clear hE hS a w; intro b53 a w hE hS
  refine WL.vS hS hE (runs_plain rfl) (Gives.p hE rfl) rfl ?_; clear hE a; intro a hE
  refine WL.vS hS hE (runs_plain rfl) (Gives.p hE rfl) rfl ?_; clear hE a; intro a hE
  refine WL.nil ?_
  refine W.seq ?_
  refine W.region ?_
  refine WL.vS hS hE (runs_plain rfl) (Gives.fld hE rfl fl25_0) rfl ?_; clear hE a; intro a hE
  refine WL.vS hS hE (runs_plain rfl) (Gives.loadB hE 2 rfl rfl rfl ty22) rfl ?_; clear hE a; intro a hE
  refine WL.vS hS hE (runs_plain rfl) (Gives.len hE rfl sl22) rfl ?_; clear hE a; intro a hE
  refine WL.vS hS hE (runs_plain rfl) (Gives.p hE rfl) rfl ?_; clear hE a; intro a hE
  refine WL.nil ?_
  refine W.seq ?_
  refine W.seq ?_
  obtain ⟨q55, hq54, hr⟩ := bndS hr
  refine W.cut (fun a w => ∃ (q58 : Bool), q58 = q55 ∧ Rep a 133 [(2, .pointer (some ⟨b51, 0, none⟩)), (3, .pointer (some ⟨b52, 0, none⟩)), (4, .pointer (some ⟨b53, 0, none⟩)), (35, .bool q58)] ∧ St w s (pt b53 (.cells #[.slice none 0 0, .slice none 0 0] 25 (0, 0)) :: pt b52 (.cells (FleetMove.cells x1).toArray 44 (0, 0)) :: pt b51 (.cells #[.slice a0_0 x0.Room.length c0_0, .slice a0_1 x0.Tracks.length c0_1] 25 (0, 0)) :: R)) ?_ ?_
  · refine W.gen fun K59 hK59 => ?_
    refine W.region ?_
    refine WL.vS hS hE (runs_plain rfl) (Gives.fld hE rfl fl44_0) rfl ?_; clear hE a; intro a hE
    refine WL.vS hS hE (runs_plain rfl) (Gives.loadB hE 1 rfl rfl rfl ty3) rfl ?_; clear hE a; intro a hE
    refine WL.vS hS hE (runs_plain rfl) (Gives.p hE rfl) rfl ?_; clear hE a; intro a hE
    refine WL.vS hS hE (runs_plain rfl) (Gives.p hE rfl) rfl ?_; clear hE a; intro a hE
    rcases Bool.eq_false_or_eq_true (decide (x1.From < 0)) with hg60 | hg60
    · replace hq54 := iteT hg60 hq54
      refine WL.no hE (runs_not hE rfl rfl rfl (by rw [hg60]; decide)) rfl ?_; clear hE a; intro a hE
      refine WL.no hE (runs_not hE rfl rfl rfl (by rw [hg60]; decide)) rfl ?_; clear hE a; intro a hE
      refine WL.no hE (runs_not hE rfl rfl rfl (by rw [hg60]; decide)) rfl ?_; clear hE a; intro a hE
      refine WL.no hE (runs_not hE rfl rfl rfl (by rw [hg60]; decide)) rfl ?_; clear hE a; intro a hE
      refine WL.vS hS hE (runs_plain rfl) (Gives.pickT hE rfl hg60 rfl) rfl ?_; clear hE a; intro a hE
      refine WL.vS hS hE (runs_plain rfl) (Gives.p hE rfl) rfl ?_; clear hE a; intro a hE
      refine WL.no hE (runs_not hE rfl rfl rfl (by decide)) rfl ?_; clear hE a; intro a hE
      refine WL.no hE (runs_not hE rfl rfl rfl (by decide)) rfl ?_; clear hE a; intro a hE
      refine WL.no hE (runs_not hE rfl rfl rfl (by decide)) rfl ?_; clear hE a; intro a hE
      refine WL.vS hS hE (runs_plain rfl) (Gives.pickT hE rfl rfl rfl) rfl ?_; clear hE a; intro a hE
      refine WL.vS hS hE (runs_plain rfl) (Gives.p hE rfl) rfl ?_; clear hE a; intro a hE
      refine WL.no hE (runs_not hE rfl rfl rfl (by decide)) rfl ?_; clear hE a; intro a hE
      refine WL.no hE (runs_not hE rfl rfl rfl (by decide)) rfl ?_; clear hE a; intro a hE
      refine WL.no hE (runs_not hE rfl rfl rfl (by decide)) rfl ?_; clear hE a; intro a hE
      refine WL.no hE (runs_not hE rfl rfl rfl (by decide)) rfl ?_; clear hE a; intro a hE
      refine WL.vS hS hE (runs_plain rfl) (Gives.pickT hE rfl rfl rfl) rfl ?_; clear hE a; intro a hE
      refine WL.nil ?_
      subst hK59
      exact ⟨true, hq54, hE.pick _ ⟨rfl, rfl, rfl, rfl, trivial⟩, hS⟩
    · replace hq54 := iteF hg60 hq54
      refine WL.vS hS hE (runs_if hE rfl rfl rfl hg60) (Gives.fld hE rfl fl44_0) rfl ?_; clear hE a; intro a hE
      refine WL.vS hS hE (runs_if hE rfl rfl rfl hg60) (Gives.loadB hE 1 rfl rfl rfl ty3) rfl ?_; clear hE a; intro a hE
      refine WL.vS hS hE (runs_if hE rfl rfl rfl hg60) (Gives.p hE rfl) rfl ?_; clear hE a; intro a hE
      refine WL.vS hS hE (runs_if hE rfl rfl rfl hg60) (Gives.p hE rfl) rfl ?_; clear hE a; intro a hE
      refine WL.vS hS hE (runs_plain rfl) (Gives.pickF hE rfl hg60 rfl) rfl ?_; clear hE a; intro a hE
      refine WL.vS hS hE (runs_plain rfl) (Gives.p hE rfl) rfl ?_; clear hE a; intro a hE
      rcases Bool.eq_false_or_eq_true (decide (x1.From ≥ ((x0.Room).length : Int))) with hg61 | hg61
      · replace hq54 := iteT hg61 hq54
        refine WL.no hE (runs_not hE rfl rfl rfl (by rw [hg61]; decide)) rfl ?_; clear hE a; intro a hE
        refine WL.no hE (runs_not hE rfl rfl rfl (by rw [hg61]; decide)) rfl ?_; clear hE a; intro a hE
        refine WL.no hE (runs_not hE rfl rfl rfl (by rw [hg61]; decide)) rfl ?_; clear hE a; intro a hE
        refine WL.vS hS hE (runs_plain rfl) (Gives.pickT hE rfl hg61 rfl) rfl ?_; clear hE a; intro a hE
        refine WL.vS hS hE (runs_plain rfl) (Gives.p hE rfl) rfl ?_; clear hE a; intro a hE
        refine WL.no hE (runs_not hE rfl rfl rfl (by decide)) rfl ?_; clear hE a; intro a hE
        refine WL.no hE (runs_not hE rfl rfl rfl (by decide)) rfl ?_; clear hE a; intro a hE
        refine WL.no hE (runs_not hE rfl rfl rfl (by decide)) rfl ?_; clear hE a; intro a hE
        refine WL.no hE (runs_not hE rfl rfl rfl (by decide)) rfl ?_; clear hE a; intro a hE
        refine WL.vS hS hE (runs_plain rfl) (Gives.pickT hE rfl rfl rfl) rfl ?_; clear hE a; intro a hE
        refine WL.nil ?_
        subst hK59
        exact ⟨true, hq54, hE.pick _ ⟨rfl, rfl, rfl, rfl, trivial⟩, hS⟩
      · replace hq54 := iteF hg61 hq54
        refine WL.vS hS hE (runs_if hE rfl rfl rfl hg61) (Gives.fld hE rfl fl44_1) rfl ?_; clear hE a; intro a hE
        refine WL.vS hS hE (runs_if hE rfl rfl rfl hg61) (Gives.loadB hE 1 rfl rfl rfl ty3) rfl ?_; clear hE a; intro a hE
        refine WL.vS hS hE (runs_if hE rfl rfl rfl hg61) (Gives.p hE rfl) rfl ?_; clear hE a; intro a hE
        refine WL.vS hS hE (runs_plain rfl) (Gives.pickF hE rfl hg61 rfl) rfl ?_; clear hE a; intro a hE
        refine WL.vS hS hE (runs_plain rfl) (Gives.p hE rfl) rfl ?_; clear hE a; intro a hE
        rcases Bool.eq_false_or_eq_true (decide (x1.To < (-1))) with hg62 | hg62
        · replace hq54 := iteT hg62 hq54
          refine WL.no hE (runs_not hE rfl rfl rfl (by rw [hg62]; decide)) rfl ?_; clear hE a; intro a hE
          refine WL.no hE (runs_not hE rfl rfl rfl (by rw [hg62]; decide)) rfl ?_; clear hE a; intro a hE
          refine WL.no hE (runs_not hE rfl rfl rfl (by rw [hg62]; decide)) rfl ?_; clear hE a; intro a hE
          refine WL.no hE (runs_not hE rfl rfl rfl (by rw [hg62]; decide)) rfl ?_; clear hE a; intro a hE
          refine WL.vS hS hE (runs_plain rfl) (Gives.pickT hE rfl hg62 rfl) rfl ?_; clear hE a; intro a hE
          refine WL.nil ?_
          subst hK59
          exact ⟨true, hq54, hE.pick _ ⟨rfl, rfl, rfl, rfl, trivial⟩, hS⟩
        · replace hq54 := iteF hg62 hq54
          refine WL.vS hS hE (runs_if hE rfl rfl rfl hg62) (Gives.fld hE rfl fl44_1) rfl ?_; clear hE a; intro a hE
          refine WL.vS hS hE (runs_if hE rfl rfl rfl hg62) (Gives.loadB hE 1 rfl rfl rfl ty3) rfl ?_; clear hE a; intro a hE
          refine WL.vS hS hE (runs_if hE rfl rfl rfl hg62) (Gives.p hE rfl) rfl ?_; clear hE a; intro a hE
          refine WL.vS hS hE (runs_if hE rfl rfl rfl hg62) (Gives.p hE rfl) rfl ?_; clear hE a; intro a hE
          refine WL.vS hS hE (runs_plain rfl) (Gives.pickF hE rfl hg62 rfl) rfl ?_; clear hE a; intro a hE
          refine WL.nil ?_
          subst hK59
          exact ⟨decide (x1.To ≥ ((x0.Room).length : Int)), hq54, hE.pick _ ⟨rfl, rfl, rfl, rfl, trivial⟩, hS⟩
  · clear hE hS a w; rintro a w ⟨q58, rfl, hE, hS⟩
    refine W.cond hE rfl (fun hc63 => ?_) (fun hc63 => ?_)
    · replace hr := iteT hc63 hr
      refine W.seq ?_
      refine W.region ?_
      refine WL.vS hS hE (runs_plain rfl) (Gives.build hE (vs := []) [.slice none 0 0, .slice none 0 0] rfl (by kernel_rfl)) rfl ?_; clear hE a; intro a hE
      refine WL.storeI hE hS 0 rfl [.slice none 0 0, .slice none 0 0] (runs_plain rfl) rfl rfl rfl ty25 rfl rfl rfl rfl ?_; clear hE hS a w; intro a w hE hS
      refine WL.vS hS hE (runs_plain rfl) (Gives.p hE rfl) rfl ?_; clear hE a; intro a hE
      refine WL.vS hS hE (runs_plain rfl) (Gives.p hE rfl) rfl ?_; clear hE a; intro a hE
      refine WL.nil ?_
      refine W.ret ?_
      refine finG (fn := Try.f25) (rs := [.cell 4 25, .tmp 5, .tmp 6]) (vs := [_, _, _]) hE rfl ⟨⟨_, _, rfl, rfl, hS.seesAt 0 rfl, ty25⟩, rfl, rfl, trivial⟩ ?_
      obtain rfl := Option.some.inj hr
      replace hS := hS.tail
      replace hS := hS.tail
      replace hS := hS.tail
      exact ⟨_, s, rfl, (Sg.Le.refl _), ⟨_, _, _, _, rfl, Sl.nil, Sl.nil⟩, hS⟩
    · replace hr := iteF hc63 hr
      refine W.skip ?_
      refine W.seq ?_
      refine W.seq ?_
      refine W.region ?_
      refine WL.vS hS hE (runs_plain rfl) (Gives.fld hE rfl fl44_0) rfl ?_; clear hE a; intro a hE
      refine WL.vS hS hE (runs_plain rfl) (Gives.loadB hE 1 rfl rfl rfl ty3) rfl ?_; clear hE a; intro a hE
      refine WL.vS hS hE (runs_plain rfl) (Gives.fld hE rfl fl44_1) rfl ?_; clear hE a; intro a hE
      refine WL.vS hS hE (runs_plain rfl) (Gives.loadB hE 1 rfl rfl rfl ty3) rfl ?_; clear hE a; intro a hE
      refine WL.vS hS hE (runs_plain rfl) (Gives.p hE rfl) rfl ?_; clear hE a; intro a hE
      refine WL.nil ?_
      refine W.cond hE rfl (fun hc64 => ?_) (fun hc64 => ?_)
      · replace hr := iteT hc64 hr
        refine W.seq ?_
        refine W.region ?_
        refine WL.vS hS hE (runs_plain rfl) (Gives.build hE (vs := []) [.slice none 0 0, .slice none 0 0] rfl (by kernel_rfl)) rfl ?_; clear hE a; intro a hE
        refine WL.storeI hE hS 0 rfl [.slice none 0 0, .slice none 0 0] (runs_plain rfl) rfl rfl rfl ty25 rfl rfl rfl rfl ?_; clear hE hS a w; intro a w hE hS
        refine WL.vS hS hE (runs_plain rfl) (Gives.p hE rfl) rfl ?_; clear hE a; intro a hE
        refine WL.vS hS hE (runs_plain rfl) (Gives.p hE rfl) rfl ?_; clear hE a; intro a hE
        refine WL.nil ?_
        refine W.ret ?_
        refine finG (fn := Try.f25) (rs := [.cell 4 25, .tmp 5, .tmp 6]) (vs := [_, _, _]) hE rfl ⟨⟨_, _, rfl, rfl, hS.seesAt 0 rfl, ty25⟩, rfl, rfl, trivial⟩ ?_
        obtain rfl := Option.some.inj hr
        replace hS := hS.tail
        replace hS := hS.tail
        replace hS := hS.tail
        exact ⟨_, s, rfl, (Sg.Le.refl _), ⟨_, _, _, _, rfl, Sl.nil, Sl.nil⟩, hS⟩
      · replace hr := iteF hc64 hr
        refine W.skip ?_
        refine W.seq ?_
        refine W.seq ?_
        refine W.region ?_
        refine WL.vS hS hE (runs_plain rfl) (Gives.fld hE rfl fl25_1) rfl ?_; clear hE a; intro a hE
        refine WL.vS hS hE (runs_plain rfl) (Gives.loadB hE 2 rfl rfl rfl ty23) rfl ?_; clear hE a; intro a hE
        refine WL.vS hS hE (runs_plain rfl) (Gives.fld hE rfl fl44_0) rfl ?_; clear hE a; intro a hE
        refine WL.vS hS hE (runs_plain rfl) (Gives.loadB hE 1 rfl rfl rfl ty3) rfl ?_; clear hE a; intro a hE
        obtain ⟨x65, hx66, hr⟩ := bindS hr
        obtain ⟨hi67, hlt68, hy69⟩ := gx_some hx66
        obtain ⟨cs70, hl71, hR72, hat73⟩ := h0_1.at hy69
        obtain ⟨a74, c75, rfl, h76⟩ := hR72
        refine WL.vS hS hE (runs_plain rfl) (Gives.idx hE (x1.From).toNat rfl rfl sl23 hi67 hlt68 (h0_1.aok hlt68)) rfl ?_; clear hE a; intro a hE
        refine WL.vS hS hE (runs_plain rfl) (Gives.load1 hE rfl (fun w h => hat73 w _ h) ty22) rfl ?_; clear hE a; intro a hE
        refine WL.vS hS hE (runs_plain rfl) (Gives.len hE rfl sl22) rfl ?_; clear hE a; intro a hE
        refine WL.vS hS hE (runs_plain rfl) (Gives.p hE rfl) rfl ?_; clear hE a; intro a hE
        refine WL.nil ?_
        refine W.cond hE rfl (fun hc77 => ?_) (fun hc77 => ?_)
        · replace hr := iteT hc77 hr
          refine W.seq ?_
          refine W.region ?_
          refine WL.vS hS hE (runs_plain rfl) (Gives.build hE (vs := []) [.slice none 0 0, .slice none 0 0] rfl (by kernel_rfl)) rfl ?_; clear hE a; intro a hE
          refine WL.storeI hE hS 0 rfl [.slice none 0 0, .slice none 0 0] (runs_plain rfl) rfl rfl rfl ty25 rfl rfl rfl rfl ?_; clear hE hS a w; intro a w hE hS
          refine WL.vS hS hE (runs_plain rfl) (Gives.p hE rfl) rfl ?_; clear hE a; intro a hE
          refine WL.vS hS hE (runs_plain rfl) (Gives.p hE rfl) rfl ?_; clear hE a; intro a hE
          refine WL.nil ?_
          refine W.ret ?_
          refine finG (fn := Try.f25) (rs := [.cell 4 25, .tmp 5, .tmp 6]) (vs := [_, _, _]) hE rfl ⟨⟨_, _, rfl, rfl, hS.seesAt 0 rfl, ty25⟩, rfl, rfl, trivial⟩ ?_
          obtain rfl := Option.some.inj hr
          replace hS := hS.tail
          replace hS := hS.tail
          replace hS := hS.tail
          exact ⟨_, s, rfl, (Sg.Le.refl _), ⟨_, _, _, _, rfl, Sl.nil, Sl.nil⟩, hS⟩
        · replace hr := iteF hc77 hr
          refine W.skip ?_
          refine W.seq ?_
          refine W.seq ?_
          obtain ⟨q79, hq78, hr⟩ := bindS hr
          refine W.cut (fun a w => ∃ (q82 : Bool), q82 = q79 ∧ Rep a 133 [(2, .pointer (some ⟨b51, 0, none⟩)), (3, .pointer (some ⟨b52, 0, none⟩)), (4, .pointer (some ⟨b53, 0, none⟩)), (70, .bool q82)] ∧ St w s (pt b53 (.cells #[.slice none 0 0, .slice none 0 0] 25 (0, 0)) :: pt b52 (.cells (FleetMove.cells x1).toArray 44 (0, 0)) :: pt b51 (.cells #[.slice a0_0 x0.Room.length c0_0, .slice a0_1 x0.Tracks.length c0_1] 25 (0, 0)) :: R)) ?_ ?_
          · refine W.gen fun K83 hK83 => ?_
            refine W.regionQ (C := fun w => St w s (pt b53 (.cells #[.slice none 0 0, .slice none 0 0] 25 (0, 0)) :: pt b52 (.cells (FleetMove.cells x1).toArray 44 (0, 0)) :: pt b51 (.cells #[.slice a0_0 x0.Room.length c0_0, .slice a0_1 x0.Tracks.length c0_1] 25 (0, 0)) :: R)) mixed (by kernel_rfl) hS.drew ?_
            refine QL.v hE (runs_plain rfl) (Gives.fld hE rfl fl44_1) rfl ?_; clear hE a; intro a hE
            refine QL.v hE (runs_plain rfl) (Gives.loadB hE 1 rfl rfl rfl ty3) rfl ?_; clear hE a; intro a hE
            refine QL.v hE (runs_plain rfl) (Gives.p hE rfl) rfl ?_; clear hE a; intro a hE
            refine QL.v hE (runs_plain rfl) (Gives.p hE rfl) rfl ?_; clear hE a; intro a hE
            rcases Bool.eq_false_or_eq_true (decide (x1.To ≥ 0)) with hg84 | hg84
            · replace hq78 := iteT hg84 hq78
              refine QL.v hE (runs_if hE rfl rfl rfl hg84) (Gives.fld hE rfl fl25_1) rfl ?_; clear hE a; intro a hE
              refine QL.v hE (runs_if hE rfl rfl rfl hg84) (Gives.loadB hE 2 rfl rfl rfl ty23) rfl ?_; clear hE a; intro a hE
              refine QL.v hE (runs_if hE rfl rfl rfl hg84) (Gives.fld hE rfl fl44_1) rfl ?_; clear hE a; intro a hE
              refine QL.v hE (runs_if hE rfl rfl rfl hg84) (Gives.loadB hE 1 rfl rfl rfl ty3) rfl ?_; clear hE a; intro a hE
              obtain ⟨x85, hx86, hq78⟩ := bindS hq78
              obtain ⟨hi87, hlt88, hy89⟩ := gx_some hx86
              obtain ⟨cs90, hl91, hR92, hat93⟩ := h0_1.at hy89
              obtain ⟨a94, c95, rfl, h96⟩ := hR92
              refine QL.v hE (runs_if hE rfl rfl rfl hg84) (Gives.idx hE (x1.To).toNat rfl rfl sl23 hi87 hlt88 (h0_1.aok hlt88)) rfl ?_; clear hE a; intro a hE
              refine QL.v hE (runs_if hE rfl rfl rfl hg84) (Gives.load1 hE rfl (fun w h => hat93 w _ h) ty22) rfl ?_; clear hE a; intro a hE
              refine QL.v hE (runs_if hE rfl rfl rfl hg84) (Gives.len hE rfl sl22) rfl ?_; clear hE a; intro a hE
              refine QL.v hE (runs_if hE rfl rfl rfl hg84) (Gives.fld hE rfl fl25_0) rfl ?_; clear hE a; intro a hE
              refine QL.v hE (runs_if hE rfl rfl rfl hg84) (Gives.loadB hE 2 rfl rfl rfl ty22) rfl ?_; clear hE a; intro a hE
              refine QL.v hE (runs_if hE rfl rfl rfl hg84) (Gives.fld hE rfl fl44_1) rfl ?_; clear hE a; intro a hE
              refine QL.v hE (runs_if hE rfl rfl rfl hg84) (Gives.loadB hE 1 rfl rfl rfl ty3) rfl ?_; clear hE a; intro a hE
              obtain ⟨x97, hx98, hq78⟩ := bindS hq78
              obtain ⟨hi99, hlt100, hy101⟩ := gx_some hx98
              obtain ⟨cs102, hl103, hR104, hat105⟩ := h0_0.at hy101
              subst hR104
              refine QL.v hE (runs_if hE rfl rfl rfl hg84) (Gives.idx hE (x1.To).toNat rfl rfl sl22 hi99 hlt100 (h0_0.aok hlt100)) rfl ?_; clear hE a; intro a hE
              refine QL.v hE (runs_if hE rfl rfl rfl hg84) (Gives.load1 hE rfl (fun w h => hat105 w _ h) ty3) rfl ?_; clear hE a; intro a hE
              refine QL.v hE (runs_if hE rfl rfl rfl hg84) (Gives.p hE rfl) rfl ?_; clear hE a; intro a hE
              refine QL.v hE (runs_plain rfl) (Gives.pickT hE rfl hg84 rfl) rfl ?_; clear hE a; intro a hE
              refine QL.nil ?_; clear hS w; intro w hS
              subst hK83
              exact ⟨decide (((x85).length : Int) ≥ x97), Option.some.inj hq78, hE.pick _ ⟨rfl, rfl, rfl, rfl, trivial⟩, hS⟩
            · replace hq78 := iteF hg84 hq78
              refine QL.no hE (runs_not hE rfl rfl rfl (by rw [hg84]; decide)) rfl ?_; clear hE a; intro a hE
              refine QL.no hE (runs_not hE rfl rfl rfl (by rw [hg84]; decide)) rfl ?_; clear hE a; intro a hE
              refine QL.no hE (runs_not hE rfl rfl rfl (by rw [hg84]; decide)) rfl ?_; clear hE a; intro a hE
              refine QL.no hE (runs_not hE rfl rfl rfl (by rw [hg84]; decide)) rfl ?_; clear hE a; intro a hE
              refine QL.no hE (runs_not hE rfl rfl rfl (by rw [hg84]; decide)) rfl ?_; clear hE a; intro a hE
              refine QL.no hE (runs_not hE rfl rfl rfl (by rw [hg84]; decide)) rfl ?_; clear hE a; intro a hE
              refine QL.no hE (runs_not hE rfl rfl rfl (by rw [hg84]; decide)) rfl ?_; clear hE a; intro a hE
              refine QL.no hE (runs_not hE rfl rfl rfl (by rw [hg84]; decide)) rfl ?_; clear hE a; intro a hE
              refine QL.no hE (runs_not hE rfl rfl rfl (by rw [hg84]; decide)) rfl ?_; clear hE a; intro a hE
              refine QL.no hE (runs_not hE rfl rfl rfl (by rw [hg84]; decide)) rfl ?_; clear hE a; intro a hE
              refine QL.no hE (runs_not hE rfl rfl rfl (by rw [hg84]; decide)) rfl ?_; clear hE a; intro a hE
              refine QL.no hE (runs_not hE rfl rfl rfl (by rw [hg84]; decide)) rfl ?_; clear hE a; intro a hE
              refine QL.no hE (runs_not hE rfl rfl rfl (by rw [hg84]; decide)) rfl ?_; clear hE a; intro a hE
              refine QL.no hE (runs_not hE rfl rfl rfl (by rw [hg84]; decide)) rfl ?_; clear hE a; intro a hE
              refine QL.v hE (runs_plain rfl) (Gives.pickF hE rfl hg84 rfl) rfl ?_; clear hE a; intro a hE
              refine QL.nil ?_; clear hS w; intro w hS
              subst hK83
              exact ⟨false, Option.some.inj hq78, hE.pick _ ⟨rfl, rfl, rfl, rfl, trivial⟩, hS⟩
          · clear hE hS a w; rintro a w ⟨q82, rfl, hE, hS⟩
            refine W.cond hE rfl (fun hc106 => ?_) (fun hc106 => ?_)
            · replace hr := iteT hc106 hr
              refine W.seq ?_
              refine W.region ?_
              refine WL.vS hS hE (runs_plain rfl) (Gives.build hE (vs := []) [.slice none 0 0, .slice none 0 0] rfl (by kernel_rfl)) rfl ?_; clear hE a; intro a hE
              refine WL.storeI hE hS 0 rfl [.slice none 0 0, .slice none 0 0] (runs_plain rfl) rfl rfl rfl ty25 rfl rfl rfl rfl ?_; clear hE hS a w; intro a w hE hS
              refine WL.vS hS hE (runs_plain rfl) (Gives.p hE rfl) rfl ?_; clear hE a; intro a hE
              refine WL.vS hS hE (runs_plain rfl) (Gives.p hE rfl) rfl ?_; clear hE a; intro a hE
              refine WL.nil ?_
              refine W.ret ?_
              refine finG (fn := Try.f25) (rs := [.cell 4 25, .tmp 5, .tmp 6]) (vs := [_, _, _]) hE rfl ⟨⟨_, _, rfl, rfl, hS.seesAt 0 rfl, ty25⟩, rfl, rfl, trivial⟩ ?_
              obtain rfl := Option.some.inj hr
              replace hS := hS.tail
              replace hS := hS.tail
              replace hS := hS.tail
              exact ⟨_, s, rfl, (Sg.Le.refl _), ⟨_, _, _, _, rfl, Sl.nil, Sl.nil⟩, hS⟩
            · replace hr := iteF hc106 hr
              refine W.skip ?_
              refine W.seq ?_
              refine W.region ?_
              refine WL.vS hS hE (runs_plain rfl) (Gives.fld hE rfl fl25_0) rfl ?_; clear hE a; intro a hE
              refine WL.vS hS hE (runs_plain rfl) (Gives.loadB hE 2 rfl rfl rfl ty22) rfl ?_; clear hE a; intro a hE
              obtain ⟨q107, hq108, hr⟩ := bindS hr
              refine WL.fn hE (SlicesCloneLint_ok hS h0_0 hq108) (runs_plain rfl) bd55 rfl rfl ?_
              clear hE hS; rintro e w ⟨a109, c110, n111, cs112, rfl, h113, rfl, hS⟩; refine ⟨_, rfl, ?_⟩; clear a; intro a hE
              refine WL.vS hS hE (runs_plain rfl) (Gives.build hE (vs := [(0, .slice a109 q107.length c110)]) [.slice a109 q107.length c110, .slice none 0 0] rfl (by kernel_rfl)) rfl ?_; clear hE a; intro a hE
              refine WL.alloc hE hS (runs_plain rfl) zr25 rfl ?_; clear hE hS a w; intro b115 a w hE hS
              refine WL.storeI hE hS 0 rfl [.slice a109 q107.length c110, .slice none 0 0] (runs_plain rfl) rfl rfl rfl ty25 rfl rfl rfl rfl ?_; clear hE hS a w; intro a w hE hS
              refine WL.nil ?_
              refine W.seq ?_
              refine W.seq ?_
              refine W.region ?_
              refine WL.vS hS hE (runs_plain rfl) (Gives.fld hE rfl fl25_1) rfl ?_; clear hE a; intro a hE
              refine WL.vS hS hE (runs_plain rfl) (Gives.loadB hE 4 rfl rfl rfl ty23) rfl ?_; clear hE a; intro a hE
              refine WL.vS hS hE (runs_plain rfl) (Gives.len hE rfl sl23) rfl ?_; clear hE a; intro a hE
              refine WL.vS hS hE (runs_plain rfl) (Gives.p hE rfl) rfl ?_; clear hE a; intro a hE
              refine WL.nil ?_
              replace hS := hS.nestNil 22 3 1
              obtain ⟨q118, hq117, hr⟩ := bindS hr
              refine W.cut (fun a w => ∃ (q128 : List (List Int)), ∃ (a129 : Option Addr), ∃ (c130 : Nat), ∃ (n131 : Nat), ∃ (ds132 : List In), q128 = q118 ∧ NEv 1 (RI .i64) s ds132 q128 ∧ q128.length = n131 ∧ Rep a 133 [(3, .pointer (some ⟨b52, 0, none⟩)), (4, .pointer (some ⟨b53, 0, none⟩)), (8, .pointer (some ⟨b115, 0, none⟩))] ∧ St w s (nestC 22 3 1 a129 c130 n131 ds132 :: pt b115 (.cells #[.slice a109 q107.length c110, .slice a129 n131 c130] 25 (0, 0)) :: vecC 3 1 a109 c110 q107.length cs112 :: pt b53 (.cells #[.slice none 0 0, .slice none 0 0] 25 (0, 0)) :: pt b52 (.cells (FleetMove.cells x1).toArray 44 (0, 0)) :: pt b51 (.cells #[.slice a0_0 x0.Room.length c0_0, .slice a0_1 x0.Tracks.length c0_1] 25 (0, 0)) :: R)) ?_ ?_
              · refine W.block ?_
                refine W.loop (fun m a w => ∃ (rest121 : List (List Int)) (k119 : Nat), ∃ (q128 : List (List Int)), ∃ (a129 : Option Addr), ∃ (c130 : Nat), ∃ (n131 : Nat), ∃ (ds132 : List In), rest121.length = m ∧ x0.Tracks.drop k119 = rest121 ∧ Fishref2Moved.loop1 rest121 q128 = some q118 ∧ NEv 1 (RI .i64) s ds132 q128 ∧ q128.length = n131 ∧ Rep a 133 [(3, .pointer (some ⟨b52, 0, none⟩)), (4, .pointer (some ⟨b53, 0, none⟩)), (8, .pointer (some ⟨b115, 0, none⟩)), (77, .slice a0_1 x0.Tracks.length c0_1), (78, .int .i64 ((x0.Tracks).length : Int)), (79, .int .i64 ((k119 : Nat) : Int))] ∧ St w s (nestC 22 3 1 a129 c130 n131 ds132 :: pt b115 (.cells #[.slice a109 q107.length c110, .slice a129 n131 c130] 25 (0, 0)) :: vecC 3 1 a109 c110 q107.length cs112 :: pt b53 (.cells #[.slice none 0 0, .slice none 0 0] 25 (0, 0)) :: pt b52 (.cells (FleetMove.cells x1).toArray 44 (0, 0)) :: pt b51 (.cells #[.slice a0_0 x0.Room.length c0_0, .slice a0_1 x0.Tracks.length c0_1] 25 (0, 0)) :: R)) (m := x0.Tracks.length) ⟨x0.Tracks, 0, [], none, 0, 0, [], rfl, rfl, hq117, (NEv.nil), (rfl), hE.pick _ ⟨rfl, rfl, rfl, rfl, rfl, rfl, trivial⟩, hS⟩ ?_
                clear hE hS a w hq117; rintro m125 a w ⟨rest121, k119, q128, a129, c130, n131, ds132, rfl, hd122, hq117, h133, rfl, hE, hS⟩
                refine W.gen fun K135 hK135 => ?_
                rcases rest121 with _ | ⟨x120, rest121⟩
                · have hlt123 := drop_nil hd122
                  refine W.seq ?_
                  refine W.region ?_
                  refine WL.vS hS hE (runs_plain rfl) (Gives.p hE rfl) rfl ?_; clear hE a; intro a hE
                  refine WL.nil ?_
                  refine W.seq ?_
                  refine W.condF hE rfl (decide_eq_false (by omega)) ?_
                  subst hK135
                  refine W.exit rfl ?_
                  exact ⟨q128, a129, c130, q128.length, ds132, Option.some.inj hq117, h133, rfl, hE.pick _ ⟨rfl, rfl, rfl, trivial⟩, hS⟩
                · obtain ⟨hlt123, hx124, hd122⟩ := drop_cons hd122
                  rw [Fishref2Moved.loop1] at hq117
                  refine W.seq ?_
                  refine W.region ?_
                  refine WL.vS hS hE (runs_plain rfl) (Gives.p hE rfl) rfl ?_; clear hE a; intro a hE
                  refine WL.nil ?_
                  refine W.seq ?_
                  refine W.condT hE rfl (decide_eq_true (by omega)) ?_
                  refine W.skip ?_
                  refine W.seq ?_
                  refine W.block ?_
                  refine W.seq ?_
                  refine W.region ?_
                  obtain ⟨cs136, hl137, hR138, hat139⟩ := h0_1.at hx124
                  obtain ⟨a140, c141, rfl, h142⟩ := hR138
                  refine WL.vS hS hE (runs_plain rfl) (Gives.idx hE k119 rfl rfl sl23 rfl hlt123 (h0_1.aok hlt123)) rfl ?_; clear hE a; intro a hE
                  refine WL.vS hS hE (runs_plain rfl) (Gives.load1 hE rfl (fun w h => hat139 w _ h) ty22) rfl ?_; clear hE a; intro a hE
                  refine WL.vS hS hE (runs_plain rfl) (Gives.p hE rfl) rfl ?_; clear hE a; intro a hE
                  refine WL.nil ?_
                  refine W.gen fun K143 hK143 => ?_
                  refine W.regionE (sel (fun w => St w s (nestC 22 3 1 a129 c130 q128.length ds132 :: pt b115 (.cells #[.slice a109 q107.length c110, .slice a129 q128.length c130] 25 (0, 0)) :: vecC 3 1 a109 c110 q107.length cs112 :: pt b53 (.cells #[.slice none 0 0, .slice none 0 0] 25 (0, 0)) :: pt b52 (.cells (FleetMove.cells x1).toArray 44 (0, 0)) :: pt b51 (.cells #[.slice a0_0 x0.Room.length c0_0, .slice a0_1 x0.Tracks.length c0_1] 25 (0, 0)) :: R)) (fun w => St w s (pt b115 (.cells #[.slice a109 q107.length c110, .slice a129 q128.length c130] 25 (0, 0)) :: vecC 3 1 a109 c110 q107.length cs112 :: pt b53 (.cells #[.slice none 0 0, .slice none 0 0] 25 (0, 0)) :: pt b52 (.cells (FleetMove.cells x1).toArray 44 (0, 0)) :: pt b51 (.cells #[.slice a0_0 x0.Room.length c0_0, .slice a0_1 x0.Tracks.length c0_1] 25 (0, 0)) :: R))) (fun b i => cond b ([0, 1, 2, 3, 4, 6].contains i) ([0, 1, 2, 3, 4, 5, 6].contains i)) mixed ?_
                  replace hS := hS.drew
                  refine Rg.takeP (i := 0) hE rfl (by kernel_rfl) (runs_plain rfl) (Gives.fld hE rfl fl25_1) rfl (tw_sel (fun _ => hS) (fun _ => (hS.tail))) ?_; clear hE a; intro a hE
                  have hT := tw_sel (A := fun w => St w s (nestC 22 3 1 a129 c130 q128.length ds132 :: pt b115 (.cells #[.slice a109 q107.length c110, .slice a129 q128.length c130] 25 (0, 0)) :: vecC 3 1 a109 c110 q107.length cs112 :: pt b53 (.cells #[.slice none 0 0, .slice none 0 0] 25 (0, 0)) :: pt b52 (.cells (FleetMove.cells x1).toArray 44 (0, 0)) :: pt b51 (.cells #[.slice a0_0 x0.Room.length c0_0, .slice a0_1 x0.Tracks.length c0_1] 25 (0, 0)) :: R)) (B := fun w => St w s (pt b115 (.cells #[.slice a109 q107.length c110, .slice a129 q128.length c130] 25 (0, 0)) :: vecC 3 1 a109 c110 q107.length cs112 :: pt b53 (.cells #[.slice none 0 0, .slice none 0 0] 25 (0, 0)) :: pt b52 (.cells (FleetMove.cells x1).toArray 44 (0, 0)) :: pt b51 (.cells #[.slice a0_0 x0.Room.length c0_0, .slice a0_1 x0.Tracks.length c0_1] 25 (0, 0)) :: R)) (w := _) (x := true) (y := true) (fun _ => hS) (fun _ => (hS.tail))
                  have hF := hS; replace hS := hS
                  refine Rg.take (i := 1) true rfl hE rfl (by kernel_rfl) (runs_plain rfl) (Gives.loadB hE 1 rfl rfl rfl ty23) rfl hT ?_; clear hE a; intro a hE
                  replace hS := hF; clear hF hT
                  refine Rg.takeP (i := 2) hE rfl (by kernel_rfl) (runs_plain rfl) (Gives.p hE rfl) rfl (tw_sel (fun _ => hS) (fun _ => (hS.tail))) ?_; clear hE a; intro a hE
                  refine Rg.one (i := 3) true true rfl (by kernel_rfl) (by kernel_rfl) (by kernel_rfl) ?_
                  obtain ⟨q144, hq145, hq117⟩ := bindS hq117
                  refine WL.fn hE (SlicesCloneLint_ok hS h142 hq145) (runs_plain rfl) bd55 rfl rfl ?_
                  clear hE hS; rintro e w ⟨a146, c147, n148, cs149, rfl, h150, rfl, hS⟩; refine ⟨_, rfl, ?_⟩; clear a; intro a hE
                  refine WL.nil ?_
                  refine ⟨⟨fun _ => (hS.tail), fun _ => ((hS.tail).tail)⟩, ?_⟩
                  refine Rg.one (i := 4) true true rfl (by kernel_rfl) (by kernel_rfl) (by kernel_rfl) ?_
                  refine WL.lit hE hS (e := 22) (es := 1) (vs := [(0, .slice a146 q144.length c147)]) (cs := [.slice a146 q144.length c147]) (runs_plain rfl) rfl (by kernel_rfl) rfl ?_; clear hE hS a w; intro b152 a w hE hS
                  refine WL.nil ?_
                  refine ⟨⟨fun _ => ((hS.tail).tail), fun _ => (((hS.tail).tail).tail)⟩, ?_⟩
                  refine Rg.one (i := 5) false true rfl (by kernel_rfl) (by kernel_rfl) (by kernel_rfl) ?_
                  obtain ⟨x153, hx154, hq117⟩ := bindS hq117
                  replace hS := hS.front 1 rfl
                  replace hS := hS.front 1 rfl
                  refine WL.appND hE hS 0 rfl (runs_plain rfl) rfl rfl ap23 h133 rfl h150 rfl hx154 rfl ?_; clear hE hS a w; intro a155 c156 ds157 a w h158 hE hS
                  refine WL.nil ?_
                  refine ⟨⟨fun h => absurd h (by decide), fun _ => (hS.tail)⟩, ?_⟩
                  refine Rg.takeP (i := 6) hE rfl (by kernel_rfl) (runs_plain rfl) (Gives.fld hE rfl fl25_1) rfl (tw_sel (fun h => absurd h (by decide)) (fun _ => (hS.tail))) ?_; clear hE a; intro a hE
                  refine Rg.one (i := 7) false false rfl (by kernel_rfl) (by kernel_rfl) (by kernel_rfl) ?_
                  refine WL.storeI hE hS 1 rfl [.slice a109 q107.length c110, .slice a155 x153.length c156] (runs_plain rfl) rfl rfl rfl ty23 rfl rfl rfl rfl ?_; clear hE hS a w; intro a w hE hS
                  refine WL.nil ?_
                  refine ⟨⟨fun h => absurd h (by decide), fun h => absurd h (by decide)⟩, ?_⟩
                  refine Rg.done (by kernel_rfl) ?_
                  subst hK143
                  refine W.region ?_
                  refine WL.vS hS hE (runs_plain rfl) (Gives.inc hE rfl (by have := h0_1.small; omega)) rfl ?_; clear hE a; intro a hE
                  refine WL.vS hS hE (runs_plain rfl) (Gives.p hE rfl) rfl ?_; clear hE a; intro a hE
                  refine WL.nil ?_
                  subst hK135
                  exact ⟨rest121.length, Nat.lt_succ_self _, rest121, k119 + 1, x153, a155, c156, x153.length, ds157, rfl, hd122, hq117, h158, (rfl), hE.pick _ ⟨rfl, rfl, rfl, rfl, rfl, rfl, trivial⟩, hS⟩
              · clear hE hS a w; rintro a w ⟨q128, a129, c130, n131, ds132, rfl, h133, rfl, hE, hS⟩
                refine W.seq ?_
                refine W.region ?_
                refine WL.vS hS hE (runs_plain rfl) (Gives.fld hE rfl fl25_1) rfl ?_; clear hE a; intro a hE
                refine WL.vS hS hE (runs_plain rfl) (Gives.loadB hE 1 rfl rfl rfl ty23) rfl ?_; clear hE a; intro a hE
                refine WL.vS hS hE (runs_plain rfl) (Gives.fld hE rfl fl44_0) rfl ?_; clear hE a; intro a hE
                refine WL.vS hS hE (runs_plain rfl) (Gives.loadB hE 4 rfl rfl rfl ty3) rfl ?_; clear hE a; intro a hE
                obtain ⟨x159, hx160, hr⟩ := bindS hr
                obtain ⟨hi161, hlt162, hy163⟩ := gx_some hx160
                obtain ⟨a164, c165, cs166, hd167, hev168⟩ := h133.at hy163
                refine WL.vS hS hE (runs_plain rfl) (Gives.idx hE ((x1.From).toNat) rfl rfl sl23 hi161 (by omega) (hS.nAok 0 rfl (by omega : (x1.From).toNat < q128.length))) rfl ?_; clear hE a; intro a hE
                refine WL.vS hS hE (runs_plain rfl) (Gives.load1 (v := .slice a164 x159.length c165) hE rfl (fun w h => St.nSees h 0 rfl hd167) ty22) rfl ?_; clear hE a; intro a hE
                refine WL.vS hS hE (runs_plain rfl) (Gives.p hE rfl) rfl ?_; clear hE a; intro a hE
                refine WL.nil ?_
                refine W.seq ?_
                refine W.region ?_
                refine WL.vS hS hE (runs_plain rfl) (Gives.p hE rfl) rfl ?_; clear hE a; intro a hE
                refine WL.vS hS hE (runs_plain rfl) (Gives.p hE rfl) rfl ?_; clear hE a; intro a hE
                refine WL.vS hS hE (runs_plain rfl) (Gives.len hE rfl sl22) rfl ?_; clear hE a; intro a hE
                refine WL.vS hS hE (runs_plain rfl) (Gives.p hE rfl) rfl ?_; clear hE a; intro a hE
                obtain ⟨x169, hx170, hr⟩ := bindS hr
                obtain ⟨hi171, hlt172, hy173⟩ := gx_some hx170
                obtain ⟨vs174, hl175, hR176, hd177, hget178⟩ := hev168.at hy173
                subst hR176
                refine WL.vS hS hE (runs_plain rfl) (Gives.idx hE ((w64 (((x159).length : Int) - 1)).toNat) rfl rfl sl22 hi171 hlt172 (hS.nnAok 0 rfl hd167 hlt172)) rfl ?_; clear hE a; intro a hE
                refine WL.vS hS hE (runs_plain rfl) (Gives.load1 hE rfl (fun w h => St.nnSees h 0 rfl hd167 ((w64 (((x159).length : Int) - 1)).toNat * 1) _ hget178) ty3) rfl ?_; clear hE a; intro a hE
                refine WL.vS hS hE (runs_plain rfl) (Gives.p hE rfl) rfl ?_; clear hE a; intro a hE
                refine WL.nil ?_
                refine W.seq ?_
                refine W.gen fun K179 hK179 => ?_
                refine W.regionE (sel (fun w => St w s (pt b115 (.cells #[.slice a109 q107.length c110, .slice a129 q128.length c130] 25 (0, 0)) :: vecC 3 1 a109 c110 q107.length cs112 :: pt b53 (.cells #[.slice none 0 0, .slice none 0 0] 25 (0, 0)) :: pt b52 (.cells (FleetMove.cells x1).toArray 44 (0, 0)) :: pt b51 (.cells #[.slice a0_0 x0.Room.length c0_0, .slice a0_1 x0.Tracks.length c0_1] 25 (0, 0)) :: R)) (fun w => St w s (pt b115 (.cells #[.slice a109 q107.length c110, .slice a129 q128.length c130] 25 (0, 0)) :: vecC 3 1 a109 c110 q107.length cs112 :: pt b53 (.cells #[.slice none 0 0, .slice none 0 0] 25 (0, 0)) :: pt b52 (.cells (FleetMove.cells x1).toArray 44 (0, 0)) :: pt b51 (.cells #[.slice a0_0 x0.Room.length c0_0, .slice a0_1 x0.Tracks.length c0_1] 25 (0, 0)) :: R))) (fun b i => cond b ([0, 1, 2, 3, 4, 5, 6, 7, 8, 9, 10].contains i) ([0, 1, 2, 3, 4, 5, 6, 7, 8, 9, 10].contains i)) mixed ?_
                replace hS := hS.drew
                refine Rg.takeP (i := 0) hE rfl (by kernel_rfl) (runs_plain rfl) (Gives.fld hE rfl fl25_1) rfl (tw_sel (fun _ => (hS.tail)) (fun _ => (hS.tail))) ?_; clear hE a; intro a hE
                have hT := tw_sel (A := fun w => St w s (pt b115 (.cells #[.slice a109 q107.length c110, .slice a129 q128.length c130] 25 (0, 0)) :: vecC 3 1 a109 c110 q107.length cs112 :: pt b53 (.cells #[.slice none 0 0, .slice none 0 0] 25 (0, 0)) :: pt b52 (.cells (FleetMove.cells x1).toArray 44 (0, 0)) :: pt b51 (.cells #[.slice a0_0 x0.Room.length c0_0, .slice a0_1 x0.Tracks.length c0_1] 25 (0, 0)) :: R)) (B := fun w => St w s (pt b115 (.cells #[.slice a109 q107.length c110, .slice a129 q128.length c130] 25 (0, 0)) :: vecC 3 1 a109 c110 q107.length cs112 :: pt b53 (.cells #[.slice none 0 0, .slice none 0 0] 25 (0, 0)) :: pt b52 (.cells (FleetMove.cells x1).toArray 44 (0, 0)) :: pt b51 (.cells #[.slice a0_0 x0.Room.length c0_0, .slice a0_1 x0.Tracks.length c0_1] 25 (0, 0)) :: R)) (w := _) (x := true) (y := true) (fun _ => (hS.tail)) (fun _ => (hS.tail))
                have hF := hS; replace hS := (hS.tail)
                refine Rg.take (i := 1) true rfl hE rfl (by kernel_rfl) (runs_plain rfl) (Gives.loadB hE 0 rfl rfl rfl ty23) rfl hT ?_; clear hE a; intro a hE
                replace hS := hF; clear hF hT
                refine Rg.takeP (i := 2) hE rfl (by kernel_rfl) (runs_plain rfl) (Gives.fld hE rfl fl44_0) rfl (tw_sel (fun _ => (hS.tail)) (fun _ => (hS.tail))) ?_; clear hE a; intro a hE
                have hT := tw_sel (A := fun w => St w s (pt b115 (.cells #[.slice a109 q107.length c110, .slice a129 q128.length c130] 25 (0, 0)) :: vecC 3 1 a109 c110 q107.length cs112 :: pt b53 (.cells #[.slice none 0 0, .slice none 0 0] 25 (0, 0)) :: pt b52 (.cells (FleetMove.cells x1).toArray 44 (0, 0)) :: pt b51 (.cells #[.slice a0_0 x0.Room.length c0_0, .slice a0_1 x0.Tracks.length c0_1] 25 (0, 0)) :: R)) (B := fun w => St w s (pt b115 (.cells #[.slice a109 q107.length c110, .slice a129 q128.length c130] 25 (0, 0)) :: vecC 3 1 a109 c110 q107.length cs112 :: pt b53 (.cells #[.slice none 0 0, .slice none 0 0] 25 (0, 0)) :: pt b52 (.cells (FleetMove.cells x1).toArray 44 (0, 0)) :: pt b51 (.cells #[.slice a0_0 x0.Room.length c0_0, .slice a0_1 x0.Tracks.length c0_1] 25 (0, 0)) :: R)) (w := _) (x := true) (y := true) (fun _ => (hS.tail)) (fun _ => (hS.tail))
                have hF := hS; replace hS := (hS.tail)
                refine Rg.take (i := 3) true rfl hE rfl (by kernel_rfl) (runs_plain rfl) (Gives.loadB hE 3 rfl rfl rfl ty3) rfl hT ?_; clear hE a; intro a hE
                replace hS := hF; clear hF hT
                refine Rg.takeP (i := 4) hE rfl (by kernel_rfl) (runs_plain rfl) (Gives.p hE rfl) rfl (tw_sel (fun _ => (hS.tail)) (fun _ => (hS.tail))) ?_; clear hE a; intro a hE
                refine Rg.takeP (i := 5) hE rfl (by kernel_rfl) (runs_plain rfl) (Gives.p hE rfl) rfl (tw_sel (fun _ => (hS.tail)) (fun _ => (hS.tail))) ?_; clear hE a; intro a hE
                refine Rg.takeP (i := 6) hE rfl (by kernel_rfl) (runs_plain rfl) (Gives.len hE rfl sl22) rfl (tw_sel (fun _ => (hS.tail)) (fun _ => (hS.tail))) ?_; clear hE a; intro a hE
                refine Rg.takeP (i := 7) hE rfl (by kernel_rfl) (runs_plain rfl) (Gives.p hE rfl) rfl (tw_sel (fun _ => (hS.tail)) (fun _ => (hS.tail))) ?_; clear hE a; intro a hE
                replace hS := hS.borrowM 0 rfl hd167
                obtain ⟨x181, hx182, hr⟩ := bindS hr
                obtain ⟨_, h183, h184, h185, h186, _⟩ := cutl_some hx182
                have h187 := (hS.vecCap 0 rfl).1
                have h188 : Ev 1 (RI .i64) s (cs166.take ((w64 (((x159).length : Int) - 1)).toNat * 1)) x181 := by rw [h185]; exact hev168.take _
                have hn189 : x181.length = (w64 (((x159).length : Int) - 1)).toNat := by rw [h185]; simp; omega
                replace hS := hS.vecTake 0 rfl (by omega)
                refine Rg.takeP (i := 8) hE rfl (by kernel_rfl) (runs_plain rfl) (Gives.slH hE sl22 rfl rfl h183 (Int.le_trans h184 (by omega)) (sliced_zero _ _ _ _)) rfl (tw_sel (fun _ => ((hS.tail).tail)) (fun _ => ((hS.tail).tail))) ?_; clear hE a; intro a hE
                obtain ⟨_, hx190, hr⟩ := bindS hr
                obtain ⟨h191, h192⟩ := ix_some hx190
                refine Rg.takeP (i := 9) hE rfl (by kernel_rfl) (runs_plain rfl) (Gives.idx hE ((x1.From).toNat) rfl rfl sl23 h191 (by omega) (hS.hAok 1 rfl (by omega : (x1.From).toNat < q128.length))) rfl (tw_sel (fun _ => ((hS.tail).tail)) (fun _ => ((hS.tail).tail))) ?_; clear hE a; intro a hE
                refine Rg.one (i := 10) true true rfl (by kernel_rfl) (by kernel_rfl) (by kernel_rfl) ?_
                obtain ⟨x193, hx194, hr⟩ := bindS hr
                refine WL.storeND hE hS 0 rfl (runs_plain rfl) rfl rfl ty22 h133 rfl (by have := (sx_some hx194).1; omega) hx194 h188 hn189 rfl ?_; clear hE hS a w; intro ds195 a w h196 hn197 hE hS
                refine WL.nil ?_
                refine ⟨⟨fun _ => (hS.tail), fun _ => (hS.tail)⟩, ?_⟩
                refine Rg.done (by kernel_rfl) ?_
                subst hK179
                refine W.seq ?_
                refine W.seq ?_
                refine W.region ?_
                refine WL.vS hS hE (runs_plain rfl) (Gives.fld hE rfl fl44_1) rfl ?_; clear hE a; intro a hE
                refine WL.vS hS hE (runs_plain rfl) (Gives.loadB hE 4 rfl rfl rfl ty3) rfl ?_; clear hE a; intro a hE
                refine WL.vS hS hE (runs_plain rfl) (Gives.p hE rfl) rfl ?_; clear hE a; intro a hE
                refine WL.nil ?_
                refine W.cond hE rfl (fun hc198 => ?_) (fun hc198 => ?_)
                · replace hr := iteT hc198 hr
                  refine W.seq ?_
                  refine W.region ?_
                  refine WL.vS hS hE (runs_plain rfl) (Gives.loadBA hE 1 rfl rfl ty25) rfl ?_; clear hE a; intro a hE
                  refine WL.vS hS hE (runs_plain rfl) (Gives.p hE rfl) rfl ?_; clear hE a; intro a hE
                  refine WL.storeI hE hS 3 rfl [.slice a109 q107.length c110, .slice a129 q128.length c130] (runs_plain rfl) rfl rfl rfl ty25 rfl rfl rfl rfl ?_; clear hE hS a w; intro a w hE hS
                  refine WL.vS hS hE (runs_plain rfl) (Gives.p hE rfl) rfl ?_; clear hE a; intro a hE
                  refine WL.vS hS hE (runs_plain rfl) (Gives.p hE rfl) rfl ?_; clear hE a; intro a hE
                  refine WL.nil ?_
                  refine W.ret ?_
                  have hF := hS.fixD RI.mono 2 rfl h113 rfl; clear hS; obtain ⟨s199, hle200, hS, h201⟩ := hF
                  replace h196 := NEv.mono RI.mono hle200 h196
                  replace h0_0 := Sl.mono RI.mono hle200 h0_0
                  replace h0_1 := Sl.mono (RL.mono RI.mono) hle200 h0_1
                  have hF := hS.fixN RI.mono 0 rfl h196 hn197; clear hS; obtain ⟨s202, hle203, hS, h204⟩ := hF
                  (try rw [← hn197] at hE)
                  (try rw [← hn197] at hS)
                  replace h201 := Sl.mono RI.mono hle203 h201
                  replace h0_0 := Sl.mono RI.mono hle203 h0_0
                  replace h0_1 := Sl.mono (RL.mono RI.mono) hle203 h0_1
                  refine finG (fn := Try.f25) (rs := [.cell 4 25, .tmp 5, .tmp 6]) (vs := [_, _, _]) hE rfl ⟨⟨_, _, rfl, rfl, hS.seesAt 1 rfl, ty25⟩, rfl, rfl, trivial⟩ ?_
                  obtain rfl := Option.some.inj hr
                  replace hS := hS.tail
                  replace hS := hS.tail
                  replace hS := hS.tail
                  replace hS := hS.tail
                  exact ⟨_, s202, rfl, (Sg.Le.trans hle200 hle203), ⟨_, _, _, _, rfl, h201, h204⟩, hS⟩
                · replace hr := iteF hc198 hr
                  refine W.skip ?_
                  refine W.seq ?_
                  refine W.gen fun K205 hK205 => ?_
                  refine W.regionE (sel (fun w => St w s (nestC 22 3 1 a129 c130 q128.length ds195 :: pt b115 (.cells #[.slice a109 q107.length c110, .slice a129 q128.length c130] 25 (0, 0)) :: vecC 3 1 a109 c110 q107.length cs112 :: pt b53 (.cells #[.slice none 0 0, .slice none 0 0] 25 (0, 0)) :: pt b52 (.cells (FleetMove.cells x1).toArray 44 (0, 0)) :: pt b51 (.cells #[.slice a0_0 x0.Room.length c0_0, .slice a0_1 x0.Tracks.length c0_1] 25 (0, 0)) :: R)) (fun w => St w s (pt b115 (.cells #[.slice a109 q107.length c110, .slice a129 q128.length c130] 25 (0, 0)) :: vecC 3 1 a109 c110 q107.length cs112 :: pt b53 (.cells #[.slice none 0 0, .slice none 0 0] 25 (0, 0)) :: pt b52 (.cells (FleetMove.cells x1).toArray 44 (0, 0)) :: pt b51 (.cells #[.slice a0_0 x0.Room.length c0_0, .slice a0_1 x0.Tracks.length c0_1] 25 (0, 0)) :: R))) (fun b i => cond b ([0, 1, 2, 3, 4, 5, 6, 7, 8, 9, 10, 11, 13].contains i) ([0, 1, 2, 3, 4, 5, 6, 7, 8, 9, 10, 11, 12, 13, 14].contains i)) mixed ?_
                  replace hS := hS.drew
                  refine Rg.takeP (i := 0) hE rfl (by kernel_rfl) (runs_plain rfl) (Gives.fld hE rfl fl25_1) rfl (tw_sel (fun _ => hS) (fun _ => (hS.tail))) ?_; clear hE a; intro a hE
                  have hT := tw_sel (A := fun w => St w s (nestC 22 3 1 a129 c130 q128.length ds195 :: pt b115 (.cells #[.slice a109 q107.length c110, .slice a129 q128.length c130] 25 (0, 0)) :: vecC 3 1 a109 c110 q107.length cs112 :: pt b53 (.cells #[.slice none 0 0, .slice none 0 0] 25 (0, 0)) :: pt b52 (.cells (FleetMove.cells x1).toArray 44 (0, 0)) :: pt b51 (.cells #[.slice a0_0 x0.Room.length c0_0, .slice a0_1 x0.Tracks.length c0_1] 25 (0, 0)) :: R)) (B := fun w => St w s (pt b115 (.cells #[.slice a109 q107.length c110, .slice a129 q128.length c130] 25 (0, 0)) :: vecC 3 1 a109 c110 q107.length cs112 :: pt b53 (.cells #[.slice none 0 0, .slice none 0 0] 25 (0, 0)) :: pt b52 (.cells (FleetMove.cells x1).toArray 44 (0, 0)) :: pt b51 (.cells #[.slice a0_0 x0.Room.length c0_0, .slice a0_1 x0.Tracks.length c0_1] 25 (0, 0)) :: R)) (w := _) (x := true) (y := true) (fun _ => hS) (fun _ => (hS.tail))
                  have hF := hS; replace hS := (hS.tail)
                  refine Rg.take (i := 1) false rfl hE rfl (by kernel_rfl) (runs_plain rfl) (Gives.loadB hE 0 rfl rfl rfl ty23) rfl hT ?_; clear hE a; intro a hE
                  replace hS := hF; clear hF hT
                  refine Rg.takeP (i := 2) hE rfl (by kernel_rfl) (runs_plain rfl) (Gives.fld hE rfl fl44_1) rfl (tw_sel (fun _ => hS) (fun _ => (hS.tail))) ?_; clear hE a; intro a hE
                  have hT := tw_sel (A := fun w => St w s (nestC 22 3 1 a129 c130 q128.length ds195 :: pt b115 (.cells #[.slice a109 q107.length c110, .slice a129 q128.length c130] 25 (0, 0)) :: vecC 3 1 a109 c110 q107.length cs112 :: pt b53 (.cells #[.slice none 0 0, .slice none 0 0] 25 (0, 0)) :: pt b52 (.cells (FleetMove.cells x1).toArray 44 (0, 0)) :: pt b51 (.cells #[.slice a0_0 x0.Room.length c0_0, .slice a0_1 x0.Tracks.length c0_1] 25 (0, 0)) :: R)) (B := fun w => St w s (pt b115 (.cells #[.slice a109 q107.length c110, .slice a129 q128.length c130] 25 (0, 0)) :: vecC 3 1 a109 c110 q107.length cs112 :: pt b53 (.cells #[.slice none 0 0, .slice none 0 0] 25 (0, 0)) :: pt b52 (.cells (FleetMove.cells x1).toArray 44 (0, 0)) :: pt b51 (.cells #[.slice a0_0 x0.Room.length c0_0, .slice a0_1 x0.Tracks.length c0_1] 25 (0, 0)) :: R)) (w := _) (x := true) (y := true) (fun _ => hS) (fun _ => (hS.tail))
                  have hF := hS; replace hS := (hS.tail)
                  refine Rg.take (i := 3) false rfl hE rfl (by kernel_rfl) (runs_plain rfl) (Gives.loadB hE 3 rfl rfl rfl ty3) rfl hT ?_; clear hE a; intro a hE
                  replace hS := hF; clear hF hT
                  refine Rg.takeP (i := 4) hE rfl (by kernel_rfl) (runs_plain rfl) (Gives.fld hE rfl fl25_1) rfl (tw_sel (fun _ => hS) (fun _ => (hS.tail))) ?_; clear hE a; intro a hE
                  have hT := tw_sel (A := fun w => St w s (nestC 22 3 1 a129 c130 q128.length ds195 :: pt b115 (.cells #[.slice a109 q107.length c110, .slice a129 q128.length c130] 25 (0, 0)) :: vecC 3 1 a109 c110 q107.length cs112 :: pt b53 (.cells #[.slice none 0 0, .slice none 0 0] 25 (0, 0)) :: pt b52 (.cells (FleetMove.cells x1).toArray 44 (0, 0)) :: pt b51 (.cells #[.slice a0_0 x0.Room.length c0_0, .slice a0_1 x0.Tracks.length c0_1] 25 (0, 0)) :: R)) (B := fun w => St w s (pt b115 (.cells #[.slice a109 q107.length c110, .slice a129 q128.length c130] 25 (0, 0)) :: vecC 3 1 a109 c110 q107.length cs112 :: pt b53 (.cells #[.slice none 0 0, .slice none 0 0] 25 (0, 0)) :: pt b52 (.cells (FleetMove.cells x1).toArray 44 (0, 0)) :: pt b51 (.cells #[.slice a0_0 x0.Room.length c0_0, .slice a0_1 x0.Tracks.length c0_1] 25 (0, 0)) :: R)) (w := _) (x := true) (y := true) (fun _ => hS) (fun _ => (hS.tail))
                  have hF := hS; replace hS := (hS.tail)
                  refine Rg.take (i := 5) false rfl hE rfl (by kernel_rfl) (runs_plain rfl) (Gives.loadB hE 0 rfl rfl rfl ty23) rfl hT ?_; clear hE a; intro a hE
                  replace hS := hF; clear hF hT
                  refine Rg.takeP (i := 6) hE rfl (by kernel_rfl) (runs_plain rfl) (Gives.fld hE rfl fl44_1) rfl (tw_sel (fun _ => hS) (fun _ => (hS.tail))) ?_; clear hE a; intro a hE
                  have hT := tw_sel (A := fun w => St w s (nestC 22 3 1 a129 c130 q128.length ds195 :: pt b115 (.cells #[.slice a109 q107.length c110, .slice a129 q128.length c130] 25 (0, 0)) :: vecC 3 1 a109 c110 q107.length cs112 :: pt b53 (.cells #[.slice none 0 0, .slice none 0 0] 25 (0, 0)) :: pt b52 (.cells (FleetMove.cells x1).toArray 44 (0, 0)) :: pt b51 (.cells #[.slice a0_0 x0.Room.length c0_0, .slice a0_1 x0.Tracks.length c0_1] 25 (0, 0)) :: R)) (B := fun w => St w s (pt b115 (.cells #[.slice a109 q107.length c110, .slice a129 q128.length c130] 25 (0, 0)) :: vecC 3 1 a109 c110 q107.length cs112 :: pt b53 (.cells #[.slice none 0 0, .slice none 0 0] 25 (0, 0)) :: pt b52 (.cells (FleetMove.cells x1).toArray 44 (0, 0)) :: pt b51 (.cells #[.slice a0_0 x0.Room.length c0_0, .slice a0_1 x0.Tracks.length c0_1] 25 (0, 0)) :: R)) (w := _) (x := true) (y := true) (fun _ => hS) (fun _ => (hS.tail))
                  have hF := hS; replace hS := (hS.tail)
                  refine Rg.take (i := 7) false rfl hE rfl (by kernel_rfl) (runs_plain rfl) (Gives.loadB hE 3 rfl rfl rfl ty3) rfl hT ?_; clear hE a; intro a hE
                  replace hS := hF; clear hF hT
                  obtain ⟨x206, hx207, hr⟩ := bindS hr
                  obtain ⟨hi208, hlt209, hy210⟩ := gx_some hx207
                  obtain ⟨a211, c212, cs213, hd214, hev215⟩ := h196.at hy210
                  refine Rg.takeP (i := 8) hE rfl (by kernel_rfl) (runs_plain rfl) (Gives.idx hE ((x1.To).toNat) rfl rfl sl23 hi208 (by have := hn197; omega) (hS.nAok 0 rfl (by have := hn197; omega : (x1.To).toNat < q128.length))) rfl (tw_sel (fun _ => hS) (fun _ => (hS.tail))) ?_; clear hE a; intro a hE
                  have hT := tw_sel (A := fun w => St w s (nestC 22 3 1 a129 c130 q128.length ds195 :: pt b115 (.cells #[.slice a109 q107.length c110, .slice a129 q128.length c130] 25 (0, 0)) :: vecC 3 1 a109 c110 q107.length cs112 :: pt b53 (.cells #[.slice none 0 0, .slice none 0 0] 25 (0, 0)) :: pt b52 (.cells (FleetMove.cells x1).toArray 44 (0, 0)) :: pt b51 (.cells #[.slice a0_0 x0.Room.length c0_0, .slice a0_1 x0.Tracks.length c0_1] 25 (0, 0)) :: R)) (B := fun w => St w s (pt b115 (.cells #[.slice a109 q107.length c110, .slice a129 q128.length c130] 25 (0, 0)) :: vecC 3 1 a109 c110 q107.length cs112 :: pt b53 (.cells #[.slice none 0 0, .slice none 0 0] 25 (0, 0)) :: pt b52 (.cells (FleetMove.cells x1).toArray 44 (0, 0)) :: pt b51 (.cells #[.slice a0_0 x0.Room.length c0_0, .slice a0_1 x0.Tracks.length c0_1] 25 (0, 0)) :: R)) (w := _) (x := true) (y := true) (fun _ => hS) (fun _ => (hS.tail))
                  have hF := hS; replace hS := hS
                  refine Rg.take (i := 9) true rfl hE rfl (by kernel_rfl) (runs_plain rfl) (Gives.load1 (v := .slice a211 x206.length c212) hE rfl (fun w h => St.nSees h 0 rfl hd214) ty22) rfl hT ?_; clear hE a; intro a hE
                  replace hS := hF; clear hF hT
                  refine Rg.takeP (i := 10) hE rfl (by kernel_rfl) (runs_plain rfl) (Gives.p hE rfl) rfl (tw_sel (fun _ => hS) (fun _ => (hS.tail))) ?_; clear hE a; intro a hE
                  refine Rg.one (i := 11) true true rfl (by kernel_rfl) (by kernel_rfl) (by kernel_rfl) ?_
                  refine WL.lit hE hS (e := 3) (es := 1) (vs := [(0, .int .i64 x169)]) (cs := [.int .i64 x169]) (runs_plain rfl) rfl (by kernel_rfl) rfl ?_; clear hE hS a w; intro b216 a w hE hS
                  refine WL.nil ?_
                  refine ⟨⟨fun _ => (hS.tail), fun _ => ((hS.tail).tail)⟩, ?_⟩
                  refine Rg.one (i := 12) false true rfl (by kernel_rfl) (by kernel_rfl) (by kernel_rfl) ?_
                  replace hS := hS.borrowM 1 rfl hd214
                  replace hS := hS.front 1 rfl
                  obtain ⟨x218, hx219, hr⟩ := bindS hr
                  refine WL.appD hE hS 0 (m := 1) (runs_plain rfl) rfl rfl rfl ap22 rfl hev215 (rfl) (xs := [x169]) (Ev.cons (c1 := [.int .i64 x169]) rfl rfl (Ev.nil)) rfl rfl hx219 rfl ?_; clear hE hS a w; intro a220 c221 cs222 a w h223 hE hS
                  refine WL.nil ?_
                  refine ⟨⟨fun h => absurd h (by decide), fun _ => ((hS.tail).tail)⟩, ?_⟩
                  obtain ⟨_, hx224, hr⟩ := bindS hr
                  obtain ⟨h225, h226⟩ := ix_some hx224
                  refine Rg.takeP (i := 13) hE rfl (by kernel_rfl) (runs_plain rfl) (Gives.idx hE ((x1.To).toNat) rfl rfl sl23 h225 (by have := hn197; omega) (hS.hAok 1 rfl (by have := hn197; omega : (x1.To).toNat < q128.length))) rfl (tw_sel (fun h => absurd h (by decide)) (fun _ => ((hS.tail).tail))) ?_; clear hE a; intro a hE
                  refine Rg.one (i := 14) false true rfl (by kernel_rfl) (by kernel_rfl) (by kernel_rfl) ?_
                  obtain ⟨x227, hx228, hr⟩ := bindS hr
                  refine WL.storeND hE hS 0 rfl (runs_plain rfl) rfl rfl ty22 h196 hn197 (by have := (sx_some hx228).1; omega) hx228 h223 (rfl) rfl ?_; clear hE hS a w; intro ds229 a w h230 hn231 hE hS
                  refine WL.nil ?_
                  refine ⟨⟨fun h => absurd h (by decide), fun _ => (hS.tail)⟩, ?_⟩
                  refine Rg.done (by kernel_rfl) ?_
                  subst hK205
                  refine W.seq ?_
                  refine W.region ?_
                  refine WL.vS hS hE (runs_plain rfl) (Gives.loadBA hE 1 rfl rfl ty25) rfl ?_; clear hE a; intro a hE
                  refine WL.storeI hE hS 3 rfl [.slice a109 q107.length c110, .slice a129 q128.length c130] (runs_plain rfl) rfl rfl rfl ty25 rfl rfl rfl rfl ?_; clear hE hS a w; intro a w hE hS
                  refine WL.vS hS hE (runs_plain rfl) (Gives.p hE rfl) rfl ?_; clear hE a; intro a hE
                  refine WL.vS hS hE (runs_plain rfl) (Gives.p hE rfl) rfl ?_; clear hE a; intro a hE
                  refine WL.nil ?_
                  refine W.ret ?_
                  have hF := hS.fixD RI.mono 2 rfl h113 rfl; clear hS; obtain ⟨s232, hle233, hS, h234⟩ := hF
                  replace h230 := NEv.mono RI.mono hle233 h230
                  replace h0_0 := Sl.mono RI.mono hle233 h0_0
                  replace h0_1 := Sl.mono (RL.mono RI.mono) hle233 h0_1
                  have hF := hS.fixN RI.mono 0 rfl h230 hn231; clear hS; obtain ⟨s235, hle236, hS, h237⟩ := hF
                  (try rw [← hn231] at hE)
                  (try rw [← hn231] at hS)
                  replace h234 := Sl.mono RI.mono hle236 h234
                  replace h0_0 := Sl.mono RI.mono hle236 h0_0
                  replace h0_1 := Sl.mono (RL.mono RI.mono) hle236 h0_1
                  refine finG (fn := Try.f25) (rs := [.cell 4 25, .tmp 5, .tmp 6]) (vs := [_, _, _]) hE rfl ⟨⟨_, _, rfl, rfl, hS.seesAt 1 rfl, ty25⟩, rfl, rfl, trivial⟩ ?_
                  obtain rfl := Option.some.inj hr
                  replace hS := hS.tail
                  replace hS := hS.tail
                  replace hS := hS.tail
                  replace hS := hS.tail
                  exact ⟨_, s235, rfl, (Sg.Le.trans hle233 hle236), ⟨_, _, _, _, rfl, h234, h237⟩, hS⟩
set_option maxHeartbeats 8000000 in
theorem Fishref2PlayOf_ok  {w : World} {s : Sg} {R : List HP} {x0 : FleetDepot} {a0_0 : Option Addr} {c0_0 : Nat} {a0_1 : Option Addr} {c0_1 : Nat} {x1 : List FleetMove} {a1 : Option Addr} {c1 : Nat} (hS : St w s (R)) (h0_0 : Sl 1 (RI .i64) s a0_0 c0_0 x0.Room) (h0_1 : Sl 1 (RL 1 (RI .i64)) s a0_1 c0_1 x0.Tracks) (h1 : Sl 2 RFleetMove s a1 c1 x1) {r : FleetDepot × (List Int) × Int} (hr : Fishref2PlayOf x0 x1 = some r) :
    Calls Try.prog 23 [.agg [.slice a0_0 x0.Room.length c0_0, .slice a0_1 x0.Tracks.length c0_1].toArray, .slice a1 x1.length c1].toArray w (fun e w => ∃ (cs0 : List Value) (a1 : Option Addr) (c1 n1 : Nat) (cs1 : List Value) (t : Sg), e = .returned (.tuple #[.agg cs0.toArray, .slice a1 n1 c1, .int .i64 r.2.2]) ∧ s.Le t ∧ RFleetDepot t cs0 r.1 ∧ Ev 1 (RI .i64) t cs1 r.2.1 ∧ r.2.1.length = n1 ∧ St w t (vecC 3 1 a1 c1 n1 cs1 :: R)) := by
  refine enter Try.func23 rfl rfl rfl fun a hE => ?_
  rw [Fishref2PlayOf] at hr
  refine W.seq ?_
  refine W.region ?_
  refine WL.box hE hS (runs_plain rfl) rfl rfl rfl ?_; clear hE hS a w; intro b51 a w hE hS
  refine WL.alloc hE hS (runs_plain rfl) zr25 rfl ?_; clear hE hS a w; intro b52 a w hE hS
  refine WL.vS hS hE (runs_plain rfl) (Gives.p hE rfl) rfl ?_; clear hE a; intro a hE
  refine WL.vS hS hE (runs_plain rfl) (Gives.p hE rfl) rfl ?_; clear hE a; intro a hE
  refine WL.nil ?_
  refine W.seq ?_
  refine W.region ?_
  replace hS := hS.vecNil 3 1
  refine WL.vS hS hE (runs_plain rfl) (Gives.p hE rfl) rfl ?_; clear hE a; intro a hE
  refine WL.nil ?_
  refine W.seq ?_
  refine W.seq ?_
  refine W.region ?_
  refine WL.vS hS hE (runs_plain rfl) (Gives.p hE rfl) rfl ?_; clear hE a; intro a hE
  refine WL.vS hS hE (runs_plain rfl) (Gives.len hE rfl sl38) rfl ?_; clear hE a; intro a hE
  refine WL.vS hS hE (runs_plain rfl) (Gives.p hE rfl) rfl ?_; clear hE a; intro a hE
  refine WL.nil ?_
  obtain ⟨q55, hq54, hr⟩ := bindS hr
  refine W.cut (fun a w => ∃ (q65 : List Int), ∃ (q72 : List Int), ∃ (q76 : List (List Int)), ∃ (q80 : List Int), ∃ (q84 : List (List Int)), ∃ (a66 : Option Addr), ∃ (c67 : Nat), ∃ (n69 : Nat), ∃ (cs70 : List Value), ∃ (a73 : Option Addr), ∃ (c74 : Nat), ∃ (a77 : Option Addr), ∃ (c78 : Nat), ∃ (a81 : Option Addr), ∃ (c82 : Nat), ∃ (a85 : Option Addr), ∃ (c86 : Nat), ∃ (s63 : Sg), s.Le s63 ∧ (.next (q65, q72, q76, q80, q84)) = q55 ∧ Ev 1 (RI .i64) s63 cs70 q65 ∧ q65.length = n69 ∧ Sl 1 (RI .i64) s63 a73 c74 q72 ∧ Sl 1 (RL 1 (RI .i64)) s63 a77 c78 q76 ∧ Sl 1 (RI .i64) s63 a81 c82 q80 ∧ Sl 1 (RL 1 (RI .i64)) s63 a85 c86 q84 ∧ Rep a 40 [(2, .pointer (some ⟨b51, 0, none⟩)), (4, .pointer (some ⟨b52, 0, none⟩)), (7, .slice a66 n69 c67)] ∧ St w s63 (vecC 3 1 a66 c67 n69 cs70 :: pt b52 (.cells #[.slice a81 q80.length c82, .slice a85 q84.length c86] 25 (0, 0)) :: pt b51 (.cells #[.slice a73 q72.length c74, .slice a77 q76.length c78] 25 (0, 0)) :: R)) ?_ ?_
  · refine W.block ?_
    refine W.loop (fun m a w => ∃ (rest58 : List FleetMove) (k56 : Nat), ∃ (q65 : List Int), ∃ (q72 : List Int), ∃ (q76 : List (List Int)), ∃ (q80 : List Int), ∃ (q84 : List (List Int)), ∃ (a66 : Option Addr), ∃ (c67 : Nat), ∃ (n69 : Nat), ∃ (cs70 : List Value), ∃ (a73 : Option Addr), ∃ (c74 : Nat), ∃ (a77 : Option Addr), ∃ (c78 : Nat), ∃ (a81 : Option Addr), ∃ (c82 : Nat), ∃ (a85 : Option Addr), ∃ (c86 : Nat), ∃ (s63 : Sg), rest58.length = m ∧ x1.drop k56 = rest58 ∧ s.Le s63 ∧ Fishref2PlayOf.loop1 rest58 q65 q72 q76 q80 q84 = some q55 ∧ Ev 1 (RI .i64) s63 cs70 q65 ∧ q65.length = n69 ∧ Sl 1 (RI .i64) s63 a73 c74 q72 ∧ Sl 1 (RL 1 (RI .i64)) s63 a77 c78 q76 ∧ Sl 1 (RI .i64) s63 a81 c82 q80 ∧ Sl 1 (RL 1 (RI .i64)) s63 a85 c86 q84 ∧ Rep a 40 [(2, .pointer (some ⟨b51, 0, none⟩)), (4, .pointer (some ⟨b52, 0, none⟩)), (7, .slice a66 n69 c67), (13, .slice a1 x1.length c1), (14, .int .i64 ((x1).length : Int)), (15, .int .i64 ((k56 : Nat) : Int))] ∧ St w s63 (vecC 3 1 a66 c67 n69 cs70 :: pt b52 (.cells #[.slice a81 q80.length c82, .slice a85 q84.length c86] 25 (0, 0)) :: pt b51 (.cells #[.slice a73 q72.length c74, .slice a77 q76.length c78] 25 (0, 0)) :: R)) (m := x1.length) ⟨x1, 0, [], x0.Room, x0.Tracks, [], [], none, 0, 0, [], a0_0, c0_0, a0_1, c0_1, none, 0, none, 0, s, rfl, rfl, (Sg.Le.refl _), hq54, (Ev.nil), (rfl), h0_0, h0_1, Sl.nil, Sl.nil, hE.pick _ ⟨rfl, rfl, rfl, rfl, rfl, rfl, trivial⟩, hS⟩ ?_
    clear hE hS a w hq54; rintro m62 a w ⟨rest58, k56, q65, q72, q76, q80, q84, a66, c67, n69, cs70, a73, c74, a77, c78, a81, c82, a85, c86, s63, rfl, hd59, hle64, hq54, h68, rfl, h75, h79, h83, h87, hE, hS⟩
    refine W.gen fun K88 hK88 => ?_
    replace h0_0 := Sl.mono RI.mono hle64 h0_0
    replace h0_1 := Sl.mono (RL.mono RI.mono) hle64 h0_1
    replace h1 := Sl.mono RFleetMove.mono hle64 h1
    rcases rest58 with _ | ⟨x57, rest58⟩
    · have hlt60 := drop_nil hd59
      refine W.seq ?_
      refine W.region ?_
      refine WL.vS hS hE (runs_plain rfl) (Gives.p hE rfl) rfl ?_; clear hE a; intro a hE
      refine WL.nil ?_
      refine W.seq ?_
      refine W.condF hE rfl (decide_eq_false (by omega)) ?_
      subst hK88
      refine W.exit rfl ?_
      exact ⟨q65, q72, q76, q80, q84, a66, c67, q65.length, cs70, a73, c74, a77, c78, a81, c82, a85, c86, s63, hle64, Option.some.inj hq54, h68, rfl, h75, h79, h83, h87, hE.pick _ ⟨rfl, rfl, rfl, trivial⟩, hS⟩
    · obtain ⟨hlt60, hx61, hd59⟩ := drop_cons hd59
      rw [Fishref2PlayOf.loop1] at hq54
      refine W.seq ?_
      refine W.region ?_
      refine WL.vS hS hE (runs_plain rfl) (Gives.p hE rfl) rfl ?_; clear hE a; intro a hE
      refine WL.nil ?_
      refine W.seq ?_
      refine W.condT hE rfl (decide_eq_true (by omega)) ?_
      refine W.skip ?_
      refine W.seq ?_
      refine W.block ?_
      refine W.seq ?_
      refine W.region ?_
      obtain ⟨cs89, hl90, hR91, hat92⟩ := h1.at hx61
      subst hR91
      refine WL.vS hS hE (runs_plain rfl) (Gives.idx hE k56 rfl rfl sl38 rfl hlt60 (h1.aok hlt60)) rfl ?_; clear hE a; intro a hE
      refine WL.vS hS hE (runs_plain rfl) (Gives.loadA hE rfl (fun w h => hat92 w _ h) ty44) rfl ?_; clear hE a; intro a hE
      refine WL.alloc hE hS (runs_plain rfl) zr44 rfl ?_; clear hE hS a w; intro b93 a w hE hS
      refine WL.storeI hE hS 0 rfl (FleetMove.cells x57) (runs_plain rfl) rfl rfl rfl ty44 rfl rfl rfl rfl ?_; clear hE hS a w; intro a w hE hS
      refine WL.nil ?_
      refine W.seq ?_
      refine W.region ?_
      refine WL.vS hS hE (runs_plain rfl) (Gives.loadBA hE 3 rfl rfl ty25) rfl ?_; clear hE a; intro a hE
      refine WL.vS hS hE (runs_plain rfl) (Gives.loadBA hE 0 rfl rfl ty44) rfl ?_; clear hE a; intro a hE
      obtain ⟨q94, hq95, hq54⟩ := bindS hq54
      refine WL.fn hE (Fishref2Moved_ok hS h75 h79 hq95) (runs_plain rfl) bd25 rfl rfl ?_
      clear hE hS; rintro e w ⟨cs96, s98, rfl, hle99, h97, hS⟩; refine ⟨_, rfl, ?_⟩; clear a; intro a hE
      replace h1 := Sl.mono RFleetMove.mono hle99 h1
      replace h75 := Sl.mono RI.mono hle99 h75
      replace h79 := Sl.mono (RL.mono RI.mono) hle99 h79
      replace h68 := Ev.mono RI.mono hle99 h68
      replace h83 := Sl.mono RI.mono hle99 h83
      replace h87 := Sl.mono (RL.mono RI.mono) hle99 h87
      obtain ⟨a100, c101, a103, c104, rfl, h102, h105⟩ := h97
      refine WL.vS hS hE (runs_plain rfl) (Gives.p hE rfl) rfl ?_; clear hE a; intro a hE
      refine WL.vS hS hE (runs_plain rfl) (Gives.p hE rfl) rfl ?_; clear hE a; intro a hE
      refine WL.vS hS hE (runs_plain rfl) (Gives.p hE rfl) rfl ?_; clear hE a; intro a hE
      refine WL.vS hS hE (runs_plain rfl) (Gives.p hE rfl) rfl ?_; clear hE a; intro a hE
      refine WL.alloc hE hS (runs_plain rfl) zr25 rfl ?_; clear hE hS a w; intro b106 a w hE hS
      refine WL.storeI hE hS 0 rfl [.slice a100 q94.1.Room.length c101, .slice a103 q94.1.Tracks.length c104] (runs_plain rfl) rfl rfl rfl ty25 rfl rfl rfl rfl ?_; clear hE hS a w; intro a w hE hS
      refine WL.vS hS hE (runs_plain rfl) (Gives.p hE rfl) rfl ?_; clear hE a; intro a hE
      refine WL.vS hS hE (runs_plain rfl) (Gives.p hE rfl) rfl ?_; clear hE a; intro a hE
      refine WL.nil ?_
      refine W.seq ?_
      refine W.seq ?_
      refine W.region ?_
      refine WL.vS hS hE (runs_plain rfl) (Gives.p hE rfl) rfl ?_; clear hE a; intro a hE
      refine WL.vS hS hE (runs_plain rfl) (Gives.p hE rfl) rfl ?_; clear hE a; intro a hE
      refine WL.nil ?_
      refine W.cond hE rfl (fun hc107 => ?_) (fun hc107 => ?_)
      · replace hq54 := iteT hc107 hq54
        refine W.seq ?_
        refine W.region ?_
        refine WL.vS hS hE (runs_plain rfl) (Gives.build hE (vs := []) [.slice none 0 0, .slice none 0 0] rfl (by kernel_rfl)) rfl ?_; clear hE a; intro a hE
        refine WL.vS hS hE (runs_plain rfl) (Gives.p hE rfl) rfl ?_; clear hE a; intro a hE
        refine WL.storeI hE hS 3 rfl [.slice none 0 0, .slice none 0 0] (runs_plain rfl) rfl rfl rfl ty25 rfl rfl rfl rfl ?_; clear hE hS a w; intro a w hE hS
        refine WL.vS hS hE (runs_plain rfl) (Gives.p hE rfl) rfl ?_; clear hE a; intro a hE
        refine WL.vS hS hE (runs_plain rfl) (Gives.p hE rfl) rfl ?_; clear hE a; intro a hE
        refine WL.nil ?_
        refine W.ret ?_
        subst hK88
        rw [← Option.some.inj hq54] at hr
        dsimp only at hr
        replace hS := hS.vecNil 3 1
        refine finG (fn := Try.f23) (rs := [.cell 4 25, .tmp 5, .tmp 6]) (vs := [_, _, _]) hE rfl ⟨⟨_, _, rfl, rfl, hS.seesAt 4 rfl, ty25⟩, rfl, rfl, trivial⟩ ?_
        obtain rfl := Option.some.inj hr
        replace hS := hS.dropAt 1
        replace hS := hS.dropAt 1
        replace hS := hS.dropAt 1
        replace hS := hS.dropAt 1
        replace hS := hS.dropAt 1
        exact ⟨_, none, 0, 0, [], s98, rfl, (Sg.Le.trans hle64 hle99), ⟨_, _, _, _, rfl, Sl.nil, Sl.nil⟩, (Ev.nil), (rfl), hS⟩
      · replace hq54 := iteF hc107 hq54
        refine W.skip ?_
        refine W.seq ?_
        refine W.seq ?_
        refine W.region ?_
        refine WL.vS hS hE (runs_plain rfl) (Gives.p hE rfl) rfl ?_; clear hE a; intro a hE
        refine WL.vS hS hE (runs_plain rfl) (Gives.p hE rfl) rfl ?_; clear hE a; intro a hE
        refine WL.nil ?_
        obtain ⟨q110, hq109, hq54⟩ := bindS hq54
        refine W.cut (fun a w => ∃ (q113 : List Int), ∃ (a114 : Option Addr), ∃ (c115 : Nat), ∃ (n117 : Nat), ∃ (cs118 : List Value), q113 = q110 ∧ Ev 1 (RI .i64) s98 cs118 q113 ∧ q113.length = n117 ∧ Rep a 40 [(2, .pointer (some ⟨b51, 0, none⟩)), (4, .pointer (some ⟨b52, 0, none⟩)), (7, .slice a114 n117 c115), (10, .pointer (some ⟨b106, 0, none⟩)), (13, .slice a1 x1.length c1), (14, .int .i64 ((x1).length : Int)), (15, .int .i64 ((k56 : Nat) : Int))] ∧ St w s98 (pt b106 (.cells #[.slice a100 q94.1.Room.length c101, .slice a103 q94.1.Tracks.length c104] 25 (0, 0)) :: pt b93 (.cells (FleetMove.cells x57).toArray 44 (0, 0)) :: vecC 3 1 a114 c115 n117 cs118 :: pt b52 (.cells #[.slice a81 q80.length c82, .slice a85 q84.length c86] 25 (0, 0)) :: pt b51 (.cells #[.slice a73 q72.length c74, .slice a77 q76.length c78] 25 (0, 0)) :: R)) ?_ ?_
        · refine W.gen fun K120 hK120 => ?_
          refine W.cond hE rfl (fun hc121 => ?_) (fun hc121 => ?_)
          · replace hq109 := iteT hc121 hq109
            refine W.region ?_
            refine WL.vS hS hE (runs_plain rfl) (Gives.p hE rfl) rfl ?_; clear hE a; intro a hE
            refine WL.vS hS hE (runs_plain rfl) (Gives.p hE rfl) rfl ?_; clear hE a; intro a hE
            refine WL.lit hE hS (e := 3) (es := 1) (vs := [(0, .int .i64 q94.2.1)]) (cs := [.int .i64 q94.2.1]) (runs_plain rfl) rfl (by kernel_rfl) rfl ?_; clear hE hS a w; intro b122 a w hE hS
            obtain ⟨x123, hx124, hq109⟩ := bindS hq109
            refine WL.appD hE hS 2 (m := 1) (runs_plain rfl) rfl rfl rfl ap22 rfl h68 rfl (xs := [q94.2.1]) (Ev.cons (c1 := [.int .i64 q94.2.1]) rfl rfl (Ev.nil)) rfl rfl hx124 rfl ?_; clear hE hS a w; intro a125 c126 cs127 a w h128 hE hS
            refine WL.vS hS hE (runs_plain rfl) (Gives.p hE rfl) rfl ?_; clear hE a; intro a hE
            refine WL.nil ?_
            subst hK120
            exact ⟨x123, a125, c126, x123.length, cs127, Option.some.inj hq109, h128, (rfl), hE.pick _ ⟨rfl, rfl, rfl, rfl, rfl, rfl, rfl, trivial⟩, hS⟩
          · replace hq109 := iteF hc121 hq109
            refine W.skip ?_
            subst hK120
            exact ⟨q65, a66, c67, q65.length, cs70, Option.some.inj hq109, h68, rfl, hE.pick _ ⟨rfl, rfl, rfl, rfl, rfl, rfl, rfl, trivial⟩, hS⟩
        · clear hE hS a w; rintro a w ⟨q113, a114, c115, n117, cs118, rfl, h116, rfl, hE, hS⟩
          refine W.region ?_
          refine WL.vS hS hE (runs_plain rfl) (Gives.loadBA hE 0 rfl rfl ty25) rfl ?_; clear hE a; intro a hE
          refine WL.storeI hE hS 4 rfl [.slice a100 q94.1.Room.length c101, .slice a103 q94.1.Tracks.length c104] (runs_plain rfl) rfl rfl rfl ty25 rfl rfl rfl rfl ?_; clear hE hS a w; intro a w hE hS
          refine WL.nil ?_
          refine W.region ?_
          refine WL.vS hS hE (runs_plain rfl) (Gives.inc hE rfl (by have := h1.small; omega)) rfl ?_; clear hE a; intro a hE
          refine WL.vS hS hE (runs_plain rfl) (Gives.p hE rfl) rfl ?_; clear hE a; intro a hE
          refine WL.nil ?_
          replace hS := hS.tail
          replace hS := hS.tail
          subst hK88
          exact ⟨rest58.length, Nat.lt_succ_self _, rest58, k56 + 1, q113, q94.1.Room, q94.1.Tracks, q80, q84, a114, c115, q113.length, cs118, a100, c101, a103, c104, a81, c82, a85, c86, s98, rfl, hd59, (Sg.Le.trans hle64 hle99), hq54, h116, rfl, h102, h105, h83, h87, hE.pick _ ⟨rfl, rfl, rfl, rfl, rfl, rfl, trivial⟩, hS⟩
  · clear hE hS a w; rintro a w ⟨q65, q72, q76, q80, q84, a66, c67, n69, cs70, a73, c74, a77, c78, a81, c82, a85, c86, s63, hle64, rfl, h68, rfl, h75, h79, h83, h87, hE, hS⟩
    dsimp only at hr
    replace h0_0 := Sl.mono RI.mono hle64 h0_0
    replace h0_1 := Sl.mono (RL.mono RI.mono) hle64 h0_1
    replace h1 := Sl.mono RFleetMove.mono hle64 h1
    refine W.seq ?_
    refine W.region ?_
    refine WL.vS hS hE (runs_plain rfl) (Gives.loadBA hE 2 rfl rfl ty25) rfl ?_; clear hE a; intro a hE
    refine WL.vS hS hE (runs_plain rfl) (Gives.p hE rfl) rfl ?_; clear hE a; intro a hE
    refine WL.storeI hE hS 1 rfl [.slice a73 q72.length c74, .slice a77 q76.length c78] (runs_plain rfl) rfl rfl rfl ty25 rfl rfl rfl rfl ?_; clear hE hS a w; intro a w hE hS
    refine WL.vS hS hE (runs_plain rfl) (Gives.p hE rfl) rfl ?_; clear hE a; intro a hE
    refine WL.vS hS hE (runs_plain rfl) (Gives.p hE rfl) rfl ?_; clear hE a; intro a hE
    refine WL.nil ?_
    refine W.ret ?_
    refine finG (fn := Try.f23) (rs := [.cell 4 25, .tmp 5, .tmp 6]) (vs := [_, _, _]) hE rfl ⟨⟨_, _, rfl, rfl, hS.seesAt 1 rfl, ty25⟩, rfl, rfl, trivial⟩ ?_
    obtain rfl := Option.some.inj hr
    replace hS := hS.dropAt 1
    replace hS := hS.dropAt 1
    exact ⟨_, a66, c67, q65.length, cs70, s63, rfl, hle64, ⟨_, _, _, _, rfl, h75, h79⟩, h68, rfl, hS⟩
end Go.Proofs.Ytpoooohaoekbaaa
