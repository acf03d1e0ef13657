/- The walks of the functions that FleetShunts reaches: each call comes to what its mirror says. The conditions are those of each contract. -/
import Derived.Test.YtfhkpdnohcidgaaDoorProg
import Derived.Test.YtfhkpdnohcidgaaDoorFleetShuntsM
import Derived.Test.YtfhkpdnohcidgaaDoorFpMore
import Derived.Test.YtfhkpdnohcidgaaDoorFpMapG
namespace Go.Proofs.YtfhkpdnohcidgaaDoor
open Go Go.Fp
theorem an39 : arN Tryd.prog 39 4 1 = true := by kernel_rfl
theorem an41 : arN Tryd.prog 41 4 4 = true := by kernel_rfl
theorem ap22 : apOk Tryd.prog 22 3 1 = true := by kernel_rfl
theorem ap23 : apOk Tryd.prog 23 22 1 = true := by kernel_rfl
theorem ap26 : apOk Tryd.prog 26 34 2 = true := by kernel_rfl
theorem ap45 : apOk Tryd.prog 45 50 4 = true := by kernel_rfl
theorem ap60 : apOk Tryd.prog 60 59 4 = true := by kernel_rfl
theorem ar2_41 : ar2B Tryd.prog 41 4 4 = true := by kernel_rfl
theorem ar82 : arOk Tryd.prog 82 65 = true := by kernel_rfl
theorem bd10 : bodied Tryd.prog 10 = true := by kernel_rfl
theorem bd11 : bodied Tryd.prog 11 = true := by kernel_rfl
theorem bd12 : bodied Tryd.prog 12 = true := by kernel_rfl
theorem bd13 : bodied Tryd.prog 13 = true := by kernel_rfl
theorem bd14 : bodied Tryd.prog 14 = true := by kernel_rfl
theorem bd15 : bodied Tryd.prog 15 = true := by kernel_rfl
theorem bd16 : bodied Tryd.prog 16 = true := by kernel_rfl
theorem bd17 : bodied Tryd.prog 17 = true := by kernel_rfl
theorem bd18 : bodied Tryd.prog 18 = true := by kernel_rfl
theorem bd19 : bodied Tryd.prog 19 = true := by kernel_rfl
theorem bd20 : bodied Tryd.prog 20 = true := by kernel_rfl
theorem bd21 : bodied Tryd.prog 21 = true := by kernel_rfl
theorem bd22 : bodied Tryd.prog 22 = true := by kernel_rfl
theorem bd23 : bodied Tryd.prog 23 = true := by kernel_rfl
theorem bd24 : bodied Tryd.prog 24 = true := by kernel_rfl
theorem bd25 : bodied Tryd.prog 25 = true := by kernel_rfl
theorem bd26 : bodied Tryd.prog 26 = true := by kernel_rfl
theorem bd27 : bodied Tryd.prog 27 = true := by kernel_rfl
theorem bd28 : bodied Tryd.prog 28 = true := by kernel_rfl
theorem bd29 : bodied Tryd.prog 29 = true := by kernel_rfl
theorem bd30 : bodied Tryd.prog 30 = true := by kernel_rfl
theorem bd31 : bodied Tryd.prog 31 = true := by kernel_rfl
theorem bd35 : bodied Tryd.prog 35 = true := by kernel_rfl
theorem bd36 : bodied Tryd.prog 36 = true := by kernel_rfl
theorem bd38 : bodied Tryd.prog 38 = true := by kernel_rfl
theorem bd39 : bodied Tryd.prog 39 = true := by kernel_rfl
theorem bd4 : bodied Tryd.prog 4 = true := by kernel_rfl
theorem bd5 : bodied Tryd.prog 5 = true := by kernel_rfl
theorem bd6 : bodied Tryd.prog 6 = true := by kernel_rfl
theorem bd7 : bodied Tryd.prog 7 = true := by kernel_rfl
theorem bd8 : bodied Tryd.prog 8 = true := by kernel_rfl
theorem bd9 : bodied Tryd.prog 9 = true := by kernel_rfl
theorem fl25_0 : fldOk Tryd.prog 25 0 0 = true := by kernel_rfl
theorem fl25_1 : fldOk Tryd.prog 25 1 1 = true := by kernel_rfl
theorem fl34_0 : fldOk Tryd.prog 34 0 0 = true := by kernel_rfl
theorem fl34_1 : fldOk Tryd.prog 34 1 1 = true := by kernel_rfl
theorem fl47_0 : fldOk Tryd.prog 47 0 0 = true := by kernel_rfl
theorem fl50_0 : fldOk Tryd.prog 50 0 0 = true := by kernel_rfl
theorem fl50_1 : fldOk Tryd.prog 50 1 2 = true := by kernel_rfl
theorem fl50_2 : fldOk Tryd.prog 50 2 3 = true := by kernel_rfl
theorem fl59_0 : fldOk Tryd.prog 59 0 0 = true := by kernel_rfl
theorem fl59_1 : fldOk Tryd.prog 59 1 2 = true := by kernel_rfl
theorem fl59_2 : fldOk Tryd.prog 59 2 3 = true := by kernel_rfl
theorem hu2 : (Tryd.prog.underlying 2).isSome = true := by kernel_rfl
theorem hu3 : (Tryd.prog.underlying 3).isSome = true := by kernel_rfl
theorem hu5 : (Tryd.prog.underlying 5).isSome = true := by kernel_rfl
theorem hu72 : (Tryd.prog.underlying 72).isSome = true := by kernel_rfl
theorem isl22 : isSl Tryd.prog 22 = true := by kernel_rfl
theorem isl26 : isSl Tryd.prog 26 = true := by kernel_rfl
theorem mixed : Tryd.prog.follows .mixedOrders = true := by kernel_rfl
theorem mp62 : mpOk Tryd.prog keyStr.ok 62 9 4 = true := by kernel_rfl
theorem mp64 : mpOk Tryd.prog keyI.ok 64 3 4 = true := by kernel_rfl
theorem se34 : stEqB Tryd.prog 34 [.i .i64, .i .i64] = true := by kernel_rfl
theorem sl22 : slOk Tryd.prog 22 3 1 = true := by kernel_rfl
theorem sl23 : slOk Tryd.prog 23 22 1 = true := by kernel_rfl
theorem sl26 : slOk Tryd.prog 26 34 2 = true := by kernel_rfl
theorem sl45 : slOk Tryd.prog 45 50 4 = true := by kernel_rfl
theorem sl60 : slOk Tryd.prog 60 59 4 = true := by kernel_rfl
theorem st9 : stOk Tryd.prog 9 = true := by kernel_rfl
theorem ty22 : tyOk Tryd.prog 22 false 1 = true := by kernel_rfl
theorem ty23 : tyOk Tryd.prog 23 false 1 = true := by kernel_rfl
theorem ty25 : tyOk Tryd.prog 25 true 2 = true := by kernel_rfl
theorem ty26 : tyOk Tryd.prog 26 false 1 = true := by kernel_rfl
theorem ty3 : tyOk Tryd.prog 3 false 1 = true := by kernel_rfl
theorem ty34 : tyOk Tryd.prog 34 true 2 = true := by kernel_rfl
theorem ty41 : tyOk Tryd.prog 41 true 16 = true := by kernel_rfl
theorem ty45 : tyOk Tryd.prog 45 false 1 = true := by kernel_rfl
theorem ty5 : tyOk Tryd.prog 5 false 1 = true := by kernel_rfl
theorem ty50 : tyOk Tryd.prog 50 true 4 = true := by kernel_rfl
theorem ty59 : tyOk Tryd.prog 59 true 4 = true := by kernel_rfl
theorem ui3 : Tryd.prog.underlying 3 = some (.int .i64) := by kernel_rfl
theorem ui5 : Tryd.prog.underlying 5 = some (.int .u8) := by kernel_rfl
theorem ui72 : Tryd.prog.underlying 72 = some (.int .u64) := by kernel_rfl
theorem ui83 : Tryd.prog.underlying 83 = some (.int .u64) := by kernel_rfl
theorem um43 : Tryd.prog.underlying 43 = some (.map 41 4) := by kernel_rfl
theorem zm4 : (Tryd.prog.info? 4).bind (fun i => i.zero) = some (Value.bool false) := by kernel_rfl
theorem zr25 : (Tryd.prog.info? 25).bind (fun i => i.zero.map fun z => z.cells.toList) = some [.slice none 0 0, .slice none 0 0] := by kernel_rfl
theorem zr34 : (Tryd.prog.info? 34).bind (fun i => i.zero.map fun z => z.cells.toList) = some [.int .i64 0, .int .i64 0] := by kernel_rfl
theorem zr41 : (Tryd.prog.info? 41).bind (fun i => i.zero.map fun z => z.cells.toList) = some [.int .i64 0, .int .i64 0, .int .i64 0, .int .i64 0, .int .i64 0, .int .i64 0, .int .i64 0, .int .i64 0, .int .i64 0, .int .i64 0, .int .i64 0, .int .i64 0, .int .i64 0, .int .i64 0, .int .i64 0, .int .i64 0] := by kernel_rfl
theorem zr50 : (Tryd.prog.info? 50).bind (fun i => i.zero.map fun z => z.cells.toList) = some [.slice none 0 0, .slice none 0 0, .int .i64 0, .slice none 0 0] := by kernel_rfl
theorem zr59 : (Tryd.prog.info? 59).bind (fun i => i.zero.map fun z => z.cells.toList) = some [.slice none 0 0, .slice none 0 0, .int .i64 0, .slice none 0 0] := by kernel_rfl
theorem zr71 : (Tryd.prog.info? 71).bind (fun i => i.zero.map fun z => z.cells.toList) = some [.int .u8 0, .int .u8 0, .int .u8 0, .int .u8 0, .int .u8 0, .int .u8 0, .int .u8 0, .int .u8 0, .int .u8 0, .int .u8 0, .int .u8 0, .int .u8 0, .int .u8 0, .int .u8 0, .int .u8 0, .int .u8 0, .int .u8 0, .int .u8 0, .int .u8 0, .int .u8 0, .int .u8 0, .int .u8 0, .int .u8 0, .int .u8 0] := by kernel_rfl
theorem zr82 : (Tryd.prog.info? 82).bind (fun i => i.zero.map fun z => z.cells.toList) = some [.int .u8 0, .int .u8 0, .int .u8 0, .int .u8 0, .int .u8 0, .int .u8 0, .int .u8 0, .int .u8 0, .int .u8 0, .int .u8 0, .int .u8 0, .int .u8 0, .int .u8 0, .int .u8 0, .int .u8 0, .int .u8 0, .int .u8 0, .int .u8 0, .int .u8 0, .int .u8 0, .int .u8 0, .int .u8 0, .int .u8 0, .int .u8 0, .int .u8 0, .int .u8 0, .int .u8 0, .int .u8 0, .int .u8 0, .int .u8 0, .int .u8 0, .int .u8 0, .int .u8 0, .int .u8 0, .int .u8 0, .int .u8 0, .int .u8 0, .int .u8 0, .int .u8 0, .int .u8 0, .int .u8 0, .int .u8 0, .int .u8 0, .int .u8 0, .int .u8 0, .int .u8 0, .int .u8 0, .int .u8 0, .int .u8 0, .int .u8 0, .int .u8 0, .int .u8 0, .int .u8 0, .int .u8 0, .int .u8 0, .int .u8 0, .int .u8 0, .int .u8 0, .int .u8 0, .int .u8 0, .int .u8 0, .int .u8 0, .int .u8 0, .int .u8 0, .int .u8 0] := by kernel_rfl
set_option maxHeartbeats 8000000 in
theorem Fleetwithin_ok  {w : World} {s : Sg} {R : List HP} {x0 : Int} {x1 : Int} {x2 : Int} (hS : St w s (R))  {r : Bool} (hr : Fleetwithin x0 x1 x2 = r) :
    Calls Tryd.prog 21 [.int .i64 x0, .int .i64 x1, .int .i64 x2].toArray w (fun e w => e = .returned (.bool r) ∧ St w s (R)) := by
  refine enter Tryd.func21 rfl rfl rfl fun a hE => ?_
  rw [Fleetwithin] at hr
  refine W.seq ?_
  refine W.region ?_
  refine WL.vS hS hE (runs_plain rfl) (Gives.p hE rfl) rfl ?_; clear hE a; intro a hE
  refine WL.nil ?_
  refine W.seq ?_
  obtain ⟨q52, hq51, hr⟩ := bndS hr
  refine W.cut (fun a w => ∃ (q55 : Bool), q55 = q52 ∧ Rep a 15 [(6, .bool q55)] ∧ St w s (R)) ?_ ?_
  · refine W.gen fun K56 hK56 => ?_
    refine W.region ?_
    refine WL.vS hS hE (runs_plain rfl) (Gives.p hE rfl) rfl ?_; clear hE a; intro a hE
    refine WL.vS hS hE (runs_plain rfl) (Gives.p hE rfl) rfl ?_; clear hE a; intro a hE
    refine WL.vS hS hE (runs_plain rfl) (Gives.p hE rfl) rfl ?_; clear hE a; intro a hE
    refine WL.vS hS hE (runs_plain rfl) (Gives.p hE rfl) rfl ?_; clear hE a; intro a hE
    rcases Bool.eq_false_or_eq_true (decide (x0 ≥ x1)) with hg57 | hg57
    · replace hq51 := iteT hg57 hq51
      refine WL.vS hS hE (runs_if hE rfl rfl rfl hg57) (Gives.p hE rfl) rfl ?_; clear hE a; intro a hE
      refine WL.vS hS hE (runs_if hE rfl rfl rfl hg57) (Gives.p hE rfl) rfl ?_; clear hE a; intro a hE
      refine WL.vS hS hE (runs_if hE rfl rfl rfl hg57) (Gives.p hE rfl) rfl ?_; clear hE a; intro a hE
      refine WL.vS hS hE (runs_plain rfl) (Gives.pickT hE rfl hg57 rfl) rfl ?_; clear hE a; intro a hE
      refine WL.vS hS hE (runs_plain rfl) (Gives.p hE rfl) rfl ?_; clear hE a; intro a hE
      refine WL.nil ?_
      subst hK56
      exact ⟨decide (x0 ≤ x2), hq51, hE.pick _ ⟨rfl, trivial⟩, hS⟩
    · replace hq51 := iteF hg57 hq51
      refine WL.no hE (runs_not hE rfl rfl rfl (by rw [hg57]; decide)) rfl ?_; clear hE a; intro a hE
      refine WL.no hE (runs_not hE rfl rfl rfl (by rw [hg57]; decide)) rfl ?_; clear hE a; intro a hE
      refine WL.no hE (runs_not hE rfl rfl rfl (by rw [hg57]; decide)) rfl ?_; clear hE a; intro a hE
      refine WL.vS hS hE (runs_plain rfl) (Gives.pickF hE rfl hg57 rfl) rfl ?_; clear hE a; intro a hE
      refine WL.vS hS hE (runs_plain rfl) (Gives.p hE rfl) rfl ?_; clear hE a; intro a hE
      refine WL.nil ?_
      subst hK56
      exact ⟨false, hq51, hE.pick _ ⟨rfl, trivial⟩, hS⟩
  · clear hE hS a w; rintro a w ⟨q55, rfl, hE, hS⟩
    refine W.ret ?_
    refine finG (fn := Tryd.f21) (rs := [.tmp 6]) (vs := [_]) hE rfl ⟨rfl, trivial⟩ ?_
    subst hr
    exact ⟨rfl, hS⟩
set_option maxHeartbeats 8000000 in
theorem FleetCheckDepot_ok  {w : World} {s : Sg} {R : List HP} {x0 : FleetDepot} {a0_0 : Option Addr} {c0_0 : Nat} {a0_1 : Option Addr} {c0_1 : Nat} (hS : St w s (R)) (h0_0 : Sl 1 (RI .i64) s a0_0 c0_0 x0.Room) (h0_1 : Sl 1 (RL 1 (RI .i64)) s a0_1 c0_1 x0.Tracks) {r : Int} (hr : FleetCheckDepot x0 = some r) :
    Calls Tryd.prog 9 [.agg [.slice a0_0 x0.Room.length c0_0, .slice a0_1 x0.Tracks.length c0_1].toArray].toArray w (fun e w => e = .returned (.int .i64 r) ∧ St w s (R)) := by
  refine enter Tryd.func9 rfl rfl rfl fun a hE => ?_
  rw [FleetCheckDepot] at hr
  refine W.seq ?_
  refine W.region ?_
  refine WL.box hE hS (runs_plain rfl) rfl rfl rfl ?_; clear hE hS a w; intro b51 a w hE hS
  refine WL.vS hS hE (runs_plain rfl) (Gives.p hE rfl) rfl ?_; clear hE a; intro a hE
  refine WL.nil ?_
  refine W.seq ?_
  refine W.block ?_
  refine W.seq ?_
  refine W.region ?_
  refine WL.vS hS hE (runs_plain rfl) (Gives.fld hE rfl fl25_0) rfl ?_; clear hE a; intro a hE
  refine WL.vS hS hE (runs_plain rfl) (Gives.loadB hE 0 rfl rfl rfl ty22) rfl ?_; clear hE a; intro a hE
  refine WL.vS hS hE (runs_plain rfl) (Gives.len hE rfl sl22) rfl ?_; clear hE a; intro a hE
  refine WL.fnq hE (Fleetwithin_ok hS  rfl (r := Fleetwithin ((x0.Room).length : Int) 1 4)) (runs_plain rfl) bd21 rfl rfl rfl ?_
  clear hE hS; rintro e w ⟨rfl, hS⟩; refine ⟨_, rfl, ?_⟩; clear a; intro a hE
  refine WL.vS hS hE (runs_plain rfl) (Gives.p hE rfl) rfl ?_; clear hE a; intro a hE
  refine WL.vS hS hE (runs_plain rfl) (Gives.p hE rfl) rfl ?_; clear hE a; intro a hE
  refine WL.nil ?_
  refine W.cond hE rfl (fun hc52 => ?_) (fun hc52 => ?_)
  · replace hr := iteT hc52 hr
    refine W.seq ?_
    refine W.region ?_
    refine WL.vS hS hE (runs_plain rfl) (Gives.p hE rfl) rfl ?_; clear hE a; intro a hE
    refine WL.nil ?_
    refine W.ret ?_
    refine finG (fn := Tryd.f9) (rs := [.tmp 2]) (vs := [_]) hE rfl ⟨rfl, trivial⟩ ?_
    obtain rfl := Option.some.inj hr
    replace hS := hS.tail
    exact ⟨rfl, hS⟩
  · replace hr := iteF hc52 hr
    refine W.seq ?_
    refine W.region ?_
    refine WL.vS hS hE (runs_plain rfl) (Gives.fld hE rfl fl25_1) rfl ?_; clear hE a; intro a hE
    refine WL.vS hS hE (runs_plain rfl) (Gives.loadB hE 0 rfl rfl rfl ty23) rfl ?_; clear hE a; intro a hE
    refine WL.vS hS hE (runs_plain rfl) (Gives.len hE rfl sl23) rfl ?_; clear hE a; intro a hE
    refine WL.vS hS hE (runs_plain rfl) (Gives.fld hE rfl fl25_0) rfl ?_; clear hE a; intro a hE
    refine WL.vS hS hE (runs_plain rfl) (Gives.loadB hE 0 rfl rfl rfl ty22) rfl ?_; clear hE a; intro a hE
    refine WL.vS hS hE (runs_plain rfl) (Gives.len hE rfl sl22) rfl ?_; clear hE a; intro a hE
    refine WL.vS hS hE (runs_plain rfl) (Gives.p hE rfl) rfl ?_; clear hE a; intro a hE
    refine WL.vS hS hE (runs_plain rfl) (Gives.p hE rfl) rfl ?_; clear hE a; intro a hE
    refine WL.nil ?_
    refine W.cond hE rfl (fun hc53 => ?_) (fun hc53 => ?_)
    · replace hr := iteT hc53 hr
      refine W.seq ?_
      refine W.region ?_
      refine WL.vS hS hE (runs_plain rfl) (Gives.p hE rfl) rfl ?_; clear hE a; intro a hE
      refine WL.nil ?_
      refine W.ret ?_
      refine finG (fn := Tryd.f9) (rs := [.tmp 2]) (vs := [_]) hE rfl ⟨rfl, trivial⟩ ?_
      obtain rfl := Option.some.inj hr
      replace hS := hS.tail
      exact ⟨rfl, hS⟩
    · replace hr := iteF hc53 hr
      refine W.skip ?_
      refine W.seq ?_
      refine W.region ?_
      refine WL.mkMap (fk := keyI.f) (fv := Value.bool) hE hS (runs_plain rfl) rfl ?_; clear hE hS a w; intro b54 a w hE hS
      refine WL.vS hS hE (runs_plain rfl) (Gives.p hE rfl) rfl ?_; clear hE a; intro a hE
      refine WL.nil ?_
      refine W.seq ?_
      refine W.seq ?_
      refine W.region ?_
      refine WL.vS hS hE (runs_plain rfl) (Gives.fld hE rfl fl25_1) rfl ?_; clear hE a; intro a hE
      refine WL.vS hS hE (runs_plain rfl) (Gives.loadB hE 1 rfl rfl rfl ty23) rfl ?_; clear hE a; intro a hE
      refine WL.vS hS hE (runs_plain rfl) (Gives.len hE rfl sl23) rfl ?_; clear hE a; intro a hE
      refine WL.vS hS hE (runs_plain rfl) (Gives.p hE rfl) rfl ?_; clear hE a; intro a hE
      refine WL.nil ?_
      obtain ⟨q56, hq55, hr⟩ := bindS hr
      refine W.cut (fun a w => ∃ (q66 : List (Int × Bool)), (.next q66) = q56 ∧ Rep a 66 [] ∧ St w s (mapC keyI.f Value.bool b54 q66 :: pt b51 (.cells #[.slice a0_0 x0.Room.length c0_0, .slice a0_1 x0.Tracks.length c0_1] 25 (0, 0)) :: R)) ?_ ?_
      · refine W.block ?_
        refine W.loop (fun m a w => ∃ (rest59 : List (List Int)) (k57 : Nat), ∃ (q66 : List (Int × Bool)), rest59.length = m ∧ x0.Tracks.drop k57 = rest59 ∧ FleetCheckDepot.loop1 x0 rest59 k57 q66 = some q56 ∧ Rep a 66 [(1, .pointer (some ⟨b51, 0, none⟩)), (3, .map (some b54)), (24, .slice a0_1 x0.Tracks.length c0_1), (25, .int .i64 ((x0.Tracks).length : Int)), (26, .int .i64 ((k57 : Nat) : Int))] ∧ St w s (mapC keyI.f Value.bool b54 q66 :: pt b51 (.cells #[.slice a0_0 x0.Room.length c0_0, .slice a0_1 x0.Tracks.length c0_1] 25 (0, 0)) :: R)) (m := x0.Tracks.length) ⟨x0.Tracks, 0, [], rfl, rfl, hq55, hE.pick _ ⟨rfl, rfl, rfl, rfl, rfl, trivial⟩, hS⟩ ?_
        clear hE hS a w hq55; rintro m63 a w ⟨rest59, k57, q66, rfl, hd60, hq55, hE, hS⟩
        refine W.gen fun K67 hK67 => ?_
        rcases rest59 with _ | ⟨x58, rest59⟩
        · have hlt61 := drop_nil hd60
          refine W.seq ?_
          refine W.region ?_
          refine WL.vS hS hE (runs_plain rfl) (Gives.p hE rfl) rfl ?_; clear hE a; intro a hE
          refine WL.nil ?_
          refine W.seq ?_
          refine W.condF hE rfl (decide_eq_false (by omega)) ?_
          subst hK67
          refine W.exit rfl ?_
          exact ⟨q66, Option.some.inj hq55, hE.pick _ trivial, hS⟩
        · obtain ⟨hlt61, hx62, hd60⟩ := drop_cons hd60
          rw [FleetCheckDepot.loop1] at hq55
          refine W.seq ?_
          refine W.region ?_
          refine WL.vS hS hE (runs_plain rfl) (Gives.p hE rfl) rfl ?_; clear hE a; intro a hE
          refine WL.nil ?_
          refine W.seq ?_
          refine W.condT hE rfl (decide_eq_true (by omega)) ?_
          refine W.skip ?_
          refine W.seq ?_
          refine W.block ?_
          refine W.seq ?_
          refine W.region ?_
          refine WL.vS hS hE (runs_plain rfl) (Gives.p hE rfl) rfl ?_; clear hE a; intro a hE
          obtain ⟨cs68, hl69, hR70, hat71⟩ := h0_1.at hx62
          obtain ⟨a72, c73, rfl, h74⟩ := hR70
          refine WL.vS hS hE (runs_plain rfl) (Gives.idx hE k57 rfl rfl sl23 rfl hlt61 (h0_1.aok hlt61)) rfl ?_; clear hE a; intro a hE
          refine WL.vS hS hE (runs_plain rfl) (Gives.load1 hE rfl (fun w h => hat71 w _ h) ty22) rfl ?_; clear hE a; intro a hE
          refine WL.vS hS hE (runs_plain rfl) (Gives.p hE rfl) rfl ?_; clear hE a; intro a hE
          refine WL.vS hS hE (runs_plain rfl) (Gives.p hE rfl) rfl ?_; clear hE a; intro a hE
          refine WL.nil ?_
          refine W.seq ?_
          refine W.block ?_
          refine W.seq ?_
          refine W.region ?_
          refine WL.vS hS hE (runs_plain rfl) (Gives.fld hE rfl fl25_0) rfl ?_; clear hE a; intro a hE
          refine WL.vS hS hE (runs_plain rfl) (Gives.loadB hE 1 rfl rfl rfl ty22) rfl ?_; clear hE a; intro a hE
          refine WL.vS hS hE (runs_plain rfl) (Gives.p hE rfl) rfl ?_; clear hE a; intro a hE
          obtain ⟨x75, hx76, hq55⟩ := bindS hq55
          obtain ⟨hi77, hlt78, hy79⟩ := gx_some hx76
          obtain ⟨cs80, hl81, hR82, hat83⟩ := h0_0.at hy79
          subst hR82
          refine WL.vS hS hE (runs_plain rfl) (Gives.idx hE (((k57 : Nat) : Int)).toNat rfl rfl sl22 hi77 hlt78 (h0_0.aok hlt78)) rfl ?_; clear hE a; intro a hE
          refine WL.vS hS hE (runs_plain rfl) (Gives.load1 hE rfl (fun w h => hat83 w _ h) ty3) rfl ?_; clear hE a; intro a hE
          refine WL.fnq hE (Fleetwithin_ok hS  rfl (r := Fleetwithin x75 1 4)) (runs_plain rfl) bd21 rfl rfl rfl ?_
          clear hE hS; rintro e w ⟨rfl, hS⟩; refine ⟨_, rfl, ?_⟩; clear a; intro a hE
          refine WL.vS hS hE (runs_plain rfl) (Gives.p hE rfl) rfl ?_; clear hE a; intro a hE
          refine WL.vS hS hE (runs_plain rfl) (Gives.p hE rfl) rfl ?_; clear hE a; intro a hE
          refine WL.nil ?_
          refine W.cond hE rfl (fun hc84 => ?_) (fun hc84 => ?_)
          · replace hq55 := iteT hc84 hq55
            refine W.seq ?_
            refine W.region ?_
            refine WL.vS hS hE (runs_plain rfl) (Gives.p hE rfl) rfl ?_; clear hE a; intro a hE
            refine WL.nil ?_
            refine W.ret ?_
            subst hK67
            rw [← Option.some.inj hq55] at hr
            dsimp only at hr
            refine finG (fn := Tryd.f9) (rs := [.tmp 2]) (vs := [_]) hE rfl ⟨rfl, trivial⟩ ?_
            obtain rfl := Option.some.inj hr
            replace hS := hS.tail
            replace hS := hS.tail
            exact ⟨rfl, hS⟩
          · replace hq55 := iteF hc84 hq55
            refine W.seq ?_
            refine W.region ?_
            refine WL.vS hS hE (runs_plain rfl) (Gives.p hE rfl) rfl ?_; clear hE a; intro a hE
            refine WL.vS hS hE (runs_plain rfl) (Gives.len hE rfl sl22) rfl ?_; clear hE a; intro a hE
            refine WL.vS hS hE (runs_plain rfl) (Gives.fld hE rfl fl25_0) rfl ?_; clear hE a; intro a hE
            refine WL.vS hS hE (runs_plain rfl) (Gives.loadB hE 1 rfl rfl rfl ty22) rfl ?_; clear hE a; intro a hE
            refine WL.vS hS hE (runs_plain rfl) (Gives.p hE rfl) rfl ?_; clear hE a; intro a hE
            obtain ⟨x85, hx86, hq55⟩ := bindS hq55
            obtain ⟨hi87, hlt88, hy89⟩ := gx_some hx86
            obtain ⟨cs90, hl91, hR92, hat93⟩ := h0_0.at hy89
            subst hR92
            refine WL.vS hS hE (runs_plain rfl) (Gives.idx hE (((k57 : Nat) : Int)).toNat rfl rfl sl22 hi87 hlt88 (h0_0.aok hlt88)) rfl ?_; clear hE a; intro a hE
            refine WL.vS hS hE (runs_plain rfl) (Gives.load1 hE rfl (fun w h => hat93 w _ h) ty3) rfl ?_; clear hE a; intro a hE
            refine WL.vS hS hE (runs_plain rfl) (Gives.p hE rfl) rfl ?_; clear hE a; intro a hE
            refine WL.vS hS hE (runs_plain rfl) (Gives.p hE rfl) rfl ?_; clear hE a; intro a hE
            refine WL.nil ?_
            refine W.cond hE rfl (fun hc94 => ?_) (fun hc94 => ?_)
            · replace hq55 := iteT hc94 hq55
              refine W.seq ?_
              refine W.region ?_
              refine WL.vS hS hE (runs_plain rfl) (Gives.p hE rfl) rfl ?_; clear hE a; intro a hE
              refine WL.nil ?_
              refine W.ret ?_
              subst hK67
              rw [← Option.some.inj hq55] at hr
              dsimp only at hr
              refine finG (fn := Tryd.f9) (rs := [.tmp 2]) (vs := [_]) hE rfl ⟨rfl, trivial⟩ ?_
              obtain rfl := Option.some.inj hr
              replace hS := hS.tail
              replace hS := hS.tail
              exact ⟨rfl, hS⟩
            · replace hq55 := iteF hc94 hq55
              refine W.skip ?_
              refine W.seq ?_
              refine W.region ?_
              refine WL.vS hS hE (runs_plain rfl) (Gives.p hE rfl) rfl ?_; clear hE a; intro a hE
              refine WL.vS hS hE (runs_plain rfl) (Gives.len hE rfl sl22) rfl ?_; clear hE a; intro a hE
              refine WL.vS hS hE (runs_plain rfl) (Gives.p hE rfl) rfl ?_; clear hE a; intro a hE
              refine WL.nil ?_
              obtain ⟨q96, hq95, hq55⟩ := bndS hq55
              refine W.cut (fun a w => ∃ (q106 : List (Int × Bool)), (.next q106) = q96 ∧ Rep a 66 [(1, .pointer (some ⟨b51, 0, none⟩)), (3, .map (some b54)), (24, .slice a0_1 x0.Tracks.length c0_1), (25, .int .i64 ((x0.Tracks).length : Int)), (26, .int .i64 ((k57 : Nat) : Int))] ∧ St w s (mapC keyI.f Value.bool b54 q106 :: pt b51 (.cells #[.slice a0_0 x0.Room.length c0_0, .slice a0_1 x0.Tracks.length c0_1] 25 (0, 0)) :: R)) ?_ ?_
              · refine W.block ?_
                refine W.loop (fun m a w => ∃ (rest99 : List Int) (k97 : Nat), ∃ (q106 : List (Int × Bool)), rest99.length = m ∧ x58.drop k97 = rest99 ∧ FleetCheckDepot.loop2 rest99 q106 = q96 ∧ Rep a 66 [(1, .pointer (some ⟨b51, 0, none⟩)), (3, .map (some b54)), (24, .slice a0_1 x0.Tracks.length c0_1), (25, .int .i64 ((x0.Tracks).length : Int)), (26, .int .i64 ((k57 : Nat) : Int)), (48, .slice a72 x58.length c73), (49, .int .i64 ((x58).length : Int)), (50, .int .i64 ((k97 : Nat) : Int))] ∧ St w s (mapC keyI.f Value.bool b54 q106 :: pt b51 (.cells #[.slice a0_0 x0.Room.length c0_0, .slice a0_1 x0.Tracks.length c0_1] 25 (0, 0)) :: R)) (m := x58.length) ⟨x58, 0, q66, rfl, rfl, hq95, hE.pick _ ⟨rfl, rfl, rfl, rfl, rfl, rfl, rfl, rfl, trivial⟩, hS⟩ ?_
                clear hE hS a w hq95; rintro m103 a w ⟨rest99, k97, q106, rfl, hd100, hq95, hE, hS⟩
                refine W.gen fun K107 hK107 => ?_
                rcases rest99 with _ | ⟨x98, rest99⟩
                · have hlt101 := drop_nil hd100
                  refine W.seq ?_
                  refine W.region ?_
                  refine WL.vS hS hE (runs_plain rfl) (Gives.p hE rfl) rfl ?_; clear hE a; intro a hE
                  refine WL.nil ?_
                  refine W.seq ?_
                  refine W.condF hE rfl (decide_eq_false (by omega)) ?_
                  subst hK107
                  refine W.exit rfl ?_
                  exact ⟨q106, hq95, hE.pick _ ⟨rfl, rfl, rfl, rfl, rfl, trivial⟩, hS⟩
                · obtain ⟨hlt101, hx102, hd100⟩ := drop_cons hd100
                  rw [FleetCheckDepot.loop2] at hq95
                  refine W.seq ?_
                  refine W.region ?_
                  refine WL.vS hS hE (runs_plain rfl) (Gives.p hE rfl) rfl ?_; clear hE a; intro a hE
                  refine WL.nil ?_
                  refine W.seq ?_
                  refine W.condT hE rfl (decide_eq_true (by omega)) ?_
                  refine W.skip ?_
                  refine W.seq ?_
                  refine W.block ?_
                  refine W.seq ?_
                  refine W.region ?_
                  obtain ⟨cs108, hl109, hR110, hat111⟩ := h74.at hx102
                  subst hR110
                  refine WL.vS hS hE (runs_plain rfl) (Gives.idx hE k97 rfl rfl sl22 rfl hlt101 (h74.aok hlt101)) rfl ?_; clear hE a; intro a hE
                  refine WL.vS hS hE (runs_plain rfl) (Gives.load1 hE rfl (fun w h => hat111 w _ h) ty3) rfl ?_; clear hE a; intro a hE
                  refine WL.vS hS hE (runs_plain rfl) (Gives.p hE rfl) rfl ?_; clear hE a; intro a hE
                  refine WL.nil ?_
                  refine W.seq ?_
                  refine W.block ?_
                  refine W.seq ?_
                  refine W.region ?_
                  refine WL.vS hS hE (runs_plain rfl) (Gives.p hE rfl) rfl ?_; clear hE a; intro a hE
                  refine WL.fnq hE (Fleetwithin_ok hS  rfl (r := Fleetwithin x98 0 99)) (runs_plain rfl) bd21 rfl rfl rfl ?_
                  clear hE hS; rintro e w ⟨rfl, hS⟩; refine ⟨_, rfl, ?_⟩; clear a; intro a hE
                  refine WL.vS hS hE (runs_plain rfl) (Gives.p hE rfl) rfl ?_; clear hE a; intro a hE
                  refine WL.vS hS hE (runs_plain rfl) (Gives.p hE rfl) rfl ?_; clear hE a; intro a hE
                  refine WL.nil ?_
                  refine W.cond hE rfl (fun hc112 => ?_) (fun hc112 => ?_)
                  · replace hq95 := iteT hc112 hq95
                    refine W.seq ?_
                    refine W.region ?_
                    refine WL.vS hS hE (runs_plain rfl) (Gives.p hE rfl) rfl ?_; clear hE a; intro a hE
                    refine WL.nil ?_
                    refine W.ret ?_
                    subst hK107
                    subst hK67
                    rw [← hq95] at hq55
                    dsimp only at hq55
                    rw [← Option.some.inj hq55] at hr
                    dsimp only at hr
                    refine finG (fn := Tryd.f9) (rs := [.tmp 2]) (vs := [_]) hE rfl ⟨rfl, trivial⟩ ?_
                    obtain rfl := Option.some.inj hr
                    replace hS := hS.tail
                    replace hS := hS.tail
                    exact ⟨rfl, hS⟩
                  · replace hq95 := iteF hc112 hq95
                    refine W.seq ?_
                    refine W.region ?_
                    refine WL.vS hS hE (runs_plain rfl) (Gives.p hE rfl) rfl ?_; clear hE a; intro a hE
                    refine WL.vS hS hE (runs_plain rfl) (Gives.p hE rfl) rfl ?_; clear hE a; intro a hE
                    refine WL.vS hS hE (runs_plain rfl) (Gives.mapGet keyI hE 0 (k := x98) (z := false) rfl rfl rfl mp64 zm4) rfl ?_; clear hE a; intro a hE
                    refine WL.vS hS hE (runs_plain rfl) (Gives.p hE rfl) rfl ?_; clear hE a; intro a hE
                    refine WL.nil ?_
                    refine W.cond hE rfl (fun hc113 => ?_) (fun hc113 => ?_)
                    · replace hq95 := iteT hc113 hq95
                      refine W.seq ?_
                      refine W.region ?_
                      refine WL.vS hS hE (runs_plain rfl) (Gives.p hE rfl) rfl ?_; clear hE a; intro a hE
                      refine WL.nil ?_
                      refine W.ret ?_
                      subst hK107
                      subst hK67
                      rw [← hq95] at hq55
                      dsimp only at hq55
                      rw [← Option.some.inj hq55] at hr
                      dsimp only at hr
                      refine finG (fn := Tryd.f9) (rs := [.tmp 2]) (vs := [_]) hE rfl ⟨rfl, trivial⟩ ?_
                      obtain rfl := Option.some.inj hr
                      replace hS := hS.tail
                      replace hS := hS.tail
                      exact ⟨rfl, hS⟩
                    · replace hq95 := iteF hc113 hq95
                      refine W.skip ?_
                      refine W.region ?_
                      refine WL.vS hS hE (runs_plain rfl) (Gives.p hE rfl) rfl ?_; clear hE a; intro a hE
                      refine WL.vS hS hE (runs_plain rfl) (Gives.p hE rfl) rfl ?_; clear hE a; intro a hE
                      refine WL.mapSet keyI hE hS 0 (k := x98) (v := true) (.inl rfl) (runs_plain rfl) rfl rfl rfl rfl mp64 rfl ?_; clear hE hS a w; intro a w hE hS
                      refine WL.nil ?_
                      refine W.region ?_
                      refine WL.vS hS hE (runs_plain rfl) (Gives.inc hE rfl (by have := h74.small; omega)) rfl ?_; clear hE a; intro a hE
                      refine WL.vS hS hE (runs_plain rfl) (Gives.p hE rfl) rfl ?_; clear hE a; intro a hE
                      refine WL.nil ?_
                      subst hK107
                      exact ⟨rest99.length, Nat.lt_succ_self _, rest99, k97 + 1, (mput q106 x98 true), rfl, hd100, hq95, hE.pick _ ⟨rfl, rfl, rfl, rfl, rfl, rfl, rfl, rfl, trivial⟩, hS⟩
              · clear hE hS a w; rintro a w ⟨q106, rfl, hE, hS⟩
                dsimp only at hq55
                refine W.region ?_
                refine WL.vS hS hE (runs_plain rfl) (Gives.inc hE rfl (by have := h0_1.small; omega)) rfl ?_; clear hE a; intro a hE
                refine WL.vS hS hE (runs_plain rfl) (Gives.p hE rfl) rfl ?_; clear hE a; intro a hE
                refine WL.nil ?_
                subst hK67
                exact ⟨rest59.length, Nat.lt_succ_self _, rest59, k57 + 1, q106, rfl, hd60, hq55, hE.pick _ ⟨rfl, rfl, rfl, rfl, rfl, trivial⟩, hS⟩
      · clear hE hS a w; rintro a w ⟨q66, rfl, hE, hS⟩
        dsimp only at hr
        refine W.seq ?_
        refine W.region ?_
        refine WL.vS hS hE (runs_plain rfl) (Gives.p hE rfl) rfl ?_; clear hE a; intro a hE
        refine WL.nil ?_
        refine W.ret ?_
        refine finG (fn := Tryd.f9) (rs := [.tmp 2]) (vs := [_]) hE rfl ⟨rfl, trivial⟩ ?_
        obtain rfl := Option.some.inj hr
        replace hS := hS.tail
        replace hS := hS.tail
        exact ⟨rfl, hS⟩
set_option maxHeartbeats 8000000 in
theorem FleetShunt_1_v1_ok  {w : World} {s : Sg} {R : List HP} {pb0 : Nat} {x0 : Int} {y0 : List Int} {a_y0_0 : Option Addr} {c_y0_0 : Nat} (hS : St w s (pt pb0 (.cells #[.slice a_y0_0 y0.length c_y0_0] 22 (0, 0)) :: R)) (_h_y0_0 : Sl 1 (RI .i64) s a_y0_0 c_y0_0 y0) {r : Bool} (hr : FleetShunt_1_v1 x0 y0 = r) :
    Calls Tryd.prog 11 [.int .i64 x0, .pointer (some ⟨pb0, 0, none⟩)].toArray w (fun e w => e = .returned (.bool r) ∧ St w s (pt pb0 (.cells #[.slice a_y0_0 y0.length c_y0_0] 22 (0, 0)) :: R)) := by
  refine enter Tryd.func11 rfl rfl rfl fun a hE => ?_
  rw [FleetShunt_1_v1] at hr
  refine W.seq ?_
  refine W.region ?_
  refine WL.vS hS hE (runs_plain rfl) (Gives.p hE rfl) rfl ?_; clear hE a; intro a hE
  refine WL.nil ?_
  refine W.seq ?_
  refine W.region ?_
  refine WL.vS hS hE (runs_plain rfl) (Gives.p hE rfl) rfl ?_; clear hE a; intro a hE
  refine WL.vS hS hE (runs_plain rfl) (Gives.loadB hE 0 rfl rfl rfl ty22) rfl ?_; clear hE a; intro a hE
  refine WL.vS hS hE (runs_plain rfl) (Gives.len hE rfl sl22) rfl ?_; clear hE a; intro a hE
  refine WL.vS hS hE (runs_plain rfl) (Gives.p hE rfl) rfl ?_; clear hE a; intro a hE
  refine WL.vS hS hE (runs_plain rfl) (Gives.p hE rfl) rfl ?_; clear hE a; intro a hE
  refine WL.nil ?_
  refine W.ret ?_
  refine finG (fn := Tryd.f11) (rs := [.tmp 3]) (vs := [_]) hE rfl ⟨rfl, trivial⟩ ?_
  subst hr
  exact ⟨rfl, hS⟩
set_option maxHeartbeats 8000000 in
theorem SlicesIndexFuncLint_v1_ok  {w : World} {s : Sg} {R : List HP} {pb0 : Nat} {x0 : List Int} {a0 : Option Addr} {c0 : Nat} {y0 : List Int} {a_y0_0 : Option Addr} {c_y0_0 : Nat} (hS : St w s (pt pb0 (.cells #[.slice a_y0_0 y0.length c_y0_0] 22 (0, 0)) :: R)) (h0 : Sl 1 (RI .i64) s a0 c0 x0) (h_y0_0 : Sl 1 (RI .i64) s a_y0_0 c_y0_0 y0) {r : Int} (hr : SlicesIndexFuncLint_v1 x0 y0 = r) :
    Calls Tryd.prog 22 [.slice a0 x0.length c0, .func (.func 11) #[] #[.pointer (some ⟨pb0, 0, none⟩)]].toArray w (fun e w => e = .returned (.int .i64 r) ∧ St w s (pt pb0 (.cells #[.slice a_y0_0 y0.length c_y0_0] 22 (0, 0)) :: R)) := by
  refine enter Tryd.func22 rfl rfl rfl fun a hE => ?_
  rw [SlicesIndexFuncLint_v1] at hr
  refine W.seq ?_
  refine W.region ?_
  refine WL.vS hS hE (runs_plain rfl) (Gives.p hE rfl) rfl ?_; clear hE a; intro a hE
  refine WL.nil ?_
  refine W.seq ?_
  refine W.seq ?_
  refine W.region ?_
  refine WL.vS hS hE (runs_plain rfl) (Gives.p hE rfl) rfl ?_; clear hE a; intro a hE
  refine WL.vS hS hE (runs_plain rfl) (Gives.len hE rfl sl22) rfl ?_; clear hE a; intro a hE
  refine WL.vS hS hE (runs_plain rfl) (Gives.p hE rfl) rfl ?_; clear hE a; intro a hE
  refine WL.nil ?_
  obtain ⟨q52, hq51, hr⟩ := bndS hr
  refine W.cut (fun a w => (.next ()) = q52 ∧ Rep a 19 [] ∧ St w s (pt pb0 (.cells #[.slice a_y0_0 y0.length c_y0_0] 22 (0, 0)) :: R)) ?_ ?_
  · refine W.block ?_
    refine W.loop (fun m a w => ∃ (rest55 : List Int) (k53 : Nat), rest55.length = m ∧ x0.drop k53 = rest55 ∧ SlicesIndexFuncLint_v1.loop1 y0 rest55 k53 = q52 ∧ Rep a 19 [(0, .slice a0 x0.length c0), (1, .func (.func 11) #[] #[.pointer (some ⟨pb0, 0, none⟩)]), (7, .int .i64 ((x0).length : Int)), (8, .int .i64 ((k53 : Nat) : Int))] ∧ St w s (pt pb0 (.cells #[.slice a_y0_0 y0.length c_y0_0] 22 (0, 0)) :: R)) (m := x0.length) ⟨x0, 0, rfl, rfl, hq51, hE.pick _ ⟨rfl, rfl, rfl, rfl, trivial⟩, hS⟩ ?_
    clear hE hS a w hq51; rintro m59 a w ⟨rest55, k53, rfl, hd56, hq51, hE, hS⟩
    refine W.gen fun K62 hK62 => ?_
    rcases rest55 with _ | ⟨x54, rest55⟩
    · have hlt57 := drop_nil hd56
      refine W.seq ?_
      refine W.region ?_
      refine WL.vS hS hE (runs_plain rfl) (Gives.p hE rfl) rfl ?_; clear hE a; intro a hE
      refine WL.nil ?_
      refine W.seq ?_
      refine W.condF hE rfl (decide_eq_false (by omega)) ?_
      subst hK62
      refine W.exit rfl ?_
      exact ⟨hq51, hE.pick _ trivial, hS⟩
    · obtain ⟨hlt57, hx58, hd56⟩ := drop_cons hd56
      rw [SlicesIndexFuncLint_v1.loop1] at hq51
      refine W.seq ?_
      refine W.region ?_
      refine WL.vS hS hE (runs_plain rfl) (Gives.p hE rfl) rfl ?_; clear hE a; intro a hE
      refine WL.nil ?_
      refine W.seq ?_
      refine W.condT hE rfl (decide_eq_true (by omega)) ?_
      refine W.skip ?_
      refine W.seq ?_
      refine W.block ?_
      refine W.seq ?_
      refine W.region ?_
      refine WL.vS hS hE (runs_plain rfl) (Gives.p hE rfl) rfl ?_; clear hE a; intro a hE
      refine WL.vS hS hE (runs_plain rfl) (Gives.p hE rfl) rfl ?_; clear hE a; intro a hE
      refine WL.nil ?_
      refine W.seq ?_
      refine W.region ?_
      refine WL.vS hS hE (runs_plain rfl) (Gives.p hE rfl) rfl ?_; clear hE a; intro a hE
      refine WL.vS hS hE (runs_plain rfl) (Gives.p hE rfl) rfl ?_; clear hE a; intro a hE
      refine WL.vS hS hE (runs_plain rfl) (Gives.p hE rfl) rfl ?_; clear hE a; intro a hE
      obtain ⟨cs63, hl64, hR65, hat66⟩ := h0.at hx58
      subst hR65
      refine WL.vS hS hE (runs_plain rfl) (Gives.idx hE k53 rfl rfl sl22 rfl hlt57 (h0.aok hlt57)) rfl ?_; clear hE a; intro a hE
      refine WL.vS hS hE (runs_plain rfl) (Gives.load1 hE rfl (fun w h => hat66 w _ h) ty3) rfl ?_; clear hE a; intro a hE
      refine WL.fnw hE (FleetShunt_1_v1_ok hS h_y0_0 rfl (r := FleetShunt_1_v1 x54 y0)) rfl (runs_plain rfl) bd11 rfl rfl rfl ?_
      clear hE hS; rintro e w ⟨rfl, hS⟩; refine ⟨_, rfl, ?_⟩; clear a; intro a hE
      refine WL.nil ?_
      refine W.cond hE rfl (fun hc67 => ?_) (fun hc67 => ?_)
      · replace hq51 := iteT hc67 hq51
        refine W.seq ?_
        refine W.region ?_
        refine WL.vS hS hE (runs_plain rfl) (Gives.p hE rfl) rfl ?_; clear hE a; intro a hE
        refine WL.vS hS hE (runs_plain rfl) (Gives.p hE rfl) rfl ?_; clear hE a; intro a hE
        refine WL.nil ?_
        refine W.ret ?_
        subst hK62
        rw [← hq51] at hr
        dsimp only at hr
        refine finG (fn := Tryd.f22) (rs := [.tmp 4]) (vs := [_]) hE rfl ⟨rfl, trivial⟩ ?_
        subst hr
        exact ⟨rfl, hS⟩
      · replace hq51 := iteF hc67 hq51
        refine W.skip ?_
        refine W.region ?_
        refine WL.vS hS hE (runs_plain rfl) (Gives.inc hE rfl (by have := h0.small; omega)) rfl ?_; clear hE a; intro a hE
        refine WL.vS hS hE (runs_plain rfl) (Gives.p hE rfl) rfl ?_; clear hE a; intro a hE
        refine WL.nil ?_
        subst hK62
        exact ⟨rest55.length, Nat.lt_succ_self _, rest55, k53 + 1, rfl, hd56, hq51, hE.pick _ ⟨rfl, rfl, rfl, rfl, trivial⟩, hS⟩
  · clear hE hS a w; rintro a w ⟨rfl, hE, hS⟩
    dsimp only at hr
    refine W.seq ?_
    refine W.region ?_
    refine WL.vS hS hE (runs_plain rfl) (Gives.p hE rfl) rfl ?_; clear hE a; intro a hE
    refine WL.nil ?_
    refine W.ret ?_
    refine finG (fn := Tryd.f22) (rs := [.tmp 4]) (vs := [_]) hE rfl ⟨rfl, trivial⟩ ?_
    subst hr
    exact ⟨rfl, hS⟩
set_option maxHeartbeats 8000000 in
theorem SlicesContainsFuncLint_v1_ok  {w : World} {s : Sg} {R : List HP} {pb0 : Nat} {x0 : List Int} {a0 : Option Addr} {c0 : Nat} {y0 : List Int} {a_y0_0 : Option Addr} {c_y0_0 : Nat} (hS : St w s (pt pb0 (.cells #[.slice a_y0_0 y0.length c_y0_0] 22 (0, 0)) :: R)) (h0 : Sl 1 (RI .i64) s a0 c0 x0) (h_y0_0 : Sl 1 (RI .i64) s a_y0_0 c_y0_0 y0) {r : Bool} (hr : SlicesContainsFuncLint_v1 x0 y0 = r) :
    Calls Tryd.prog 10 [.slice a0 x0.length c0, .func (.func 11) #[] #[.pointer (some ⟨pb0, 0, none⟩)]].toArray w (fun e w => e = .returned (.bool r) ∧ St w s (pt pb0 (.cells #[.slice a_y0_0 y0.length c_y0_0] 22 (0, 0)) :: R)) := by
  refine enter Tryd.func10 rfl rfl rfl fun a hE => ?_
  rw [SlicesContainsFuncLint_v1] at hr
  refine W.seq ?_
  refine W.region ?_
  refine WL.vS hS hE (runs_plain rfl) (Gives.p hE rfl) rfl ?_; clear hE a; intro a hE
  refine WL.nil ?_
  refine W.seq ?_
  refine W.region ?_
  refine WL.vS hS hE (runs_plain rfl) (Gives.p hE rfl) rfl ?_; clear hE a; intro a hE
  refine WL.vS hS hE (runs_plain rfl) (Gives.p hE rfl) rfl ?_; clear hE a; intro a hE
  refine WL.fnq hE (SlicesIndexFuncLint_v1_ok hS h0 h_y0_0 rfl (r := SlicesIndexFuncLint_v1 x0 y0)) (runs_plain rfl) bd22 rfl rfl rfl ?_
  clear hE hS; rintro e w ⟨rfl, hS⟩; refine ⟨_, rfl, ?_⟩; clear a; intro a hE
  refine WL.vS hS hE (runs_plain rfl) (Gives.p hE rfl) rfl ?_; clear hE a; intro a hE
  refine WL.vS hS hE (runs_plain rfl) (Gives.p hE rfl) rfl ?_; clear hE a; intro a hE
  refine WL.nil ?_
  refine W.ret ?_
  refine finG (fn := Tryd.f10) (rs := [.tmp 4]) (vs := [_]) hE rfl ⟨rfl, trivial⟩ ?_
  subst hr
  exact ⟨rfl, hS⟩
set_option maxHeartbeats 8000000 in
theorem FleetstateOf_ok  {w : World} {s : Sg} {R : List HP} {x0 : FleetDepot} {a0_0 : Option Addr} {c0_0 : Nat} {a0_1 : Option Addr} {c0_1 : Nat} (hS : St w s (R)) (_h0_0 : Sl 1 (RI .i64) s a0_0 c0_0 x0.Room) (h0_1 : Sl 1 (RL 1 (RI .i64)) s a0_1 c0_1 x0.Tracks) {r : (List Int)} (hr : FleetstateOf x0 = some r) :
    Calls Tryd.prog 12 [.agg [.slice a0_0 x0.Room.length c0_0, .slice a0_1 x0.Tracks.length c0_1].toArray].toArray w (fun e w => ∃ (cs0 : List Value), e = .returned (.agg cs0.toArray) ∧ RA .i64 16 s cs0 r ∧ St w s (R)) := by
  refine enter Tryd.func12 rfl rfl rfl fun a hE => ?_
  rw [FleetstateOf] at hr
  refine W.seq ?_
  refine W.region ?_
  refine WL.box hE hS (runs_plain rfl) rfl rfl rfl ?_; clear hE hS a w; intro b51 a w hE hS
  refine WL.alloc hE hS (runs_plain rfl) zr41 rfl ?_; clear hE hS a w; intro b52 a w hE hS
  replace hS := hS.ptVec (es := 1) (m := 16) rfl (by decide)
  have h53 : Ev 1 (RI .i64) s [.int .i64 0, .int .i64 0, .int .i64 0, .int .i64 0, .int .i64 0, .int .i64 0, .int .i64 0, .int .i64 0, .int .i64 0, .int .i64 0, .int .i64 0, .int .i64 0, .int .i64 0, .int .i64 0, .int .i64 0, .int .i64 0] [0, 0, 0, 0, 0, 0, 0, 0, 0, 0, 0, 0, 0, 0, 0, 0] := (Ev.cons (c1 := [.int .i64 0]) rfl rfl (Ev.cons (c1 := [.int .i64 0]) rfl rfl (Ev.cons (c1 := [.int .i64 0]) rfl rfl (Ev.cons (c1 := [.int .i64 0]) rfl rfl (Ev.cons (c1 := [.int .i64 0]) rfl rfl (Ev.cons (c1 := [.int .i64 0]) rfl rfl (Ev.cons (c1 := [.int .i64 0]) rfl rfl (Ev.cons (c1 := [.int .i64 0]) rfl rfl (Ev.cons (c1 := [.int .i64 0]) rfl rfl (Ev.cons (c1 := [.int .i64 0]) rfl rfl (Ev.cons (c1 := [.int .i64 0]) rfl rfl (Ev.cons (c1 := [.int .i64 0]) rfl rfl (Ev.cons (c1 := [.int .i64 0]) rfl rfl (Ev.cons (c1 := [.int .i64 0]) rfl rfl (Ev.cons (c1 := [.int .i64 0]) rfl rfl (Ev.cons (c1 := [.int .i64 0]) rfl rfl (Ev.nil)))))))))))))))))
  refine WL.nil ?_
  refine W.seq ?_
  refine W.region ?_
  refine WL.alloc hE hS (runs_plain rfl) zr41 rfl ?_; clear hE hS a w; intro b55 a w hE hS
  replace hS := hS.ptVec (es := 1) (m := 16) rfl (by decide)
  have h56 : Ev 1 (RI .i64) s [.int .i64 0, .int .i64 0, .int .i64 0, .int .i64 0, .int .i64 0, .int .i64 0, .int .i64 0, .int .i64 0, .int .i64 0, .int .i64 0, .int .i64 0, .int .i64 0, .int .i64 0, .int .i64 0, .int .i64 0, .int .i64 0] [0, 0, 0, 0, 0, 0, 0, 0, 0, 0, 0, 0, 0, 0, 0, 0] := (Ev.cons (c1 := [.int .i64 0]) rfl rfl (Ev.cons (c1 := [.int .i64 0]) rfl rfl (Ev.cons (c1 := [.int .i64 0]) rfl rfl (Ev.cons (c1 := [.int .i64 0]) rfl rfl (Ev.cons (c1 := [.int .i64 0]) rfl rfl (Ev.cons (c1 := [.int .i64 0]) rfl rfl (Ev.cons (c1 := [.int .i64 0]) rfl rfl (Ev.cons (c1 := [.int .i64 0]) rfl rfl (Ev.cons (c1 := [.int .i64 0]) rfl rfl (Ev.cons (c1 := [.int .i64 0]) rfl rfl (Ev.cons (c1 := [.int .i64 0]) rfl rfl (Ev.cons (c1 := [.int .i64 0]) rfl rfl (Ev.cons (c1 := [.int .i64 0]) rfl rfl (Ev.cons (c1 := [.int .i64 0]) rfl rfl (Ev.cons (c1 := [.int .i64 0]) rfl rfl (Ev.cons (c1 := [.int .i64 0]) rfl rfl (Ev.nil)))))))))))))))))
  refine WL.nil ?_
  refine W.seq ?_
  refine W.seq ?_
  refine W.region ?_
  refine WL.vS hS hE (runs_plain rfl) (Gives.fld hE rfl fl25_1) rfl ?_; clear hE a; intro a hE
  refine WL.vS hS hE (runs_plain rfl) (Gives.loadB hE 2 rfl rfl rfl ty23) rfl ?_; clear hE a; intro a hE
  refine WL.vS hS hE (runs_plain rfl) (Gives.len hE rfl sl23) rfl ?_; clear hE a; intro a hE
  refine WL.vS hS hE (runs_plain rfl) (Gives.p hE rfl) rfl ?_; clear hE a; intro a hE
  refine WL.nil ?_
  obtain ⟨q59, hq58, hr⟩ := bindS hr
  refine W.cut (fun a w => ∃ (q69 : List Int), ∃ (cs73 : List Value), q69 = q59 ∧ Ev 1 (RI .i64) s cs73 q69 ∧ q69.length = 16 ∧ Rep a 32 [(2, .pointer (some ⟨b52, 0, none⟩)), (3, .pointer (some ⟨b55, 0, none⟩))] ∧ St w s (vecC 41 1 (some ⟨b55, 0, none⟩) 16 16 cs73 :: vecC 41 1 (some ⟨b52, 0, none⟩) 16 16 [.int .i64 0, .int .i64 0, .int .i64 0, .int .i64 0, .int .i64 0, .int .i64 0, .int .i64 0, .int .i64 0, .int .i64 0, .int .i64 0, .int .i64 0, .int .i64 0, .int .i64 0, .int .i64 0, .int .i64 0, .int .i64 0] :: pt b51 (.cells #[.slice a0_0 x0.Room.length c0_0, .slice a0_1 x0.Tracks.length c0_1] 25 (0, 0)) :: R)) ?_ ?_
  · refine W.block ?_
    refine W.loop (fun m a w => ∃ (rest62 : List (List Int)) (k60 : Nat), ∃ (q69 : List Int), ∃ (cs73 : List Value), rest62.length = m ∧ x0.Tracks.drop k60 = rest62 ∧ FleetstateOf.loop1 rest62 k60 q69 = some q59 ∧ Ev 1 (RI .i64) s cs73 q69 ∧ q69.length = 16 ∧ Rep a 32 [(2, .pointer (some ⟨b52, 0, none⟩)), (3, .pointer (some ⟨b55, 0, none⟩)), (9, .slice a0_1 x0.Tracks.length c0_1), (10, .int .i64 ((x0.Tracks).length : Int)), (11, .int .i64 ((k60 : Nat) : Int))] ∧ St w s (vecC 41 1 (some ⟨b55, 0, none⟩) 16 16 cs73 :: vecC 41 1 (some ⟨b52, 0, none⟩) 16 16 [.int .i64 0, .int .i64 0, .int .i64 0, .int .i64 0, .int .i64 0, .int .i64 0, .int .i64 0, .int .i64 0, .int .i64 0, .int .i64 0, .int .i64 0, .int .i64 0, .int .i64 0, .int .i64 0, .int .i64 0, .int .i64 0] :: pt b51 (.cells #[.slice a0_0 x0.Room.length c0_0, .slice a0_1 x0.Tracks.length c0_1] 25 (0, 0)) :: R)) (m := x0.Tracks.length) ⟨x0.Tracks, 0, [0, 0, 0, 0, 0, 0, 0, 0, 0, 0, 0, 0, 0, 0, 0, 0], [.int .i64 0, .int .i64 0, .int .i64 0, .int .i64 0, .int .i64 0, .int .i64 0, .int .i64 0, .int .i64 0, .int .i64 0, .int .i64 0, .int .i64 0, .int .i64 0, .int .i64 0, .int .i64 0, .int .i64 0, .int .i64 0], rfl, rfl, hq58, h56, (rfl), hE.pick _ ⟨rfl, rfl, rfl, rfl, rfl, trivial⟩, hS⟩ ?_
    clear hE hS a w hq58; rintro m66 a w ⟨rest62, k60, q69, cs73, rfl, hd63, hq58, h72, hn74, hE, hS⟩
    refine W.gen fun K75 hK75 => ?_
    rcases rest62 with _ | ⟨x61, rest62⟩
    · have hlt64 := drop_nil hd63
      refine W.seq ?_
      refine W.region ?_
      refine WL.vS hS hE (runs_plain rfl) (Gives.p hE rfl) rfl ?_; clear hE a; intro a hE
      refine WL.nil ?_
      refine W.seq ?_
      refine W.condF hE rfl (decide_eq_false (by omega)) ?_
      subst hK75
      refine W.exit rfl ?_
      exact ⟨q69, cs73, Option.some.inj hq58, h72, hn74, hE.pick _ ⟨rfl, rfl, trivial⟩, hS⟩
    · obtain ⟨hlt64, hx65, hd63⟩ := drop_cons hd63
      rw [FleetstateOf.loop1] at hq58
      refine W.seq ?_
      refine W.region ?_
      refine WL.vS hS hE (runs_plain rfl) (Gives.p hE rfl) rfl ?_; clear hE a; intro a hE
      refine WL.nil ?_
      refine W.seq ?_
      refine W.condT hE rfl (decide_eq_true (by omega)) ?_
      refine W.skip ?_
      refine W.seq ?_
      refine W.block ?_
      refine W.seq ?_
      refine W.region ?_
      refine WL.vS hS hE (runs_plain rfl) (Gives.p hE rfl) rfl ?_; clear hE a; intro a hE
      obtain ⟨cs76, hl77, hR78, hat79⟩ := h0_1.at hx65
      obtain ⟨a80, c81, rfl, h82⟩ := hR78
      refine WL.vS hS hE (runs_plain rfl) (Gives.idx hE k60 rfl rfl sl23 rfl hlt64 (h0_1.aok hlt64)) rfl ?_; clear hE a; intro a hE
      refine WL.vS hS hE (runs_plain rfl) (Gives.load1 hE rfl (fun w h => hat79 w _ h) ty22) rfl ?_; clear hE a; intro a hE
      refine WL.vS hS hE (runs_plain rfl) (Gives.p hE rfl) rfl ?_; clear hE a; intro a hE
      refine WL.vS hS hE (runs_plain rfl) (Gives.p hE rfl) rfl ?_; clear hE a; intro a hE
      refine WL.nil ?_
      refine W.seq ?_
      refine W.region ?_
      refine WL.vS hS hE (runs_plain rfl) (Gives.p hE rfl) rfl ?_; clear hE a; intro a hE
      refine WL.vS hS hE (runs_plain rfl) (Gives.len hE rfl sl22) rfl ?_; clear hE a; intro a hE
      refine WL.vS hS hE (runs_plain rfl) (Gives.p hE rfl) rfl ?_; clear hE a; intro a hE
      refine WL.nil ?_
      obtain ⟨q84, hq83, hq58⟩ := bindS hq58
      refine W.cut (fun a w => ∃ (q94 : List Int), ∃ (cs98 : List Value), q94 = q84 ∧ Ev 1 (RI .i64) s cs98 q94 ∧ q94.length = 16 ∧ Rep a 32 [(2, .pointer (some ⟨b52, 0, none⟩)), (3, .pointer (some ⟨b55, 0, none⟩)), (9, .slice a0_1 x0.Tracks.length c0_1), (10, .int .i64 ((x0.Tracks).length : Int)), (11, .int .i64 ((k60 : Nat) : Int))] ∧ St w s (vecC 41 1 (some ⟨b55, 0, none⟩) 16 16 cs98 :: vecC 41 1 (some ⟨b52, 0, none⟩) 16 16 [.int .i64 0, .int .i64 0, .int .i64 0, .int .i64 0, .int .i64 0, .int .i64 0, .int .i64 0, .int .i64 0, .int .i64 0, .int .i64 0, .int .i64 0, .int .i64 0, .int .i64 0, .int .i64 0, .int .i64 0, .int .i64 0] :: pt b51 (.cells #[.slice a0_0 x0.Room.length c0_0, .slice a0_1 x0.Tracks.length c0_1] 25 (0, 0)) :: R)) ?_ ?_
      · refine W.block ?_
        refine W.loop (fun m a w => ∃ (rest87 : List Int) (k85 : Nat), ∃ (q94 : List Int), ∃ (cs98 : List Value), rest87.length = m ∧ x61.drop k85 = rest87 ∧ FleetstateOf.loop2 k60 rest87 k85 q94 = some q84 ∧ Ev 1 (RI .i64) s cs98 q94 ∧ q94.length = 16 ∧ Rep a 32 [(2, .pointer (some ⟨b52, 0, none⟩)), (3, .pointer (some ⟨b55, 0, none⟩)), (4, .int .i64 ((k60 : Nat) : Int)), (9, .slice a0_1 x0.Tracks.length c0_1), (10, .int .i64 ((x0.Tracks).length : Int)), (11, .int .i64 ((k60 : Nat) : Int)), (16, .slice a80 x61.length c81), (17, .int .i64 ((x61).length : Int)), (18, .int .i64 ((k85 : Nat) : Int))] ∧ St w s (vecC 41 1 (some ⟨b55, 0, none⟩) 16 16 cs98 :: vecC 41 1 (some ⟨b52, 0, none⟩) 16 16 [.int .i64 0, .int .i64 0, .int .i64 0, .int .i64 0, .int .i64 0, .int .i64 0, .int .i64 0, .int .i64 0, .int .i64 0, .int .i64 0, .int .i64 0, .int .i64 0, .int .i64 0, .int .i64 0, .int .i64 0, .int .i64 0] :: pt b51 (.cells #[.slice a0_0 x0.Room.length c0_0, .slice a0_1 x0.Tracks.length c0_1] 25 (0, 0)) :: R)) (m := x61.length) ⟨x61, 0, q69, cs73, rfl, rfl, hq83, h72, hn74, hE.pick _ ⟨rfl, rfl, rfl, rfl, rfl, rfl, rfl, rfl, rfl, trivial⟩, hS⟩ ?_
        clear hE hS a w hq83; rintro m91 a w ⟨rest87, k85, q94, cs98, rfl, hd88, hq83, h97, hn99, hE, hS⟩
        refine W.gen fun K100 hK100 => ?_
        rcases rest87 with _ | ⟨x86, rest87⟩
        · have hlt89 := drop_nil hd88
          refine W.seq ?_
          refine W.region ?_
          refine WL.vS hS hE (runs_plain rfl) (Gives.p hE rfl) rfl ?_; clear hE a; intro a hE
          refine WL.nil ?_
          refine W.seq ?_
          refine W.condF hE rfl (decide_eq_false (by omega)) ?_
          subst hK100
          refine W.exit rfl ?_
          exact ⟨q94, cs98, Option.some.inj hq83, h97, hn99, hE.pick _ ⟨rfl, rfl, rfl, rfl, rfl, trivial⟩, hS⟩
        · obtain ⟨hlt89, hx90, hd88⟩ := drop_cons hd88
          rw [FleetstateOf.loop2] at hq83
          refine W.seq ?_
          refine W.region ?_
          refine WL.vS hS hE (runs_plain rfl) (Gives.p hE rfl) rfl ?_; clear hE a; intro a hE
          refine WL.nil ?_
          refine W.seq ?_
          refine W.condT hE rfl (decide_eq_true (by omega)) ?_
          refine W.skip ?_
          refine W.seq ?_
          refine W.block ?_
          refine W.seq ?_
          refine W.region ?_
          refine WL.vS hS hE (runs_plain rfl) (Gives.p hE rfl) rfl ?_; clear hE a; intro a hE
          obtain ⟨cs101, hl102, hR103, hat104⟩ := h82.at hx90
          subst hR103
          refine WL.vS hS hE (runs_plain rfl) (Gives.idx hE k85 rfl rfl sl22 rfl hlt89 (h82.aok hlt89)) rfl ?_; clear hE a; intro a hE
          refine WL.vS hS hE (runs_plain rfl) (Gives.load1 hE rfl (fun w h => hat104 w _ h) ty3) rfl ?_; clear hE a; intro a hE
          refine WL.vS hS hE (runs_plain rfl) (Gives.p hE rfl) rfl ?_; clear hE a; intro a hE
          refine WL.vS hS hE (runs_plain rfl) (Gives.p hE rfl) rfl ?_; clear hE a; intro a hE
          refine WL.nil ?_
          refine W.region ?_
          refine WL.vS hS hE (runs_plain rfl) (Gives.p hE rfl) rfl ?_; clear hE a; intro a hE
          refine WL.vS hS hE (runs_plain rfl) (Gives.p hE rfl) rfl ?_; clear hE a; intro a hE
          refine WL.vS hS hE (runs_plain rfl) (Gives.p hE rfl) rfl ?_; clear hE a; intro a hE
          refine WL.vS hS hE (runs_plain rfl) (Gives.p hE rfl) rfl ?_; clear hE a; intro a hE
          obtain ⟨_, hx105, hq83⟩ := bindS hq83
          obtain ⟨h106, h107⟩ := bx_some hx105
          refine WL.vS hS hE (runs_plain rfl) (Gives.idxG hE ((((k60 : Nat) : Int)).toNat) rfl rfl an41 h106 h107 (hS.vecAok 0 rfl (k := 0) (by decide)) rfl) rfl ?_; clear hE a; intro a hE
          obtain ⟨_, hx108, hq83⟩ := bindS hq83
          obtain ⟨h109, h110⟩ := bx_some hx108
          refine WL.vS hS hE (runs_plain rfl) (Gives.idxG hE ((((k85 : Nat) : Int)).toNat) rfl rfl an39 h109 h110 ⟨_, _, rfl⟩ (by show ao (some ⟨b55, 0, none⟩) + (((k60 : Nat) : Int)).toNat * 4 + (((k85 : Nat) : Int)).toNat * 1 = ao (some ⟨b55, 0, none⟩) + ((((k60 : Nat) : Int) * 4 + ((k85 : Nat) : Int))).toNat * 1; omega)) rfl ?_; clear hE a; intro a hE
          obtain ⟨x111, hx112, hq83⟩ := bindS hq83
          refine WL.setD hE hS 0 rfl (runs_plain rfl) rfl rfl (vs := [.int .i64 (w64 (x86 + 1))]) rfl ty3 rfl rfl rfl h97 hn99 (sx_some hx112).1 hx112 rfl rfl ?_; clear hE hS a w; intro cs113 a w h114 hn115 hE hS
          refine WL.nil ?_
          refine W.region ?_
          refine WL.vS hS hE (runs_plain rfl) (Gives.inc hE rfl (by have := h82.small; omega)) rfl ?_; clear hE a; intro a hE
          refine WL.vS hS hE (runs_plain rfl) (Gives.p hE rfl) rfl ?_; clear hE a; intro a hE
          refine WL.nil ?_
          subst hK100
          exact ⟨rest87.length, Nat.lt_succ_self _, rest87, k85 + 1, x111, cs113, rfl, hd88, hq83, h114, hn115, hE.pick _ ⟨rfl, rfl, rfl, rfl, rfl, rfl, rfl, rfl, rfl, trivial⟩, hS⟩
      · clear hE hS a w; rintro a w ⟨q94, cs98, rfl, h97, hn99, hE, hS⟩
        refine W.region ?_
        refine WL.vS hS hE (runs_plain rfl) (Gives.inc hE rfl (by have := h0_1.small; omega)) rfl ?_; clear hE a; intro a hE
        refine WL.vS hS hE (runs_plain rfl) (Gives.p hE rfl) rfl ?_; clear hE a; intro a hE
        refine WL.nil ?_
        subst hK75
        exact ⟨rest62.length, Nat.lt_succ_self _, rest62, k60 + 1, q94, cs98, rfl, hd63, hq58, h97, hn99, hE.pick _ ⟨rfl, rfl, rfl, rfl, rfl, trivial⟩, hS⟩
  · clear hE hS a w; rintro a w ⟨q69, cs73, rfl, h72, hn74, hE, hS⟩
    refine W.seq ?_
    refine W.region ?_
    refine WL.vS hS hE (runs_plain rfl) (Gives.loadArr hE 0 rfl rfl (by decide) ty41) rfl ?_; clear hE a; intro a hE
    have h116 : Ev 1 (RI .i64) s cs73 q69 := h72
    have hn117 : (q69).length = 16 := hn74
    refine WL.storeArr hE hS 1 rfl (runs_plain rfl) rfl rfl rfl ty41 (by decide) (by first | rfl | (rw [h116.ints]; simp [List.all_map, Function.comp_def, Value.oneCell'])) h116 hn117 rfl ?_; clear hE hS a w; intro a w hE hS
    refine WL.nil ?_
    refine W.ret ?_
    refine finG (fn := Tryd.f12) (rs := [.cell 2 41]) (vs := [_]) hE rfl ⟨⟨_, rfl, .inl ⟨cs73, rfl, hS.vecSees 1 rfl 0 cs73 (fun j v hj => by simpa using hj), (by have hq_ := h116.len; have hq2_ := hn117; rw [show List.length cs73 = 16 by omega]; exact ty41)⟩⟩, trivial⟩ ?_
    obtain rfl := Option.some.inj hr
    replace hS := hS.tail
    replace hS := hS.tail
    replace hS := hS.tail
    exact ⟨cs73, rfl, ⟨h116.ints, hn117⟩, hS⟩
set_option maxHeartbeats 8000000 in
theorem FleetQueueputfleettry_v1_ok  {w : World} {s : Sg} {R : List HP} {pb0 : Nat} {x1 : FleetTry} {a1_0 : Option Addr} {c1_0 : Nat} {a1_1 : Option Addr} {c1_1 : Nat} {a1_2 : Option Addr} {c1_2 : Nat} {y0 : FleetQueueTry} {a_v0 : Option Addr} {c_v0 n_v0 : Nat} {cs_v0 : List Value} (hS : St w s (pt pb0 (.cells #[.slice a_v0 n_v0 c_v0] 47 (0, 0)) :: vecC 50 4 a_v0 c_v0 n_v0 cs_v0 :: R)) (h1_0 : Sl 1 (RI .i64) s a1_0 c1_0 x1.depot.Room) (h1_1 : Sl 1 (RL 1 (RI .i64)) s a1_1 c1_1 x1.depot.Tracks) (h1_2 : Sl 2 RFleetMove s a1_2 c1_2 x1.moves) (h_v0 : Ev 4 RFleetTry s cs_v0 y0.list) (hn_v0 : y0.list.length = n_v0) {r : (List FleetTry)} (hr : FleetQueueputfleettry_v1 x1 y0 = some r) :
    Calls Tryd.prog 13 [.pointer (some ⟨pb0, 0, none⟩), .agg [.slice a1_0 x1.depot.Room.length c1_0, .slice a1_1 x1.depot.Tracks.length c1_1, .int .i64 x1.left, .slice a1_2 x1.moves.length c1_2].toArray].toArray w (fun e w => ∃ (a52 : Option Addr) (c53 : Nat) (n55 : Nat) (cs56 : List Value), e = .returned (.tuple #[]) ∧ Ev 4 RFleetTry s cs56 r ∧ r.length = n55 ∧ St w s (pt pb0 (.cells #[.slice a52 n55 c53] 47 (0, 0)) :: vecC 50 4 a52 c53 n55 cs56 :: R)) := by
  refine enter Tryd.func13 rfl rfl rfl fun a hE => ?_
  rw [FleetQueueputfleettry_v1] at hr
  subst hn_v0
  refine W.seq ?_
  refine W.region ?_
  refine WL.box hE hS (runs_plain rfl) rfl rfl rfl ?_; clear hE hS a w; intro b58 a w hE hS
  refine WL.nil ?_
  refine W.gen fun K59 hK59 => ?_
  refine W.regionE (sel (fun w => St w s (pt b58 (.cells #[.slice a1_0 x1.depot.Room.length c1_0, .slice a1_1 x1.depot.Tracks.length c1_1, .int .i64 x1.left, .slice a1_2 x1.moves.length c1_2] 50 (0, 0)) :: pt pb0 (.cells #[.slice a_v0 y0.list.length c_v0] 47 (0, 0)) :: vecC 50 4 a_v0 c_v0 y0.list.length cs_v0 :: R)) (fun w => St w s (pt b58 (.cells #[.slice a1_0 x1.depot.Room.length c1_0, .slice a1_1 x1.depot.Tracks.length c1_1, .int .i64 x1.left, .slice a1_2 x1.moves.length c1_2] 50 (0, 0)) :: pt pb0 (.cells #[.slice a_v0 y0.list.length c_v0] 47 (0, 0)) :: R))) (fun b i => cond b ([0, 1, 2, 3, 4, 5, 6, 8, 9].contains i) ([0, 1, 2, 3, 4, 5, 6, 7, 8, 9].contains i)) mixed ?_
  replace hS := hS.drew
  refine Rg.takeP (i := 0) hE rfl (by kernel_rfl) (runs_plain rfl) (Gives.p hE rfl) rfl (tw_sel (fun _ => hS) (fun _ => (hS.dropAt 2))) ?_; clear hE a; intro a hE
  refine Rg.takeP (i := 1) hE rfl (by kernel_rfl) (runs_plain rfl) (Gives.p hE rfl) rfl (tw_sel (fun _ => hS) (fun _ => (hS.dropAt 2))) ?_; clear hE a; intro a hE
  have hT := tw_sel (A := fun w => St w s (pt b58 (.cells #[.slice a1_0 x1.depot.Room.length c1_0, .slice a1_1 x1.depot.Tracks.length c1_1, .int .i64 x1.left, .slice a1_2 x1.moves.length c1_2] 50 (0, 0)) :: pt pb0 (.cells #[.slice a_v0 y0.list.length c_v0] 47 (0, 0)) :: vecC 50 4 a_v0 c_v0 y0.list.length cs_v0 :: R)) (B := fun w => St w s (pt b58 (.cells #[.slice a1_0 x1.depot.Room.length c1_0, .slice a1_1 x1.depot.Tracks.length c1_1, .int .i64 x1.left, .slice a1_2 x1.moves.length c1_2] 50 (0, 0)) :: pt pb0 (.cells #[.slice a_v0 y0.list.length c_v0] 47 (0, 0)) :: R)) (w := _) (x := true) (y := true) (fun _ => hS) (fun _ => (hS.dropAt 2))
  have hF := hS; replace hS := (hS.dropAt 2)
  refine Rg.take (i := 2) false rfl hE rfl (by kernel_rfl) (runs_plain rfl) (Gives.nilOk hE rfl) rfl hT ?_; clear hE a; intro a hE
  replace hS := hF; clear hF hT
  refine Rg.takeP (i := 3) hE rfl (by kernel_rfl) (runs_plain rfl) (Gives.fld hE rfl fl47_0) rfl (tw_sel (fun _ => hS) (fun _ => (hS.dropAt 2))) ?_; clear hE a; intro a hE
  have hT := tw_sel (A := fun w => St w s (pt b58 (.cells #[.slice a1_0 x1.depot.Room.length c1_0, .slice a1_1 x1.depot.Tracks.length c1_1, .int .i64 x1.left, .slice a1_2 x1.moves.length c1_2] 50 (0, 0)) :: pt pb0 (.cells #[.slice a_v0 y0.list.length c_v0] 47 (0, 0)) :: vecC 50 4 a_v0 c_v0 y0.list.length cs_v0 :: R)) (B := fun w => St w s (pt b58 (.cells #[.slice a1_0 x1.depot.Room.length c1_0, .slice a1_1 x1.depot.Tracks.length c1_1, .int .i64 x1.left, .slice a1_2 x1.moves.length c1_2] 50 (0, 0)) :: pt pb0 (.cells #[.slice a_v0 y0.list.length c_v0] 47 (0, 0)) :: R)) (w := _) (x := true) (y := true) (fun _ => hS) (fun _ => (hS.dropAt 2))
  have hF := hS; replace hS := hS
  refine Rg.take (i := 4) true rfl hE rfl (by kernel_rfl) (runs_plain rfl) (Gives.loadB hE 1 rfl rfl rfl ty45) rfl hT ?_; clear hE a; intro a hE
  replace hS := hF; clear hF hT
  have hT := tw_sel (A := fun w => St w s (pt b58 (.cells #[.slice a1_0 x1.depot.Room.length c1_0, .slice a1_1 x1.depot.Tracks.length c1_1, .int .i64 x1.left, .slice a1_2 x1.moves.length c1_2] 50 (0, 0)) :: pt pb0 (.cells #[.slice a_v0 y0.list.length c_v0] 47 (0, 0)) :: vecC 50 4 a_v0 c_v0 y0.list.length cs_v0 :: R)) (B := fun w => St w s (pt b58 (.cells #[.slice a1_0 x1.depot.Room.length c1_0, .slice a1_1 x1.depot.Tracks.length c1_1, .int .i64 x1.left, .slice a1_2 x1.moves.length c1_2] 50 (0, 0)) :: pt pb0 (.cells #[.slice a_v0 y0.list.length c_v0] 47 (0, 0)) :: R)) (w := _) (x := true) (y := true) (fun _ => hS) (fun _ => (hS.dropAt 2))
  have hF := hS; replace hS := (hS.dropAt 2)
  refine Rg.take (i := 5) false rfl hE rfl (by kernel_rfl) (runs_plain rfl) (Gives.loadBA hE 0 rfl rfl ty50) rfl hT ?_; clear hE a; intro a hE
  replace hS := hF; clear hF hT
  refine Rg.one (i := 6) true true rfl (by kernel_rfl) (by kernel_rfl) (by kernel_rfl) ?_
  refine WL.lit hE hS (e := 50) (es := 4) (vs := [(0, .agg [.slice a1_0 x1.depot.Room.length c1_0, .slice a1_1 x1.depot.Tracks.length c1_1, .int .i64 x1.left, .slice a1_2 x1.moves.length c1_2].toArray)]) (cs := [.slice a1_0 x1.depot.Room.length c1_0, .slice a1_1 x1.depot.Tracks.length c1_1, .int .i64 x1.left, .slice a1_2 x1.moves.length c1_2]) (runs_plain rfl) rfl (by kernel_rfl) rfl ?_; clear hE hS a w; intro b60 a w hE hS
  refine WL.nil ?_
  refine ⟨⟨fun _ => (hS.tail), fun _ => ((hS.tail).dropAt 2)⟩, ?_⟩
  refine Rg.one (i := 7) false true rfl (by kernel_rfl) (by kernel_rfl) (by kernel_rfl) ?_
  obtain ⟨x61, hx62, hr⟩ := bindS hr
  refine WL.appD hE hS 2 (m := 1) (runs_plain rfl) rfl rfl rfl ap45 rfl h_v0 (rfl) (xs := [x1]) (Ev.cons (c1 := [.slice a1_0 x1.depot.Room.length c1_0, .slice a1_1 x1.depot.Tracks.length c1_1, .int .i64 x1.left, .slice a1_2 x1.moves.length c1_2]) ⟨_, _, _, _, _, _, rfl, h1_0, h1_1, h1_2⟩ rfl (Ev.nil)) rfl rfl hx62 rfl ?_; clear hE hS a w; intro a63 c64 cs65 a w h66 hE hS
  refine WL.nil ?_
  refine ⟨⟨fun h => absurd h (by decide), fun _ => (hS.dropAt 2)⟩, ?_⟩
  refine Rg.one (i := 8) false true rfl (by kernel_rfl) (by kernel_rfl) (by kernel_rfl) ?_
  refine WL.vS hS hE (runs_plain rfl) (Gives.nilOk hE rfl) rfl ?_; clear hE a; intro a hE
  refine WL.nil ?_
  refine ⟨⟨fun h => absurd h (by decide), fun _ => (hS.dropAt 2)⟩, ?_⟩
  refine Rg.takeP (i := 9) hE rfl (by kernel_rfl) (runs_plain rfl) (Gives.fld hE rfl fl47_0) rfl (tw_sel (fun h => absurd h (by decide)) (fun _ => (hS.dropAt 2))) ?_; clear hE a; intro a hE
  refine Rg.one (i := 10) false false rfl (by kernel_rfl) (by kernel_rfl) (by kernel_rfl) ?_
  refine WL.storeI hE hS 1 rfl [.slice a63 x61.length c64] (runs_plain rfl) rfl rfl rfl ty45 rfl rfl rfl rfl ?_; clear hE hS a w; intro a w hE hS
  refine WL.nil ?_
  refine ⟨⟨fun h => absurd h (by decide), fun h => absurd h (by decide)⟩, ?_⟩
  refine Rg.done (by kernel_rfl) ?_
  subst hK59
  refine finG (fn := Tryd.f13) (rs := []) (vs := []) hE rfl trivial ?_
  obtain rfl := Option.some.inj hr
  replace hS := hS.tail
  exact ⟨a63, c64, x61.length, cs65, rfl, h66, (rfl), hS⟩
set_option maxHeartbeats 8000000 in
theorem FleetQueuetakefleettry_v1_ok  {w : World} {s : Sg} {R : List HP} {pb0 : Nat} {y0 : FleetQueueTry} {a_v0 : Option Addr} {c_v0 n_v0 : Nat} {cs_v0 : List Value} (hS : St w s (pt pb0 (.cells #[.slice a_v0 n_v0 c_v0] 47 (0, 0)) :: vecC 50 4 a_v0 c_v0 n_v0 cs_v0 :: R)) (h_v0 : Ev 4 RFleetTry s cs_v0 y0.list) (hn_v0 : y0.list.length = n_v0) {r : FleetTry × Bool × (List FleetTry)} (hr : FleetQueuetakefleettry_v1 y0 = some r) :
    Calls Tryd.prog 14 [.pointer (some ⟨pb0, 0, none⟩)].toArray w (fun e w => ∃ (cs0 : List Value) (a59 : Option Addr) (c60 : Nat) (n62 : Nat) (cs63 : List Value) (t : Sg), e = .returned (.tuple #[.agg cs0.toArray, .bool r.2.1]) ∧ s.Le t ∧ RFleetTry t cs0 r.1 ∧ Ev 4 RFleetTry t cs63 r.2.2 ∧ r.2.2.length = n62 ∧ St w t (pt pb0 (.cells #[.slice a59 n62 c60] 47 (0, 0)) :: vecC 50 4 a59 c60 n62 cs63 :: R)) := by
  refine enter Tryd.func14 rfl rfl rfl fun a hE => ?_
  rw [FleetQueuetakefleettry_v1] at hr
  subst hn_v0
  refine W.seq ?_
  refine W.region ?_
  refine WL.alloc hE hS (runs_plain rfl) zr50 rfl ?_; clear hE hS a w; intro b65 a w hE hS
  refine WL.vS hS hE (runs_plain rfl) (Gives.p hE rfl) rfl ?_; clear hE a; intro a hE
  refine WL.nil ?_
  refine W.seq ?_
  refine W.region ?_
  refine WL.alloc hE hS (runs_plain rfl) zr50 rfl ?_; clear hE hS a w; intro b66 a w hE hS
  refine WL.nil ?_
  refine W.seq ?_
  refine W.seq ?_
  refine W.region ?_
  refine WL.vS hS hE (runs_plain rfl) (Gives.p hE rfl) rfl ?_; clear hE a; intro a hE
  refine WL.vS hS hE (runs_plain rfl) (Gives.nilOk hE rfl) rfl ?_; clear hE a; intro a hE
  refine WL.vS hS hE (runs_plain rfl) (Gives.fld hE rfl fl47_0) rfl ?_; clear hE a; intro a hE
  refine WL.vS hS hE (runs_plain rfl) (Gives.loadB hE 2 rfl rfl rfl ty45) rfl ?_; clear hE a; intro a hE
  refine WL.vS hS hE (runs_plain rfl) (Gives.len hE rfl sl45) rfl ?_; clear hE a; intro a hE
  refine WL.vS hS hE (runs_plain rfl) (Gives.p hE rfl) rfl ?_; clear hE a; intro a hE
  refine WL.nil ?_
  refine W.cond hE rfl (fun hc67 => ?_) (fun hc67 => ?_)
  · replace hr := iteT hc67 hr
    refine W.seq ?_
    refine W.region ?_
    refine WL.vS hS hE (runs_plain rfl) (Gives.loadBA hE 0 rfl rfl ty50) rfl ?_; clear hE a; intro a hE
    refine WL.storeI hE hS 1 rfl [.slice none 0 0, .slice none 0 0, .int .i64 0, .slice none 0 0] (runs_plain rfl) rfl rfl rfl ty50 rfl rfl rfl rfl ?_; clear hE hS a w; intro a w hE hS
    refine WL.vS hS hE (runs_plain rfl) (Gives.p hE rfl) rfl ?_; clear hE a; intro a hE
    refine WL.nil ?_
    refine W.ret ?_
    refine finG (fn := Tryd.f14) (rs := [.cell 2 50, .tmp 3]) (vs := [_, _]) hE rfl ⟨⟨_, rfl, .inl ⟨_, rfl, hS.seesAt 1 rfl, ty50⟩⟩, rfl, trivial⟩ ?_
    obtain rfl := Option.some.inj hr
    replace hS := hS.tail
    replace hS := hS.tail
    exact ⟨_, a_v0, c_v0, y0.list.length, cs_v0, s, rfl, (Sg.Le.refl _), ⟨_, _, _, _, _, _, rfl, Sl.nil, Sl.nil, Sl.nil⟩, h_v0, (rfl), hS⟩
  · replace hr := iteF hc67 hr
    refine W.skip ?_
    refine W.seq ?_
    refine W.region ?_
    refine WL.vS hS hE (runs_plain rfl) (Gives.p hE rfl) rfl ?_; clear hE a; intro a hE
    refine WL.vS hS hE (runs_plain rfl) (Gives.nilOk hE rfl) rfl ?_; clear hE a; intro a hE
    refine WL.vS hS hE (runs_plain rfl) (Gives.fld hE rfl fl47_0) rfl ?_; clear hE a; intro a hE
    refine WL.vS hS hE (runs_plain rfl) (Gives.loadB hE 2 rfl rfl rfl ty45) rfl ?_; clear hE a; intro a hE
    obtain ⟨x68, hx69, hr⟩ := bindS hr
    obtain ⟨hi70, hlt71, hy72⟩ := gx_some hx69
    obtain ⟨vs73, hl74, hR75, hd76, hget77⟩ := h_v0.at hy72
    obtain ⟨a78, c79, a81, c82, a84, c85, rfl, h80, h83, h86⟩ := hR75
    refine WL.vS hS hE (runs_plain rfl) (Gives.idx hE (((0 : Int)).toNat) rfl rfl sl45 hi70 (by omega) (hS.vecAok 3 rfl (by omega : ((0 : Int)).toNat < y0.list.length))) rfl ?_; clear hE a; intro a hE
    refine WL.vS hS hE (runs_plain rfl) (Gives.loadA hE rfl (fun w h => St.vecSees h 3 rfl (((0 : Int)).toNat * 4) _ hget77) ty50) rfl ?_; clear hE a; intro a hE
    refine WL.alloc hE hS (runs_plain rfl) zr50 rfl ?_; clear hE hS a w; intro b87 a w hE hS
    refine WL.storeI hE hS 0 rfl [.slice a78 x68.depot.Room.length c79, .slice a81 x68.depot.Tracks.length c82, .int .i64 x68.left, .slice a84 x68.moves.length c85] (runs_plain rfl) rfl rfl rfl ty50 rfl rfl rfl rfl ?_; clear hE hS a w; intro a w hE hS
    refine WL.nil ?_
    refine W.seq ?_
    refine W.region ?_
    refine WL.vS hS hE (runs_plain rfl) (Gives.p hE rfl) rfl ?_; clear hE a; intro a hE
    refine WL.vS hS hE (runs_plain rfl) (Gives.p hE rfl) rfl ?_; clear hE a; intro a hE
    refine WL.vS hS hE (runs_plain rfl) (Gives.nilOk hE rfl) rfl ?_; clear hE a; intro a hE
    refine WL.vS hS hE (runs_plain rfl) (Gives.fld hE rfl fl47_0) rfl ?_; clear hE a; intro a hE
    refine WL.vS hS hE (runs_plain rfl) (Gives.loadB hE 3 rfl rfl rfl ty45) rfl ?_; clear hE a; intro a hE
    obtain ⟨x88, hx89, hr⟩ := bindS hr
    obtain ⟨h90, h91, _, h92, _, _⟩ := cutl_some hx89
    have h94 := (hS.vecCap 4 rfl).1
    have h93 : x88 = y0.list.drop ((1 : Int)).toNat := by rw [h92]; simp
    have h95 : Ev 4 RFleetTry s (cs_v0.drop (((1 : Int)).toNat * 4)) x88 := by rw [h93]; exact h_v0.drop _
    have hn96 : x88.length = (y0.list.length - ((1 : Int)).toNat) := by rw [h93, List.length_drop]
    replace hS := hS.vecDrop 4 rfl (k := ((1 : Int)).toNat) (by omega)
    refine WL.vS hS hE (runs_plain rfl) (Gives.slL hE sl45 rfl rfl h90 (by omega) (cutA_sliced _ _ _ _ _)) rfl ?_; clear hE a; intro a hE
    refine WL.vS hS hE (runs_plain rfl) (Gives.nilOk hE rfl) rfl ?_; clear hE a; intro a hE
    refine WL.vS hS hE (runs_plain rfl) (Gives.fld hE rfl fl47_0) rfl ?_; clear hE a; intro a hE
    refine WL.storeI hE hS 3 rfl [.slice (cutA a_v0 c_v0 ((1 : Int)).toNat 4) (y0.list.length - ((1 : Int)).toNat) (c_v0 - ((1 : Int)).toNat)] (runs_plain rfl) rfl rfl rfl ty45 rfl rfl rfl rfl ?_; clear hE hS a w; intro a w hE hS
    refine WL.nil ?_
    refine W.seq ?_
    refine W.region ?_
    refine WL.vS hS hE (runs_plain rfl) (Gives.loadBA hE 0 rfl rfl ty50) rfl ?_; clear hE a; intro a hE
    refine WL.storeI hE hS 2 rfl [.slice a78 x68.depot.Room.length c79, .slice a81 x68.depot.Tracks.length c82, .int .i64 x68.left, .slice a84 x68.moves.length c85] (runs_plain rfl) rfl rfl rfl ty50 rfl rfl rfl rfl ?_; clear hE hS a w; intro a w hE hS
    refine WL.vS hS hE (runs_plain rfl) (Gives.p hE rfl) rfl ?_; clear hE a; intro a hE
    refine WL.nil ?_
    refine W.ret ?_
    refine finG (fn := Tryd.f14) (rs := [.cell 2 50, .tmp 3]) (vs := [_, _]) hE rfl ⟨⟨_, rfl, .inl ⟨_, rfl, hS.seesAt 2 rfl, ty50⟩⟩, rfl, trivial⟩ ?_
    obtain rfl := Option.some.inj hr
    replace hS := hS.tail
    replace hS := hS.tail
    replace hS := hS.tail
    exact ⟨_, (cutA a_v0 c_v0 ((1 : Int)).toNat 4), (c_v0 - ((1 : Int)).toNat), (y0.list.length - ((1 : Int)).toNat), (cs_v0.drop (((1 : Int)).toNat * 4)), s, rfl, (Sg.Le.refl _), ⟨_, _, _, _, _, _, rfl, h80, h83, h86⟩, h95, hn96, hS⟩
set_option maxHeartbeats 8000000 in
theorem Fleetdo_1_v1_ok  {w : World} {s : Sg} {R : List HP} {pb0 : Nat} {x0 : Int} {y0 : FleetDepot} {a_y0_0 : Option Addr} {c_y0_0 : Nat} {a_y0_1 : Option Addr} {c_y0_1 : Nat} (hS : St w s (pt pb0 (.cells #[.slice a_y0_0 y0.Room.length c_y0_0, .slice a_y0_1 y0.Tracks.length c_y0_1] 25 (0, 0)) :: R)) (_h_y0_0 : Sl 1 (RI .i64) s a_y0_0 c_y0_0 y0.Room) (_h_y0_1 : Sl 1 (RL 1 (RI .i64)) s a_y0_1 c_y0_1 y0.Tracks) {r : Bool} (hr : Fleetdo_1_v1 x0 y0 = r) :
    Calls Tryd.prog 23 [.int .i64 x0, .pointer (some ⟨pb0, 0, none⟩)].toArray w (fun e w => e = .returned (.bool r) ∧ St w s (pt pb0 (.cells #[.slice a_y0_0 y0.Room.length c_y0_0, .slice a_y0_1 y0.Tracks.length c_y0_1] 25 (0, 0)) :: R)) := by
  refine enter Tryd.func23 rfl rfl rfl fun a hE => ?_
  rw [Fleetdo_1_v1] at hr
  refine W.seq ?_
  refine W.region ?_
  refine WL.vS hS hE (runs_plain rfl) (Gives.p hE rfl) rfl ?_; clear hE a; intro a hE
  refine WL.nil ?_
  refine W.seq ?_
  refine W.region ?_
  refine WL.vS hS hE (runs_plain rfl) (Gives.p hE rfl) rfl ?_; clear hE a; intro a hE
  refine WL.vS hS hE (runs_plain rfl) (Gives.fld hE rfl fl25_1) rfl ?_; clear hE a; intro a hE
  refine WL.vS hS hE (runs_plain rfl) (Gives.loadB hE 0 rfl rfl rfl ty23) rfl ?_; clear hE a; intro a hE
  refine WL.vS hS hE (runs_plain rfl) (Gives.len hE rfl sl23) rfl ?_; clear hE a; intro a hE
  refine WL.vS hS hE (runs_plain rfl) (Gives.p hE rfl) rfl ?_; clear hE a; intro a hE
  refine WL.fnq hE (Fleetwithin_ok hS  rfl (r := Fleetwithin x0 0 (w64 (((y0.Tracks).length : Int) - 1)))) (runs_plain rfl) bd21 rfl rfl rfl ?_
  clear hE hS; rintro e w ⟨rfl, hS⟩; refine ⟨_, rfl, ?_⟩; clear a; intro a hE
  refine WL.vS hS hE (runs_plain rfl) (Gives.p hE rfl) rfl ?_; clear hE a; intro a hE
  refine WL.nil ?_
  refine W.ret ?_
  refine finG (fn := Tryd.f23) (rs := [.tmp 3]) (vs := [_]) hE rfl ⟨rfl, trivial⟩ ?_
  subst hr
  exact ⟨rfl, hS⟩
set_option maxHeartbeats 8000000 in
theorem SlicesCloneLint_ok  {w : World} {s : Sg} {R : List HP} {x0 : List Int} {a0 : Option Addr} {c0 : Nat} (hS : St w s (R)) (h0 : Sl 1 (RI .i64) s a0 c0 x0) {r : (List Int)} (hr : SlicesCloneLint x0 = some r) :
    Calls Tryd.prog 24 [.slice a0 x0.length c0].toArray w (fun e w => ∃ (a0 : Option Addr) (c0 n0 : Nat) (cs0 : List Value), e = .returned (.slice a0 n0 c0) ∧ Ev 1 (RI .i64) s cs0 r ∧ r.length = n0 ∧ St w s (vecC 3 1 a0 c0 n0 cs0 :: R)) := by
  refine enter Tryd.func24 rfl rfl rfl fun a hE => ?_
  rw [SlicesCloneLint] at hr
  refine W.seq ?_
  refine W.region ?_
  refine WL.vS hS hE (runs_plain rfl) (Gives.p hE rfl) rfl ?_; clear hE a; intro a hE
  refine WL.nil ?_
  refine W.seq ?_
  refine W.seq ?_
  refine W.region ?_
  refine WL.vS hS hE (runs_plain rfl) (Gives.p hE rfl) rfl ?_; clear hE a; intro a hE
  refine WL.vS hS hE (runs_plain rfl) (Gives.isNil hE rfl rfl isl22) rfl ?_; clear hE a; intro a hE
  refine WL.nil ?_
  rcases a0 with _ | g51
  · obtain rfl := h0.none_nil
    replace hr : some [] = _ := hr
    refine W.condT hE rfl rfl ?_
    refine W.seq ?_
    refine W.region ?_
    refine WL.vS hS hE (runs_plain rfl) (Gives.p hE rfl) rfl ?_; clear hE a; intro a hE
    refine WL.nil ?_
    refine W.ret ?_
    replace hS := hS.vecNil 3 1
    refine finG (fn := Tryd.f24) (rs := [.tmp 2]) (vs := [_]) hE rfl ⟨rfl, trivial⟩ ?_
    obtain rfl := Option.some.inj hr
    exact ⟨none, 0, 0, [], rfl, (Ev.nil), (rfl), hS⟩
  · skip
    refine W.condF hE rfl rfl ?_
    refine W.skip ?_
    refine W.seq ?_
    refine W.region ?_
    refine WL.lit hE hS (e := 3) (es := 1) (vs := []) (cs := []) (runs_plain rfl) rfl (by kernel_rfl) rfl ?_; clear hE hS a w; intro b53 a w hE hS
    replace hS := hS.ptVec (es := 1) (m := 0) rfl (by decide)
    have h55 : Ev 1 (RI .i64) s [] [] := (Ev.nil)
    refine WL.vS hS hE (runs_plain rfl) (Gives.p hE rfl) rfl ?_; clear hE a; intro a hE
    obtain ⟨x56, hx57, hr⟩ := bindS hr
    refine WL.appS hE hS 0 (runs_plain rfl) rfl rfl (xs := x0) rfl rfl ap22 RI.one h55 (rfl) h0 hx57 rfl ?_; clear hE hS a w; intro a58 c59 cs60 a w h61 hE hS
    refine WL.vS hS hE (runs_plain rfl) (Gives.p hE rfl) rfl ?_; clear hE a; intro a hE
    refine WL.nil ?_
    refine W.ret ?_
    refine finG (fn := Tryd.f24) (rs := [.tmp 2]) (vs := [_]) hE rfl ⟨rfl, trivial⟩ ?_
    obtain rfl := Option.some.inj hr
    exact ⟨a58, c59, x56.length, cs60, rfl, h61, (rfl), hS⟩
set_option maxHeartbeats 8000000 in
theorem Fleetdo_ok  {w : World} {s : Sg} {R : List HP} {x0 : FleetDepot} {a0_0 : Option Addr} {c0_0 : Nat} {a0_1 : Option Addr} {c0_1 : Nat} {x1 : FleetMove} (hS : St w s (R)) (h0_0 : Sl 1 (RI .i64) s a0_0 c0_0 x0.Room) (h0_1 : Sl 1 (RL 1 (RI .i64)) s a0_1 c0_1 x0.Tracks) {r : FleetDepot × Int × Int} (hr : Fleetdo x0 x1 = some r) :
    Calls Tryd.prog 15 [.agg [.slice a0_0 x0.Room.length c0_0, .slice a0_1 x0.Tracks.length c0_1].toArray, .agg (FleetMove.cells x1).toArray].toArray w (fun e w => ∃ (cs0 : List Value) (t : Sg), e = .returned (.tuple #[.agg cs0.toArray, .int .i64 r.2.1, .int .i64 r.2.2]) ∧ s.Le t ∧ RFleetDepot t cs0 r.1 ∧ St w t (R)) := by
  refine enter Tryd.func15 rfl rfl rfl fun a hE => ?_
  rw [Fleetdo] at hr
  refine W.seq ?_
  refine W.region ?_
  refine WL.box hE hS (runs_plain rfl) rfl rfl rfl ?_; clear hE hS a w; intro b51 a w hE hS
  refine WL.box hE hS (runs_plain rfl) rfl rfl rfl ?_; clear hE hS a w; intro b52 a w hE hS
  refine WL.alloc hE hS (runs_plain rfl) zr25 rfl ?_; clear hE hS a w; intro b53 a w hE hS
  refine WL.vS hS hE (runs_plain rfl) (Gives.p hE rfl) rfl ?_; clear hE a; intro a hE
  refine WL.vS hS hE (runs_plain rfl) (Gives.p hE rfl) rfl ?_; clear hE a; intro a hE
  refine WL.nil ?_
  refine W.seq ?_
  refine W.region ?_
  refine WL.vS hS hE (runs_plain rfl) (Gives.mkfn hE (vs := [.pointer (some ⟨b51, 0, none⟩)]) rfl) rfl ?_; clear hE a; intro a hE
  refine WL.vS hS hE (runs_plain rfl) (Gives.p hE rfl) rfl ?_; clear hE a; intro a hE
  refine WL.nil ?_
  refine W.seq ?_
  refine W.block ?_
  refine W.seq ?_
  obtain ⟨q55, hq54, hr⟩ := bndS hr
  refine W.cut (fun a w => ∃ (q58 : Bool), q58 = q55 ∧ Rep a 131 [(2, .pointer (some ⟨b51, 0, none⟩)), (3, .pointer (some ⟨b52, 0, none⟩)), (4, .pointer (some ⟨b53, 0, none⟩)), (14, .bool q58)] ∧ St w s (pt b53 (.cells #[.slice none 0 0, .slice none 0 0] 25 (0, 0)) :: pt b52 (.cells (FleetMove.cells x1).toArray 34 (0, 0)) :: pt b51 (.cells #[.slice a0_0 x0.Room.length c0_0, .slice a0_1 x0.Tracks.length c0_1] 25 (0, 0)) :: R)) ?_ ?_
  · refine W.gen fun K59 hK59 => ?_
    refine W.region ?_
    refine WL.vS hS hE (runs_plain rfl) (Gives.p hE rfl) rfl ?_; clear hE a; intro a hE
    refine WL.vS hS hE (runs_plain rfl) (Gives.fld hE rfl fl34_0) rfl ?_; clear hE a; intro a hE
    refine WL.vS hS hE (runs_plain rfl) (Gives.loadB hE 1 rfl rfl rfl ty3) rfl ?_; clear hE a; intro a hE
    replace hS := hS.front 2 rfl
    refine WL.fnw hE (Fleetdo_1_v1_ok (y0 := x0) hS h0_0 h0_1 rfl (r := Fleetdo_1_v1 x1.From x0)) rfl (runs_plain rfl) bd23 rfl rfl rfl ?_
    clear hE hS; rintro e w ⟨rfl, hS⟩; refine ⟨_, rfl, ?_⟩; clear a; intro a hE
    refine WL.vS hS hE (runs_plain rfl) (Gives.p hE rfl) rfl ?_; clear hE a; intro a hE
    refine WL.vS hS hE (runs_plain rfl) (Gives.p hE rfl) rfl ?_; clear hE a; intro a hE
    rcases Bool.eq_false_or_eq_true (!(Fleetdo_1_v1 x1.From x0)) with hg60 | hg60
    · replace hq54 := iteT hg60 hq54
      refine WL.no hE (runs_not hE rfl rfl rfl (by rw [hg60]; decide)) rfl ?_; clear hE a; intro a hE
      refine WL.no hE (runs_not hE rfl rfl rfl (by rw [hg60]; decide)) rfl ?_; clear hE a; intro a hE
      refine WL.no hE (runs_not hE rfl rfl rfl (by rw [hg60]; decide)) rfl ?_; clear hE a; intro a hE
      refine WL.no hE (runs_not hE rfl rfl rfl (by rw [hg60]; decide)) rfl ?_; clear hE a; intro a hE
      refine WL.no hE (runs_not hE rfl rfl rfl (by rw [hg60]; decide)) rfl ?_; clear hE a; intro a hE
      refine WL.no hE (runs_not hE rfl rfl rfl (by rw [hg60]; decide)) rfl ?_; clear hE a; intro a hE
      refine WL.no hE (runs_undef hE rfl rfl rfl) rfl ?_; clear hE a; intro a hE
      refine WL.no hE (runs_undef hE rfl rfl rfl) rfl ?_; clear hE a; intro a hE
      refine WL.no hE (runs_undef hE rfl rfl rfl) rfl ?_; clear hE a; intro a hE
      refine WL.no hE (runs_not hE rfl rfl rfl (by rw [hg60]; decide)) rfl ?_; clear hE a; intro a hE
      refine WL.vS hS hE (runs_plain rfl) (Gives.pickT hE rfl hg60 rfl) rfl ?_; clear hE a; intro a hE
      refine WL.vS hS hE (runs_plain rfl) (Gives.p hE rfl) rfl ?_; clear hE a; intro a hE
      refine WL.nil ?_
      replace hS := hS.front 2 rfl
      replace hS := hS.front 2 rfl
      subst hK59
      exact ⟨true, hq54, hE.pick _ ⟨rfl, rfl, rfl, rfl, trivial⟩, hS⟩
    · replace hq54 := iteF hg60 hq54
      refine WL.vS hS hE (runs_if hE rfl rfl rfl hg60) (Gives.p hE rfl) rfl ?_; clear hE a; intro a hE
      refine WL.vS hS hE (runs_if hE rfl rfl rfl hg60) (Gives.fld hE rfl fl34_1) rfl ?_; clear hE a; intro a hE
      refine WL.vS hS hE (runs_if hE rfl rfl rfl hg60) (Gives.loadB hE 2 rfl rfl rfl ty3) rfl ?_; clear hE a; intro a hE
      refine WL.fnw hE (Fleetdo_1_v1_ok (y0 := x0) hS h0_0 h0_1 rfl (r := Fleetdo_1_v1 x1.To x0)) rfl (runs_if hE rfl rfl rfl hg60) bd23 rfl rfl rfl ?_
      clear hE hS; rintro e w ⟨rfl, hS⟩; refine ⟨_, rfl, ?_⟩; clear a; intro a hE
      refine WL.vS hS hE (runs_if hE rfl rfl rfl hg60) (Gives.p hE rfl) rfl ?_; clear hE a; intro a hE
      refine WL.vS hS hE (runs_if hE rfl rfl rfl hg60) (Gives.p hE rfl) rfl ?_; clear hE a; intro a hE
      rcases Bool.eq_false_or_eq_true (!(Fleetdo_1_v1 x1.To x0)) with hg61 | hg61
      · replace hq54 := iteT hg61 hq54
        refine WL.vS hS hE (runs_if hE rfl rfl rfl hg61) (Gives.fld hE rfl fl34_1) rfl ?_; clear hE a; intro a hE
        refine WL.vS hS hE (runs_if hE rfl rfl rfl hg61) (Gives.loadB hE 2 rfl rfl rfl ty3) rfl ?_; clear hE a; intro a hE
        refine WL.vS hS hE (runs_if hE rfl rfl rfl hg61) (Gives.p hE rfl) rfl ?_; clear hE a; intro a hE
        refine WL.vS hS hE (runs_if hE rfl rfl rfl hg60) (Gives.pickT hE rfl hg61 rfl) rfl ?_; clear hE a; intro a hE
        refine WL.vS hS hE (runs_plain rfl) (Gives.pickF hE rfl hg60 rfl) rfl ?_; clear hE a; intro a hE
        refine WL.vS hS hE (runs_plain rfl) (Gives.p hE rfl) rfl ?_; clear hE a; intro a hE
        refine WL.nil ?_
        replace hS := hS.front 2 rfl
        replace hS := hS.front 2 rfl
        subst hK59
        exact ⟨(x1.To != (-1)), hq54, hE.pick _ ⟨rfl, rfl, rfl, rfl, trivial⟩, hS⟩
      · replace hq54 := iteF hg61 hq54
        refine WL.no hE (runs_not hE rfl rfl rfl (by rw [hg61]; decide)) rfl ?_; clear hE a; intro a hE
        refine WL.no hE (runs_not hE rfl rfl rfl (by rw [hg61]; decide)) rfl ?_; clear hE a; intro a hE
        refine WL.no hE (runs_not hE rfl rfl rfl (by rw [hg61]; decide)) rfl ?_; clear hE a; intro a hE
        refine WL.vS hS hE (runs_if hE rfl rfl rfl hg60) (Gives.pickF hE rfl hg61 rfl) rfl ?_; clear hE a; intro a hE
        refine WL.vS hS hE (runs_plain rfl) (Gives.pickF hE rfl hg60 rfl) rfl ?_; clear hE a; intro a hE
        refine WL.vS hS hE (runs_plain rfl) (Gives.p hE rfl) rfl ?_; clear hE a; intro a hE
        refine WL.nil ?_
        replace hS := hS.front 2 rfl
        replace hS := hS.front 2 rfl
        subst hK59
        exact ⟨false, hq54, hE.pick _ ⟨rfl, rfl, rfl, rfl, trivial⟩, hS⟩
  · clear hE hS a w; rintro a w ⟨q58, rfl, hE, hS⟩
    refine W.cond hE rfl (fun hc62 => ?_) (fun hc62 => ?_)
    · replace hr := iteT hc62 hr
      refine W.seq ?_
      refine W.region ?_
      refine WL.vS hS hE (runs_plain rfl) (Gives.build hE (vs := []) [.slice none 0 0, .slice none 0 0] rfl (by kernel_rfl)) rfl ?_; clear hE a; intro a hE
      refine WL.storeI hE hS 0 rfl [.slice none 0 0, .slice none 0 0] (runs_plain rfl) rfl rfl rfl ty25 rfl rfl rfl rfl ?_; clear hE hS a w; intro a w hE hS
      refine WL.vS hS hE (runs_plain rfl) (Gives.p hE rfl) rfl ?_; clear hE a; intro a hE
      refine WL.vS hS hE (runs_plain rfl) (Gives.p hE rfl) rfl ?_; clear hE a; intro a hE
      refine WL.nil ?_
      refine W.ret ?_
      refine finG (fn := Tryd.f15) (rs := [.cell 4 25, .tmp 5, .tmp 6]) (vs := [_, _, _]) hE rfl ⟨⟨_, rfl, .inl ⟨_, rfl, hS.seesAt 0 rfl, ty25⟩⟩, rfl, rfl, trivial⟩ ?_
      obtain rfl := Option.some.inj hr
      replace hS := hS.tail
      replace hS := hS.tail
      replace hS := hS.tail
      exact ⟨_, s, rfl, (Sg.Le.refl _), ⟨_, _, _, _, rfl, Sl.nil, Sl.nil⟩, hS⟩
    · replace hr := iteF hc62 hr
      refine W.seq ?_
      refine W.region ?_
      refine WL.vS hS hE (runs_plain rfl) (Gives.fld hE rfl fl34_0) rfl ?_; clear hE a; intro a hE
      refine WL.vS hS hE (runs_plain rfl) (Gives.loadB hE 1 rfl rfl rfl ty3) rfl ?_; clear hE a; intro a hE
      refine WL.vS hS hE (runs_plain rfl) (Gives.fld hE rfl fl34_1) rfl ?_; clear hE a; intro a hE
      refine WL.vS hS hE (runs_plain rfl) (Gives.loadB hE 1 rfl rfl rfl ty3) rfl ?_; clear hE a; intro a hE
      refine WL.vS hS hE (runs_plain rfl) (Gives.p hE rfl) rfl ?_; clear hE a; intro a hE
      refine WL.vS hS hE (runs_plain rfl) (Gives.p hE rfl) rfl ?_; clear hE a; intro a hE
      refine WL.nil ?_
      refine W.cond hE rfl (fun hc63 => ?_) (fun hc63 => ?_)
      · replace hr := iteT hc63 hr
        refine W.seq ?_
        refine W.region ?_
        refine WL.vS hS hE (runs_plain rfl) (Gives.build hE (vs := []) [.slice none 0 0, .slice none 0 0] rfl (by kernel_rfl)) rfl ?_; clear hE a; intro a hE
        refine WL.storeI hE hS 0 rfl [.slice none 0 0, .slice none 0 0] (runs_plain rfl) rfl rfl rfl ty25 rfl rfl rfl rfl ?_; clear hE hS a w; intro a w hE hS
        refine WL.vS hS hE (runs_plain rfl) (Gives.p hE rfl) rfl ?_; clear hE a; intro a hE
        refine WL.vS hS hE (runs_plain rfl) (Gives.p hE rfl) rfl ?_; clear hE a; intro a hE
        refine WL.nil ?_
        refine W.ret ?_
        refine finG (fn := Tryd.f15) (rs := [.cell 4 25, .tmp 5, .tmp 6]) (vs := [_, _, _]) hE rfl ⟨⟨_, rfl, .inl ⟨_, rfl, hS.seesAt 0 rfl, ty25⟩⟩, rfl, rfl, trivial⟩ ?_
        obtain rfl := Option.some.inj hr
        replace hS := hS.tail
        replace hS := hS.tail
        replace hS := hS.tail
        exact ⟨_, s, rfl, (Sg.Le.refl _), ⟨_, _, _, _, rfl, Sl.nil, Sl.nil⟩, hS⟩
      · replace hr := iteF hc63 hr
        refine W.seq ?_
        refine W.region ?_
        refine WL.vS hS hE (runs_plain rfl) (Gives.fld hE rfl fl25_1) rfl ?_; clear hE a; intro a hE
        refine WL.vS hS hE (runs_plain rfl) (Gives.loadB hE 2 rfl rfl rfl ty23) rfl ?_; clear hE a; intro a hE
        refine WL.vS hS hE (runs_plain rfl) (Gives.fld hE rfl fl34_0) rfl ?_; clear hE a; intro a hE
        refine WL.vS hS hE (runs_plain rfl) (Gives.loadB hE 1 rfl rfl rfl ty3) rfl ?_; clear hE a; intro a hE
        obtain ⟨x64, hx65, hr⟩ := bindS hr
        obtain ⟨hi66, hlt67, hy68⟩ := gx_some hx65
        obtain ⟨cs69, hl70, hR71, hat72⟩ := h0_1.at hy68
        obtain ⟨a73, c74, rfl, h75⟩ := hR71
        refine WL.vS hS hE (runs_plain rfl) (Gives.idx hE (x1.From).toNat rfl rfl sl23 hi66 hlt67 (h0_1.aok hlt67)) rfl ?_; clear hE a; intro a hE
        refine WL.vS hS hE (runs_plain rfl) (Gives.load1 hE rfl (fun w h => hat72 w _ h) ty22) rfl ?_; clear hE a; intro a hE
        refine WL.vS hS hE (runs_plain rfl) (Gives.len hE rfl sl22) rfl ?_; clear hE a; intro a hE
        refine WL.vS hS hE (runs_plain rfl) (Gives.p hE rfl) rfl ?_; clear hE a; intro a hE
        refine WL.vS hS hE (runs_plain rfl) (Gives.p hE rfl) rfl ?_; clear hE a; intro a hE
        refine WL.nil ?_
        refine W.cond hE rfl (fun hc76 => ?_) (fun hc76 => ?_)
        · replace hr := iteT hc76 hr
          refine W.seq ?_
          refine W.region ?_
          refine WL.vS hS hE (runs_plain rfl) (Gives.build hE (vs := []) [.slice none 0 0, .slice none 0 0] rfl (by kernel_rfl)) rfl ?_; clear hE a; intro a hE
          refine WL.storeI hE hS 0 rfl [.slice none 0 0, .slice none 0 0] (runs_plain rfl) rfl rfl rfl ty25 rfl rfl rfl rfl ?_; clear hE hS a w; intro a w hE hS
          refine WL.vS hS hE (runs_plain rfl) (Gives.p hE rfl) rfl ?_; clear hE a; intro a hE
          refine WL.vS hS hE (runs_plain rfl) (Gives.p hE rfl) rfl ?_; clear hE a; intro a hE
          refine WL.nil ?_
          refine W.ret ?_
          refine finG (fn := Tryd.f15) (rs := [.cell 4 25, .tmp 5, .tmp 6]) (vs := [_, _, _]) hE rfl ⟨⟨_, rfl, .inl ⟨_, rfl, hS.seesAt 0 rfl, ty25⟩⟩, rfl, rfl, trivial⟩ ?_
          obtain rfl := Option.some.inj hr
          replace hS := hS.tail
          replace hS := hS.tail
          replace hS := hS.tail
          exact ⟨_, s, rfl, (Sg.Le.refl _), ⟨_, _, _, _, rfl, Sl.nil, Sl.nil⟩, hS⟩
        · replace hr := iteF hc76 hr
          refine W.seq ?_
          obtain ⟨q78, hq77, hr⟩ := bindS hr
          refine W.cut (fun a w => ∃ (q81 : Bool), q81 = q78 ∧ Rep a 131 [(2, .pointer (some ⟨b51, 0, none⟩)), (3, .pointer (some ⟨b52, 0, none⟩)), (4, .pointer (some ⟨b53, 0, none⟩)), (50, .bool q81)] ∧ St w s (pt b53 (.cells #[.slice none 0 0, .slice none 0 0] 25 (0, 0)) :: pt b52 (.cells (FleetMove.cells x1).toArray 34 (0, 0)) :: pt b51 (.cells #[.slice a0_0 x0.Room.length c0_0, .slice a0_1 x0.Tracks.length c0_1] 25 (0, 0)) :: R)) ?_ ?_
          · refine W.gen fun K82 hK82 => ?_
            refine W.regionQ (C := fun w => St w s (pt b53 (.cells #[.slice none 0 0, .slice none 0 0] 25 (0, 0)) :: pt b52 (.cells (FleetMove.cells x1).toArray 34 (0, 0)) :: pt b51 (.cells #[.slice a0_0 x0.Room.length c0_0, .slice a0_1 x0.Tracks.length c0_1] 25 (0, 0)) :: R)) mixed (by kernel_rfl) hS.drew ?_
            refine QL.v hE (runs_plain rfl) (Gives.fld hE rfl fl34_1) rfl ?_; clear hE a; intro a hE
            refine QL.v hE (runs_plain rfl) (Gives.loadB hE 1 rfl rfl rfl ty3) rfl ?_; clear hE a; intro a hE
            refine QL.v hE (runs_plain rfl) (Gives.p hE rfl) rfl ?_; clear hE a; intro a hE
            refine QL.v hE (runs_plain rfl) (Gives.p hE rfl) rfl ?_; clear hE a; intro a hE
            rcases Bool.eq_false_or_eq_true (decide (x1.To ≥ 0)) with hg83 | hg83
            · replace hq77 := iteT hg83 hq77
              refine QL.v hE (runs_if hE rfl rfl rfl hg83) (Gives.fld hE rfl fl25_1) rfl ?_; clear hE a; intro a hE
              refine QL.v hE (runs_if hE rfl rfl rfl hg83) (Gives.loadB hE 2 rfl rfl rfl ty23) rfl ?_; clear hE a; intro a hE
              refine QL.v hE (runs_if hE rfl rfl rfl hg83) (Gives.fld hE rfl fl34_1) rfl ?_; clear hE a; intro a hE
              refine QL.v hE (runs_if hE rfl rfl rfl hg83) (Gives.loadB hE 1 rfl rfl rfl ty3) rfl ?_; clear hE a; intro a hE
              obtain ⟨x84, hx85, hq77⟩ := bindS hq77
              obtain ⟨hi86, hlt87, hy88⟩ := gx_some hx85
              obtain ⟨cs89, hl90, hR91, hat92⟩ := h0_1.at hy88
              obtain ⟨a93, c94, rfl, h95⟩ := hR91
              refine QL.v hE (runs_if hE rfl rfl rfl hg83) (Gives.idx hE (x1.To).toNat rfl rfl sl23 hi86 hlt87 (h0_1.aok hlt87)) rfl ?_; clear hE a; intro a hE
              refine QL.v hE (runs_if hE rfl rfl rfl hg83) (Gives.load1 hE rfl (fun w h => hat92 w _ h) ty22) rfl ?_; clear hE a; intro a hE
              refine QL.v hE (runs_if hE rfl rfl rfl hg83) (Gives.len hE rfl sl22) rfl ?_; clear hE a; intro a hE
              refine QL.v hE (runs_if hE rfl rfl rfl hg83) (Gives.fld hE rfl fl25_0) rfl ?_; clear hE a; intro a hE
              refine QL.v hE (runs_if hE rfl rfl rfl hg83) (Gives.loadB hE 2 rfl rfl rfl ty22) rfl ?_; clear hE a; intro a hE
              refine QL.v hE (runs_if hE rfl rfl rfl hg83) (Gives.fld hE rfl fl34_1) rfl ?_; clear hE a; intro a hE
              refine QL.v hE (runs_if hE rfl rfl rfl hg83) (Gives.loadB hE 1 rfl rfl rfl ty3) rfl ?_; clear hE a; intro a hE
              obtain ⟨x96, hx97, hq77⟩ := bindS hq77
              obtain ⟨hi98, hlt99, hy100⟩ := gx_some hx97
              obtain ⟨cs101, hl102, hR103, hat104⟩ := h0_0.at hy100
              subst hR103
              refine QL.v hE (runs_if hE rfl rfl rfl hg83) (Gives.idx hE (x1.To).toNat rfl rfl sl22 hi98 hlt99 (h0_0.aok hlt99)) rfl ?_; clear hE a; intro a hE
              refine QL.v hE (runs_if hE rfl rfl rfl hg83) (Gives.load1 hE rfl (fun w h => hat104 w _ h) ty3) rfl ?_; clear hE a; intro a hE
              refine QL.v hE (runs_if hE rfl rfl rfl hg83) (Gives.p hE rfl) rfl ?_; clear hE a; intro a hE
              refine QL.v hE (runs_plain rfl) (Gives.pickT hE rfl hg83 rfl) rfl ?_; clear hE a; intro a hE
              refine QL.v hE (runs_plain rfl) (Gives.p hE rfl) rfl ?_; clear hE a; intro a hE
              refine QL.nil ?_; clear hS w; intro w hS
              subst hK82
              exact ⟨decide (((x84).length : Int) ≥ x96), Option.some.inj hq77, hE.pick _ ⟨rfl, rfl, rfl, rfl, trivial⟩, hS⟩
            · replace hq77 := iteF hg83 hq77
              refine QL.no hE (runs_not hE rfl rfl rfl (by rw [hg83]; decide)) rfl ?_; clear hE a; intro a hE
              refine QL.no hE (runs_not hE rfl rfl rfl (by rw [hg83]; decide)) rfl ?_; clear hE a; intro a hE
              refine QL.no hE (runs_not hE rfl rfl rfl (by rw [hg83]; decide)) rfl ?_; clear hE a; intro a hE
              refine QL.no hE (runs_not hE rfl rfl rfl (by rw [hg83]; decide)) rfl ?_; clear hE a; intro a hE
              refine QL.no hE (runs_not hE rfl rfl rfl (by rw [hg83]; decide)) rfl ?_; clear hE a; intro a hE
              refine QL.no hE (runs_not hE rfl rfl rfl (by rw [hg83]; decide)) rfl ?_; clear hE a; intro a hE
              refine QL.no hE (runs_not hE rfl rfl rfl (by rw [hg83]; decide)) rfl ?_; clear hE a; intro a hE
              refine QL.no hE (runs_not hE rfl rfl rfl (by rw [hg83]; decide)) rfl ?_; clear hE a; intro a hE
              refine QL.no hE (runs_not hE rfl rfl rfl (by rw [hg83]; decide)) rfl ?_; clear hE a; intro a hE
              refine QL.no hE (runs_not hE rfl rfl rfl (by rw [hg83]; decide)) rfl ?_; clear hE a; intro a hE
              refine QL.no hE (runs_not hE rfl rfl rfl (by rw [hg83]; decide)) rfl ?_; clear hE a; intro a hE
              refine QL.no hE (runs_not hE rfl rfl rfl (by rw [hg83]; decide)) rfl ?_; clear hE a; intro a hE
              refine QL.no hE (runs_not hE rfl rfl rfl (by rw [hg83]; decide)) rfl ?_; clear hE a; intro a hE
              refine QL.no hE (runs_not hE rfl rfl rfl (by rw [hg83]; decide)) rfl ?_; clear hE a; intro a hE
              refine QL.v hE (runs_plain rfl) (Gives.pickF hE rfl hg83 rfl) rfl ?_; clear hE a; intro a hE
              refine QL.v hE (runs_plain rfl) (Gives.p hE rfl) rfl ?_; clear hE a; intro a hE
              refine QL.nil ?_; clear hS w; intro w hS
              subst hK82
              exact ⟨false, Option.some.inj hq77, hE.pick _ ⟨rfl, rfl, rfl, rfl, trivial⟩, hS⟩
          · clear hE hS a w; rintro a w ⟨q81, rfl, hE, hS⟩
            refine W.cond hE rfl (fun hc105 => ?_) (fun hc105 => ?_)
            · replace hr := iteT hc105 hr
              refine W.seq ?_
              refine W.region ?_
              refine WL.vS hS hE (runs_plain rfl) (Gives.build hE (vs := []) [.slice none 0 0, .slice none 0 0] rfl (by kernel_rfl)) rfl ?_; clear hE a; intro a hE
              refine WL.storeI hE hS 0 rfl [.slice none 0 0, .slice none 0 0] (runs_plain rfl) rfl rfl rfl ty25 rfl rfl rfl rfl ?_; clear hE hS a w; intro a w hE hS
              refine WL.vS hS hE (runs_plain rfl) (Gives.p hE rfl) rfl ?_; clear hE a; intro a hE
              refine WL.vS hS hE (runs_plain rfl) (Gives.p hE rfl) rfl ?_; clear hE a; intro a hE
              refine WL.nil ?_
              refine W.ret ?_
              refine finG (fn := Tryd.f15) (rs := [.cell 4 25, .tmp 5, .tmp 6]) (vs := [_, _, _]) hE rfl ⟨⟨_, rfl, .inl ⟨_, rfl, hS.seesAt 0 rfl, ty25⟩⟩, rfl, rfl, trivial⟩ ?_
              obtain rfl := Option.some.inj hr
              replace hS := hS.tail
              replace hS := hS.tail
              replace hS := hS.tail
              exact ⟨_, s, rfl, (Sg.Le.refl _), ⟨_, _, _, _, rfl, Sl.nil, Sl.nil⟩, hS⟩
            · replace hr := iteF hc105 hr
              refine W.skip ?_
              refine W.seq ?_
              refine W.region ?_
              refine WL.vS hS hE (runs_plain rfl) (Gives.fld hE rfl fl25_0) rfl ?_; clear hE a; intro a hE
              refine WL.vS hS hE (runs_plain rfl) (Gives.loadB hE 2 rfl rfl rfl ty22) rfl ?_; clear hE a; intro a hE
              obtain ⟨q106, hq107, hr⟩ := bindS hr
              have hc_ := SlicesCloneLint_ok hS h0_0 hq107
              refine WL.fnq hE (hc_) (runs_plain rfl) bd24 rfl rfl rfl ?_
              clear hE hS hc_; rintro e w ⟨a108, c109, n110, cs111, rfl, h112, rfl, hS⟩; refine ⟨_, rfl, ?_⟩; clear a; intro a hE
              refine WL.vS hS hE (runs_plain rfl) (Gives.build hE (vs := [(0, .slice a108 q106.length c109)]) [.slice a108 q106.length c109, .slice none 0 0] rfl (by kernel_rfl)) rfl ?_; clear hE a; intro a hE
              refine WL.alloc hE hS (runs_plain rfl) zr25 rfl ?_; clear hE hS a w; intro b114 a w hE hS
              refine WL.storeI hE hS 0 rfl [.slice a108 q106.length c109, .slice none 0 0] (runs_plain rfl) rfl rfl rfl ty25 rfl rfl rfl rfl ?_; clear hE hS a w; intro a w hE hS
              refine WL.nil ?_
              refine W.seq ?_
              refine W.seq ?_
              refine W.region ?_
              refine WL.vS hS hE (runs_plain rfl) (Gives.fld hE rfl fl25_1) rfl ?_; clear hE a; intro a hE
              refine WL.vS hS hE (runs_plain rfl) (Gives.loadB hE 4 rfl rfl rfl ty23) rfl ?_; clear hE a; intro a hE
              refine WL.vS hS hE (runs_plain rfl) (Gives.len hE rfl sl23) rfl ?_; clear hE a; intro a hE
              refine WL.vS hS hE (runs_plain rfl) (Gives.p hE rfl) rfl ?_; clear hE a; intro a hE
              refine WL.nil ?_
              replace hS := hS.nestNil 22 3 1
              obtain ⟨q117, hq116, hr⟩ := bindS hr
              refine W.cut (fun a w => ∃ (q127 : List (List Int)), ∃ (a128 : Option Addr), ∃ (c129 : Nat), ∃ (n130 : Nat), ∃ (ds131 : List In), q127 = q117 ∧ NEv 1 (RI .i64) s ds131 q127 ∧ q127.length = n130 ∧ Rep a 131 [(3, .pointer (some ⟨b52, 0, none⟩)), (4, .pointer (some ⟨b53, 0, none⟩)), (8, .pointer (some ⟨b114, 0, none⟩))] ∧ St w s (nestC 22 3 1 a128 c129 n130 ds131 :: pt b114 (.cells #[.slice a108 q106.length c109, .slice a128 n130 c129] 25 (0, 0)) :: vecC 3 1 a108 c109 q106.length cs111 :: pt b53 (.cells #[.slice none 0 0, .slice none 0 0] 25 (0, 0)) :: pt b52 (.cells (FleetMove.cells x1).toArray 34 (0, 0)) :: pt b51 (.cells #[.slice a0_0 x0.Room.length c0_0, .slice a0_1 x0.Tracks.length c0_1] 25 (0, 0)) :: R)) ?_ ?_
              · refine W.block ?_
                refine W.loop (fun m a w => ∃ (rest120 : List (List Int)) (k118 : Nat), ∃ (q127 : List (List Int)), ∃ (a128 : Option Addr), ∃ (c129 : Nat), ∃ (n130 : Nat), ∃ (ds131 : List In), rest120.length = m ∧ x0.Tracks.drop k118 = rest120 ∧ Fleetdo.loop1 rest120 q127 = some q117 ∧ NEv 1 (RI .i64) s ds131 q127 ∧ q127.length = n130 ∧ Rep a 131 [(3, .pointer (some ⟨b52, 0, none⟩)), (4, .pointer (some ⟨b53, 0, none⟩)), (8, .pointer (some ⟨b114, 0, none⟩)), (76, .slice a0_1 x0.Tracks.length c0_1), (77, .int .i64 ((x0.Tracks).length : Int)), (78, .int .i64 ((k118 : Nat) : Int))] ∧ St w s (nestC 22 3 1 a128 c129 n130 ds131 :: pt b114 (.cells #[.slice a108 q106.length c109, .slice a128 n130 c129] 25 (0, 0)) :: vecC 3 1 a108 c109 q106.length cs111 :: pt b53 (.cells #[.slice none 0 0, .slice none 0 0] 25 (0, 0)) :: pt b52 (.cells (FleetMove.cells x1).toArray 34 (0, 0)) :: pt b51 (.cells #[.slice a0_0 x0.Room.length c0_0, .slice a0_1 x0.Tracks.length c0_1] 25 (0, 0)) :: R)) (m := x0.Tracks.length) ⟨x0.Tracks, 0, [], none, 0, 0, [], rfl, rfl, hq116, (NEv.nil), (rfl), hE.pick _ ⟨rfl, rfl, rfl, rfl, rfl, rfl, trivial⟩, hS⟩ ?_
                clear hE hS a w hq116; rintro m124 a w ⟨rest120, k118, q127, a128, c129, n130, ds131, rfl, hd121, hq116, h132, rfl, hE, hS⟩
                refine W.gen fun K134 hK134 => ?_
                rcases rest120 with _ | ⟨x119, rest120⟩
                · have hlt122 := drop_nil hd121
                  refine W.seq ?_
                  refine W.region ?_
                  refine WL.vS hS hE (runs_plain rfl) (Gives.p hE rfl) rfl ?_; clear hE a; intro a hE
                  refine WL.nil ?_
                  refine W.seq ?_
                  refine W.condF hE rfl (decide_eq_false (by omega)) ?_
                  subst hK134
                  refine W.exit rfl ?_
                  exact ⟨q127, a128, c129, q127.length, ds131, Option.some.inj hq116, h132, rfl, hE.pick _ ⟨rfl, rfl, rfl, trivial⟩, hS⟩
                · obtain ⟨hlt122, hx123, hd121⟩ := drop_cons hd121
                  rw [Fleetdo.loop1] at hq116
                  refine W.seq ?_
                  refine W.region ?_
                  refine WL.vS hS hE (runs_plain rfl) (Gives.p hE rfl) rfl ?_; clear hE a; intro a hE
                  refine WL.nil ?_
                  refine W.seq ?_
                  refine W.condT hE rfl (decide_eq_true (by omega)) ?_
                  refine W.skip ?_
                  refine W.seq ?_
                  refine W.block ?_
                  refine W.seq ?_
                  refine W.region ?_
                  obtain ⟨cs135, hl136, hR137, hat138⟩ := h0_1.at hx123
                  obtain ⟨a139, c140, rfl, h141⟩ := hR137
                  refine WL.vS hS hE (runs_plain rfl) (Gives.idx hE k118 rfl rfl sl23 rfl hlt122 (h0_1.aok hlt122)) rfl ?_; clear hE a; intro a hE
                  refine WL.vS hS hE (runs_plain rfl) (Gives.load1 hE rfl (fun w h => hat138 w _ h) ty22) rfl ?_; clear hE a; intro a hE
                  refine WL.vS hS hE (runs_plain rfl) (Gives.p hE rfl) rfl ?_; clear hE a; intro a hE
                  refine WL.nil ?_
                  refine W.gen fun K142 hK142 => ?_
                  refine W.regionE (sel (fun w => St w s (nestC 22 3 1 a128 c129 q127.length ds131 :: pt b114 (.cells #[.slice a108 q106.length c109, .slice a128 q127.length c129] 25 (0, 0)) :: vecC 3 1 a108 c109 q106.length cs111 :: pt b53 (.cells #[.slice none 0 0, .slice none 0 0] 25 (0, 0)) :: pt b52 (.cells (FleetMove.cells x1).toArray 34 (0, 0)) :: pt b51 (.cells #[.slice a0_0 x0.Room.length c0_0, .slice a0_1 x0.Tracks.length c0_1] 25 (0, 0)) :: R)) (fun w => St w s (pt b114 (.cells #[.slice a108 q106.length c109, .slice a128 q127.length c129] 25 (0, 0)) :: vecC 3 1 a108 c109 q106.length cs111 :: pt b53 (.cells #[.slice none 0 0, .slice none 0 0] 25 (0, 0)) :: pt b52 (.cells (FleetMove.cells x1).toArray 34 (0, 0)) :: pt b51 (.cells #[.slice a0_0 x0.Room.length c0_0, .slice a0_1 x0.Tracks.length c0_1] 25 (0, 0)) :: R))) (fun b i => cond b ([0, 1, 2, 3, 4, 6].contains i) ([0, 1, 2, 3, 4, 5, 6].contains i)) mixed ?_
                  replace hS := hS.drew
                  refine Rg.takeP (i := 0) hE rfl (by kernel_rfl) (runs_plain rfl) (Gives.fld hE rfl fl25_1) rfl (tw_sel (fun _ => hS) (fun _ => (hS.tail))) ?_; clear hE a; intro a hE
                  have hT := tw_sel (A := fun w => St w s (nestC 22 3 1 a128 c129 q127.length ds131 :: pt b114 (.cells #[.slice a108 q106.length c109, .slice a128 q127.length c129] 25 (0, 0)) :: vecC 3 1 a108 c109 q106.length cs111 :: pt b53 (.cells #[.slice none 0 0, .slice none 0 0] 25 (0, 0)) :: pt b52 (.cells (FleetMove.cells x1).toArray 34 (0, 0)) :: pt b51 (.cells #[.slice a0_0 x0.Room.length c0_0, .slice a0_1 x0.Tracks.length c0_1] 25 (0, 0)) :: R)) (B := fun w => St w s (pt b114 (.cells #[.slice a108 q106.length c109, .slice a128 q127.length c129] 25 (0, 0)) :: vecC 3 1 a108 c109 q106.length cs111 :: pt b53 (.cells #[.slice none 0 0, .slice none 0 0] 25 (0, 0)) :: pt b52 (.cells (FleetMove.cells x1).toArray 34 (0, 0)) :: pt b51 (.cells #[.slice a0_0 x0.Room.length c0_0, .slice a0_1 x0.Tracks.length c0_1] 25 (0, 0)) :: R)) (w := _) (x := true) (y := true) (fun _ => hS) (fun _ => (hS.tail))
                  have hF := hS; replace hS := hS
                  refine Rg.take (i := 1) true rfl hE rfl (by kernel_rfl) (runs_plain rfl) (Gives.loadB hE 1 rfl rfl rfl ty23) rfl hT ?_; clear hE a; intro a hE
                  replace hS := hF; clear hF hT
                  refine Rg.takeP (i := 2) hE rfl (by kernel_rfl) (runs_plain rfl) (Gives.p hE rfl) rfl (tw_sel (fun _ => hS) (fun _ => (hS.tail))) ?_; clear hE a; intro a hE
                  refine Rg.one (i := 3) true true rfl (by kernel_rfl) (by kernel_rfl) (by kernel_rfl) ?_
                  obtain ⟨q143, hq144, hq116⟩ := bindS hq116
                  have hc_ := SlicesCloneLint_ok hS h141 hq144
                  refine WL.fnq hE (hc_) (runs_plain rfl) bd24 rfl rfl rfl ?_
                  clear hE hS hc_; rintro e w ⟨a145, c146, n147, cs148, rfl, h149, rfl, hS⟩; refine ⟨_, rfl, ?_⟩; clear a; intro a hE
                  refine WL.nil ?_
                  refine ⟨⟨fun _ => (hS.tail), fun _ => ((hS.tail).tail)⟩, ?_⟩
                  refine Rg.one (i := 4) true true rfl (by kernel_rfl) (by kernel_rfl) (by kernel_rfl) ?_
                  refine WL.lit hE hS (e := 22) (es := 1) (vs := [(0, .slice a145 q143.length c146)]) (cs := [.slice a145 q143.length c146]) (runs_plain rfl) rfl (by kernel_rfl) rfl ?_; clear hE hS a w; intro b151 a w hE hS
                  refine WL.nil ?_
                  refine ⟨⟨fun _ => ((hS.tail).tail), fun _ => (((hS.tail).tail).tail)⟩, ?_⟩
                  refine Rg.one (i := 5) false true rfl (by kernel_rfl) (by kernel_rfl) (by kernel_rfl) ?_
                  obtain ⟨x152, hx153, hq116⟩ := bindS hq116
                  replace hS := hS.front 1 rfl
                  replace hS := hS.front 1 rfl
                  refine WL.appND hE hS 0 rfl (runs_plain rfl) rfl rfl ap23 h132 rfl h149 rfl hx153 rfl ?_; clear hE hS a w; intro a154 c155 ds156 a w h157 hE hS
                  refine WL.nil ?_
                  refine ⟨⟨fun h => absurd h (by decide), fun _ => (hS.tail)⟩, ?_⟩
                  refine Rg.takeP (i := 6) hE rfl (by kernel_rfl) (runs_plain rfl) (Gives.fld hE rfl fl25_1) rfl (tw_sel (fun h => absurd h (by decide)) (fun _ => (hS.tail))) ?_; clear hE a; intro a hE
                  refine Rg.one (i := 7) false false rfl (by kernel_rfl) (by kernel_rfl) (by kernel_rfl) ?_
                  refine WL.storeI hE hS 1 rfl [.slice a108 q106.length c109, .slice a154 x152.length c155] (runs_plain rfl) rfl rfl rfl ty23 rfl rfl rfl rfl ?_; clear hE hS a w; intro a w hE hS
                  refine WL.nil ?_
                  refine ⟨⟨fun h => absurd h (by decide), fun h => absurd h (by decide)⟩, ?_⟩
                  refine Rg.done (by kernel_rfl) ?_
                  subst hK142
                  refine W.region ?_
                  refine WL.vS hS hE (runs_plain rfl) (Gives.inc hE rfl (by have := h0_1.small; omega)) rfl ?_; clear hE a; intro a hE
                  refine WL.vS hS hE (runs_plain rfl) (Gives.p hE rfl) rfl ?_; clear hE a; intro a hE
                  refine WL.nil ?_
                  subst hK134
                  exact ⟨rest120.length, Nat.lt_succ_self _, rest120, k118 + 1, x152, a154, c155, x152.length, ds156, rfl, hd121, hq116, h157, (rfl), hE.pick _ ⟨rfl, rfl, rfl, rfl, rfl, rfl, trivial⟩, hS⟩
              · clear hE hS a w; rintro a w ⟨q127, a128, c129, n130, ds131, rfl, h132, rfl, hE, hS⟩
                refine W.seq ?_
                refine W.region ?_
                refine WL.vS hS hE (runs_plain rfl) (Gives.fld hE rfl fl25_1) rfl ?_; clear hE a; intro a hE
                refine WL.vS hS hE (runs_plain rfl) (Gives.loadB hE 1 rfl rfl rfl ty23) rfl ?_; clear hE a; intro a hE
                refine WL.vS hS hE (runs_plain rfl) (Gives.fld hE rfl fl34_0) rfl ?_; clear hE a; intro a hE
                refine WL.vS hS hE (runs_plain rfl) (Gives.loadB hE 4 rfl rfl rfl ty3) rfl ?_; clear hE a; intro a hE
                obtain ⟨x158, hx159, hr⟩ := bindS hr
                obtain ⟨hi160, hlt161, hy162⟩ := gx_some hx159
                obtain ⟨a163, c164, cs165, hd166, hev167⟩ := h132.at hy162
                refine WL.vS hS hE (runs_plain rfl) (Gives.idx hE ((x1.From).toNat) rfl rfl sl23 hi160 (by omega) (hS.nAok 0 rfl (by omega : (x1.From).toNat < q127.length))) rfl ?_; clear hE a; intro a hE
                refine WL.vS hS hE (runs_plain rfl) (Gives.load1 (v := .slice a163 x158.length c164) hE rfl (fun w h => St.nSees h 0 rfl hd166) ty22) rfl ?_; clear hE a; intro a hE
                refine WL.vS hS hE (runs_plain rfl) (Gives.p hE rfl) rfl ?_; clear hE a; intro a hE
                refine WL.nil ?_
                refine W.seq ?_
                refine W.region ?_
                refine WL.vS hS hE (runs_plain rfl) (Gives.p hE rfl) rfl ?_; clear hE a; intro a hE
                refine WL.vS hS hE (runs_plain rfl) (Gives.p hE rfl) rfl ?_; clear hE a; intro a hE
                refine WL.vS hS hE (runs_plain rfl) (Gives.len hE rfl sl22) rfl ?_; clear hE a; intro a hE
                refine WL.vS hS hE (runs_plain rfl) (Gives.p hE rfl) rfl ?_; clear hE a; intro a hE
                obtain ⟨x168, hx169, hr⟩ := bindS hr
                obtain ⟨hi170, hlt171, hy172⟩ := gx_some hx169
                obtain ⟨vs173, hl174, hR175, hd176, hget177⟩ := hev167.at hy172
                subst hR175
                refine WL.vS hS hE (runs_plain rfl) (Gives.idx hE ((w64 (((x158).length : Int) - 1)).toNat) rfl rfl sl22 hi170 hlt171 (hS.nnAok 0 rfl hd166 hlt171)) rfl ?_; clear hE a; intro a hE
                refine WL.vS hS hE (runs_plain rfl) (Gives.load1 hE rfl (fun w h => St.nnSees h 0 rfl hd166 ((w64 (((x158).length : Int) - 1)).toNat * 1) _ hget177) ty3) rfl ?_; clear hE a; intro a hE
                refine WL.vS hS hE (runs_plain rfl) (Gives.p hE rfl) rfl ?_; clear hE a; intro a hE
                refine WL.nil ?_
                refine W.seq ?_
                refine W.gen fun K178 hK178 => ?_
                refine W.regionE (sel (fun w => St w s (pt b114 (.cells #[.slice a108 q106.length c109, .slice a128 q127.length c129] 25 (0, 0)) :: vecC 3 1 a108 c109 q106.length cs111 :: pt b53 (.cells #[.slice none 0 0, .slice none 0 0] 25 (0, 0)) :: pt b52 (.cells (FleetMove.cells x1).toArray 34 (0, 0)) :: pt b51 (.cells #[.slice a0_0 x0.Room.length c0_0, .slice a0_1 x0.Tracks.length c0_1] 25 (0, 0)) :: R)) (fun w => St w s (pt b114 (.cells #[.slice a108 q106.length c109, .slice a128 q127.length c129] 25 (0, 0)) :: vecC 3 1 a108 c109 q106.length cs111 :: pt b53 (.cells #[.slice none 0 0, .slice none 0 0] 25 (0, 0)) :: pt b52 (.cells (FleetMove.cells x1).toArray 34 (0, 0)) :: pt b51 (.cells #[.slice a0_0 x0.Room.length c0_0, .slice a0_1 x0.Tracks.length c0_1] 25 (0, 0)) :: R))) (fun b i => cond b ([0, 1, 2, 3, 4, 5, 6, 7, 8, 9, 10].contains i) ([0, 1, 2, 3, 4, 5, 6, 7, 8, 9, 10].contains i)) mixed ?_
                replace hS := hS.drew
                refine Rg.takeP (i := 0) hE rfl (by kernel_rfl) (runs_plain rfl) (Gives.fld hE rfl fl25_1) rfl (tw_sel (fun _ => (hS.tail)) (fun _ => (hS.tail))) ?_; clear hE a; intro a hE
                have hT := tw_sel (A := fun w => St w s (pt b114 (.cells #[.slice a108 q106.length c109, .slice a128 q127.length c129] 25 (0, 0)) :: vecC 3 1 a108 c109 q106.length cs111 :: pt b53 (.cells #[.slice none 0 0, .slice none 0 0] 25 (0, 0)) :: pt b52 (.cells (FleetMove.cells x1).toArray 34 (0, 0)) :: pt b51 (.cells #[.slice a0_0 x0.Room.length c0_0, .slice a0_1 x0.Tracks.length c0_1] 25 (0, 0)) :: R)) (B := fun w => St w s (pt b114 (.cells #[.slice a108 q106.length c109, .slice a128 q127.length c129] 25 (0, 0)) :: vecC 3 1 a108 c109 q106.length cs111 :: pt b53 (.cells #[.slice none 0 0, .slice none 0 0] 25 (0, 0)) :: pt b52 (.cells (FleetMove.cells x1).toArray 34 (0, 0)) :: pt b51 (.cells #[.slice a0_0 x0.Room.length c0_0, .slice a0_1 x0.Tracks.length c0_1] 25 (0, 0)) :: R)) (w := _) (x := true) (y := true) (fun _ => (hS.tail)) (fun _ => (hS.tail))
                have hF := hS; replace hS := (hS.tail)
                refine Rg.take (i := 1) true rfl hE rfl (by kernel_rfl) (runs_plain rfl) (Gives.loadB hE 0 rfl rfl rfl ty23) rfl hT ?_; clear hE a; intro a hE
                replace hS := hF; clear hF hT
                refine Rg.takeP (i := 2) hE rfl (by kernel_rfl) (runs_plain rfl) (Gives.fld hE rfl fl34_0) rfl (tw_sel (fun _ => (hS.tail)) (fun _ => (hS.tail))) ?_; clear hE a; intro a hE
                have hT := tw_sel (A := fun w => St w s (pt b114 (.cells #[.slice a108 q106.length c109, .slice a128 q127.length c129] 25 (0, 0)) :: vecC 3 1 a108 c109 q106.length cs111 :: pt b53 (.cells #[.slice none 0 0, .slice none 0 0] 25 (0, 0)) :: pt b52 (.cells (FleetMove.cells x1).toArray 34 (0, 0)) :: pt b51 (.cells #[.slice a0_0 x0.Room.length c0_0, .slice a0_1 x0.Tracks.length c0_1] 25 (0, 0)) :: R)) (B := fun w => St w s (pt b114 (.cells #[.slice a108 q106.length c109, .slice a128 q127.length c129] 25 (0, 0)) :: vecC 3 1 a108 c109 q106.length cs111 :: pt b53 (.cells #[.slice none 0 0, .slice none 0 0] 25 (0, 0)) :: pt b52 (.cells (FleetMove.cells x1).toArray 34 (0, 0)) :: pt b51 (.cells #[.slice a0_0 x0.Room.length c0_0, .slice a0_1 x0.Tracks.length c0_1] 25 (0, 0)) :: R)) (w := _) (x := true) (y := true) (fun _ => (hS.tail)) (fun _ => (hS.tail))
                have hF := hS; replace hS := (hS.tail)
                refine Rg.take (i := 3) true rfl hE rfl (by kernel_rfl) (runs_plain rfl) (Gives.loadB hE 3 rfl rfl rfl ty3) rfl hT ?_; clear hE a; intro a hE
                replace hS := hF; clear hF hT
                refine Rg.takeP (i := 4) hE rfl (by kernel_rfl) (runs_plain rfl) (Gives.p hE rfl) rfl (tw_sel (fun _ => (hS.tail)) (fun _ => (hS.tail))) ?_; clear hE a; intro a hE
                refine Rg.takeP (i := 5) hE rfl (by kernel_rfl) (runs_plain rfl) (Gives.p hE rfl) rfl (tw_sel (fun _ => (hS.tail)) (fun _ => (hS.tail))) ?_; clear hE a; intro a hE
                refine Rg.takeP (i := 6) hE rfl (by kernel_rfl) (runs_plain rfl) (Gives.len hE rfl sl22) rfl (tw_sel (fun _ => (hS.tail)) (fun _ => (hS.tail))) ?_; clear hE a; intro a hE
                refine Rg.takeP (i := 7) hE rfl (by kernel_rfl) (runs_plain rfl) (Gives.p hE rfl) rfl (tw_sel (fun _ => (hS.tail)) (fun _ => (hS.tail))) ?_; clear hE a; intro a hE
                replace hS := hS.borrowM 0 rfl hd166
                obtain ⟨x180, hx181, hr⟩ := bindS hr
                obtain ⟨_, h182, h183, h184, h185, _⟩ := cutl_some hx181
                have h186 := (hS.vecCap 0 rfl).1
                have h187 : Ev 1 (RI .i64) s (cs165.take ((w64 (((x158).length : Int) - 1)).toNat * 1)) x180 := by rw [h184]; exact hev167.take _
                have hn188 : x180.length = (w64 (((x158).length : Int) - 1)).toNat := by rw [h184]; simp; omega
                replace hS := hS.vecTake 0 rfl (by omega)
                refine Rg.takeP (i := 8) hE rfl (by kernel_rfl) (runs_plain rfl) (Gives.slH hE sl22 rfl rfl h182 (Int.le_trans h183 (by omega)) (sliced_zero _ _ _ _)) rfl (tw_sel (fun _ => ((hS.tail).tail)) (fun _ => ((hS.tail).tail))) ?_; clear hE a; intro a hE
                obtain ⟨_, hx189, hr⟩ := bindS hr
                obtain ⟨h190, h191⟩ := ix_some hx189
                refine Rg.takeP (i := 9) hE rfl (by kernel_rfl) (runs_plain rfl) (Gives.idx hE ((x1.From).toNat) rfl rfl sl23 h190 (by omega) (hS.hAok 1 rfl (by omega : (x1.From).toNat < q127.length))) rfl (tw_sel (fun _ => ((hS.tail).tail)) (fun _ => ((hS.tail).tail))) ?_; clear hE a; intro a hE
                refine Rg.one (i := 10) true true rfl (by kernel_rfl) (by kernel_rfl) (by kernel_rfl) ?_
                obtain ⟨x192, hx193, hr⟩ := bindS hr
                refine WL.storeND hE hS 0 rfl (runs_plain rfl) rfl rfl ty22 h132 rfl (by have := (sx_some hx193).1; omega) hx193 h187 hn188 rfl ?_; clear hE hS a w; intro ds194 a w h195 hn196 hE hS
                refine WL.nil ?_
                refine ⟨⟨fun _ => (hS.tail), fun _ => (hS.tail)⟩, ?_⟩
                refine Rg.done (by kernel_rfl) ?_
                subst hK178
                refine W.seq ?_
                refine W.seq ?_
                refine W.region ?_
                refine WL.vS hS hE (runs_plain rfl) (Gives.fld hE rfl fl34_1) rfl ?_; clear hE a; intro a hE
                refine WL.vS hS hE (runs_plain rfl) (Gives.loadB hE 4 rfl rfl rfl ty3) rfl ?_; clear hE a; intro a hE
                refine WL.vS hS hE (runs_plain rfl) (Gives.p hE rfl) rfl ?_; clear hE a; intro a hE
                refine WL.nil ?_
                obtain ⟨q198, hq197, hr⟩ := bindS hr
                refine W.cut (fun a w => ∃ (q201 : List (List Int)), ∃ (ds205 : List In), q201 = q198 ∧ NEv 1 (RI .i64) s ds205 q201 ∧ q201.length = q127.length ∧ Rep a 131 [(4, .pointer (some ⟨b53, 0, none⟩)), (8, .pointer (some ⟨b114, 0, none⟩)), (12, .int .i64 x168)] ∧ St w s (nestC 22 3 1 a128 c129 q127.length ds205 :: pt b114 (.cells #[.slice a108 q106.length c109, .slice a128 q127.length c129] 25 (0, 0)) :: vecC 3 1 a108 c109 q106.length cs111 :: pt b53 (.cells #[.slice none 0 0, .slice none 0 0] 25 (0, 0)) :: pt b52 (.cells (FleetMove.cells x1).toArray 34 (0, 0)) :: pt b51 (.cells #[.slice a0_0 x0.Room.length c0_0, .slice a0_1 x0.Tracks.length c0_1] 25 (0, 0)) :: R)) ?_ ?_
                · refine W.gen fun K208 hK208 => ?_
                  refine W.cond hE rfl (fun hc209 => ?_) (fun hc209 => ?_)
                  · replace hq197 := iteT hc209 hq197
                    refine W.gen fun K210 hK210 => ?_
                    refine W.regionE (sel (fun w => St w s (nestC 22 3 1 a128 c129 q127.length ds194 :: pt b114 (.cells #[.slice a108 q106.length c109, .slice a128 q127.length c129] 25 (0, 0)) :: vecC 3 1 a108 c109 q106.length cs111 :: pt b53 (.cells #[.slice none 0 0, .slice none 0 0] 25 (0, 0)) :: pt b52 (.cells (FleetMove.cells x1).toArray 34 (0, 0)) :: pt b51 (.cells #[.slice a0_0 x0.Room.length c0_0, .slice a0_1 x0.Tracks.length c0_1] 25 (0, 0)) :: R)) (fun w => St w s (pt b114 (.cells #[.slice a108 q106.length c109, .slice a128 q127.length c129] 25 (0, 0)) :: vecC 3 1 a108 c109 q106.length cs111 :: pt b53 (.cells #[.slice none 0 0, .slice none 0 0] 25 (0, 0)) :: pt b52 (.cells (FleetMove.cells x1).toArray 34 (0, 0)) :: pt b51 (.cells #[.slice a0_0 x0.Room.length c0_0, .slice a0_1 x0.Tracks.length c0_1] 25 (0, 0)) :: R))) (fun b i => cond b ([0, 1, 2, 3, 4, 5, 6, 7, 8, 9, 10, 11, 13].contains i) ([0, 1, 2, 3, 4, 5, 6, 7, 8, 9, 10, 11, 12, 13, 14].contains i)) mixed ?_
                    replace hS := hS.drew
                    refine Rg.takeP (i := 0) hE rfl (by kernel_rfl) (runs_plain rfl) (Gives.fld hE rfl fl25_1) rfl (tw_sel (fun _ => hS) (fun _ => (hS.tail))) ?_; clear hE a; intro a hE
                    have hT := tw_sel (A := fun w => St w s (nestC 22 3 1 a128 c129 q127.length ds194 :: pt b114 (.cells #[.slice a108 q106.length c109, .slice a128 q127.length c129] 25 (0, 0)) :: vecC 3 1 a108 c109 q106.length cs111 :: pt b53 (.cells #[.slice none 0 0, .slice none 0 0] 25 (0, 0)) :: pt b52 (.cells (FleetMove.cells x1).toArray 34 (0, 0)) :: pt b51 (.cells #[.slice a0_0 x0.Room.length c0_0, .slice a0_1 x0.Tracks.length c0_1] 25 (0, 0)) :: R)) (B := fun w => St w s (pt b114 (.cells #[.slice a108 q106.length c109, .slice a128 q127.length c129] 25 (0, 0)) :: vecC 3 1 a108 c109 q106.length cs111 :: pt b53 (.cells #[.slice none 0 0, .slice none 0 0] 25 (0, 0)) :: pt b52 (.cells (FleetMove.cells x1).toArray 34 (0, 0)) :: pt b51 (.cells #[.slice a0_0 x0.Room.length c0_0, .slice a0_1 x0.Tracks.length c0_1] 25 (0, 0)) :: R)) (w := _) (x := true) (y := true) (fun _ => hS) (fun _ => (hS.tail))
                    have hF := hS; replace hS := (hS.tail)
                    refine Rg.take (i := 1) false rfl hE rfl (by kernel_rfl) (runs_plain rfl) (Gives.loadB hE 0 rfl rfl rfl ty23) rfl hT ?_; clear hE a; intro a hE
                    replace hS := hF; clear hF hT
                    refine Rg.takeP (i := 2) hE rfl (by kernel_rfl) (runs_plain rfl) (Gives.fld hE rfl fl34_1) rfl (tw_sel (fun _ => hS) (fun _ => (hS.tail))) ?_; clear hE a; intro a hE
                    have hT := tw_sel (A := fun w => St w s (nestC 22 3 1 a128 c129 q127.length ds194 :: pt b114 (.cells #[.slice a108 q106.length c109, .slice a128 q127.length c129] 25 (0, 0)) :: vecC 3 1 a108 c109 q106.length cs111 :: pt b53 (.cells #[.slice none 0 0, .slice none 0 0] 25 (0, 0)) :: pt b52 (.cells (FleetMove.cells x1).toArray 34 (0, 0)) :: pt b51 (.cells #[.slice a0_0 x0.Room.length c0_0, .slice a0_1 x0.Tracks.length c0_1] 25 (0, 0)) :: R)) (B := fun w => St w s (pt b114 (.cells #[.slice a108 q106.length c109, .slice a128 q127.length c129] 25 (0, 0)) :: vecC 3 1 a108 c109 q106.length cs111 :: pt b53 (.cells #[.slice none 0 0, .slice none 0 0] 25 (0, 0)) :: pt b52 (.cells (FleetMove.cells x1).toArray 34 (0, 0)) :: pt b51 (.cells #[.slice a0_0 x0.Room.length c0_0, .slice a0_1 x0.Tracks.length c0_1] 25 (0, 0)) :: R)) (w := _) (x := true) (y := true) (fun _ => hS) (fun _ => (hS.tail))
                    have hF := hS; replace hS := (hS.tail)
                    refine Rg.take (i := 3) false rfl hE rfl (by kernel_rfl) (runs_plain rfl) (Gives.loadB hE 3 rfl rfl rfl ty3) rfl hT ?_; clear hE a; intro a hE
                    replace hS := hF; clear hF hT
                    refine Rg.takeP (i := 4) hE rfl (by kernel_rfl) (runs_plain rfl) (Gives.fld hE rfl fl25_1) rfl (tw_sel (fun _ => hS) (fun _ => (hS.tail))) ?_; clear hE a; intro a hE
                    have hT := tw_sel (A := fun w => St w s (nestC 22 3 1 a128 c129 q127.length ds194 :: pt b114 (.cells #[.slice a108 q106.length c109, .slice a128 q127.length c129] 25 (0, 0)) :: vecC 3 1 a108 c109 q106.length cs111 :: pt b53 (.cells #[.slice none 0 0, .slice none 0 0] 25 (0, 0)) :: pt b52 (.cells (FleetMove.cells x1).toArray 34 (0, 0)) :: pt b51 (.cells #[.slice a0_0 x0.Room.length c0_0, .slice a0_1 x0.Tracks.length c0_1] 25 (0, 0)) :: R)) (B := fun w => St w s (pt b114 (.cells #[.slice a108 q106.length c109, .slice a128 q127.length c129] 25 (0, 0)) :: vecC 3 1 a108 c109 q106.length cs111 :: pt b53 (.cells #[.slice none 0 0, .slice none 0 0] 25 (0, 0)) :: pt b52 (.cells (FleetMove.cells x1).toArray 34 (0, 0)) :: pt b51 (.cells #[.slice a0_0 x0.Room.length c0_0, .slice a0_1 x0.Tracks.length c0_1] 25 (0, 0)) :: R)) (w := _) (x := true) (y := true) (fun _ => hS) (fun _ => (hS.tail))
                    have hF := hS; replace hS := (hS.tail)
                    refine Rg.take (i := 5) false rfl hE rfl (by kernel_rfl) (runs_plain rfl) (Gives.loadB hE 0 rfl rfl rfl ty23) rfl hT ?_; clear hE a; intro a hE
                    replace hS := hF; clear hF hT
                    refine Rg.takeP (i := 6) hE rfl (by kernel_rfl) (runs_plain rfl) (Gives.fld hE rfl fl34_1) rfl (tw_sel (fun _ => hS) (fun _ => (hS.tail))) ?_; clear hE a; intro a hE
                    have hT := tw_sel (A := fun w => St w s (nestC 22 3 1 a128 c129 q127.length ds194 :: pt b114 (.cells #[.slice a108 q106.length c109, .slice a128 q127.length c129] 25 (0, 0)) :: vecC 3 1 a108 c109 q106.length cs111 :: pt b53 (.cells #[.slice none 0 0, .slice none 0 0] 25 (0, 0)) :: pt b52 (.cells (FleetMove.cells x1).toArray 34 (0, 0)) :: pt b51 (.cells #[.slice a0_0 x0.Room.length c0_0, .slice a0_1 x0.Tracks.length c0_1] 25 (0, 0)) :: R)) (B := fun w => St w s (pt b114 (.cells #[.slice a108 q106.length c109, .slice a128 q127.length c129] 25 (0, 0)) :: vecC 3 1 a108 c109 q106.length cs111 :: pt b53 (.cells #[.slice none 0 0, .slice none 0 0] 25 (0, 0)) :: pt b52 (.cells (FleetMove.cells x1).toArray 34 (0, 0)) :: pt b51 (.cells #[.slice a0_0 x0.Room.length c0_0, .slice a0_1 x0.Tracks.length c0_1] 25 (0, 0)) :: R)) (w := _) (x := true) (y := true) (fun _ => hS) (fun _ => (hS.tail))
                    have hF := hS; replace hS := (hS.tail)
                    refine Rg.take (i := 7) false rfl hE rfl (by kernel_rfl) (runs_plain rfl) (Gives.loadB hE 3 rfl rfl rfl ty3) rfl hT ?_; clear hE a; intro a hE
                    replace hS := hF; clear hF hT
                    obtain ⟨x211, hx212, hq197⟩ := bindS hq197
                    obtain ⟨hi213, hlt214, hy215⟩ := gx_some hx212
                    obtain ⟨a216, c217, cs218, hd219, hev220⟩ := h195.at hy215
                    refine Rg.takeP (i := 8) hE rfl (by kernel_rfl) (runs_plain rfl) (Gives.idx hE ((x1.To).toNat) rfl rfl sl23 hi213 (by have := hn196; omega) (hS.nAok 0 rfl (by have := hn196; omega : (x1.To).toNat < q127.length))) rfl (tw_sel (fun _ => hS) (fun _ => (hS.tail))) ?_; clear hE a; intro a hE
                    have hT := tw_sel (A := fun w => St w s (nestC 22 3 1 a128 c129 q127.length ds194 :: pt b114 (.cells #[.slice a108 q106.length c109, .slice a128 q127.length c129] 25 (0, 0)) :: vecC 3 1 a108 c109 q106.length cs111 :: pt b53 (.cells #[.slice none 0 0, .slice none 0 0] 25 (0, 0)) :: pt b52 (.cells (FleetMove.cells x1).toArray 34 (0, 0)) :: pt b51 (.cells #[.slice a0_0 x0.Room.length c0_0, .slice a0_1 x0.Tracks.length c0_1] 25 (0, 0)) :: R)) (B := fun w => St w s (pt b114 (.cells #[.slice a108 q106.length c109, .slice a128 q127.length c129] 25 (0, 0)) :: vecC 3 1 a108 c109 q106.length cs111 :: pt b53 (.cells #[.slice none 0 0, .slice none 0 0] 25 (0, 0)) :: pt b52 (.cells (FleetMove.cells x1).toArray 34 (0, 0)) :: pt b51 (.cells #[.slice a0_0 x0.Room.length c0_0, .slice a0_1 x0.Tracks.length c0_1] 25 (0, 0)) :: R)) (w := _) (x := true) (y := true) (fun _ => hS) (fun _ => (hS.tail))
                    have hF := hS; replace hS := hS
                    refine Rg.take (i := 9) true rfl hE rfl (by kernel_rfl) (runs_plain rfl) (Gives.load1 (v := .slice a216 x211.length c217) hE rfl (fun w h => St.nSees h 0 rfl hd219) ty22) rfl hT ?_; clear hE a; intro a hE
                    replace hS := hF; clear hF hT
                    refine Rg.takeP (i := 10) hE rfl (by kernel_rfl) (runs_plain rfl) (Gives.p hE rfl) rfl (tw_sel (fun _ => hS) (fun _ => (hS.tail))) ?_; clear hE a; intro a hE
                    refine Rg.one (i := 11) true true rfl (by kernel_rfl) (by kernel_rfl) (by kernel_rfl) ?_
                    refine WL.lit hE hS (e := 3) (es := 1) (vs := [(0, .int .i64 x168)]) (cs := [.int .i64 x168]) (runs_plain rfl) rfl (by kernel_rfl) rfl ?_; clear hE hS a w; intro b221 a w hE hS
                    refine WL.nil ?_
                    refine ⟨⟨fun _ => (hS.tail), fun _ => ((hS.tail).tail)⟩, ?_⟩
                    refine Rg.one (i := 12) false true rfl (by kernel_rfl) (by kernel_rfl) (by kernel_rfl) ?_
                    replace hS := hS.borrowM 1 rfl hd219
                    replace hS := hS.front 1 rfl
                    obtain ⟨x223, hx224, hq197⟩ := bindS hq197
                    refine WL.appD hE hS 0 (m := 1) (runs_plain rfl) rfl rfl rfl ap22 rfl hev220 (rfl) (xs := [x168]) (Ev.cons (c1 := [.int .i64 x168]) rfl rfl (Ev.nil)) rfl rfl hx224 rfl ?_; clear hE hS a w; intro a225 c226 cs227 a w h228 hE hS
                    refine WL.nil ?_
                    refine ⟨⟨fun h => absurd h (by decide), fun _ => ((hS.tail).tail)⟩, ?_⟩
                    obtain ⟨_, hx229, hq197⟩ := bindS hq197
                    obtain ⟨h230, h231⟩ := ix_some hx229
                    refine Rg.takeP (i := 13) hE rfl (by kernel_rfl) (runs_plain rfl) (Gives.idx hE ((x1.To).toNat) rfl rfl sl23 h230 (by have := hn196; omega) (hS.hAok 1 rfl (by have := hn196; omega : (x1.To).toNat < q127.length))) rfl (tw_sel (fun h => absurd h (by decide)) (fun _ => ((hS.tail).tail))) ?_; clear hE a; intro a hE
                    refine Rg.one (i := 14) false true rfl (by kernel_rfl) (by kernel_rfl) (by kernel_rfl) ?_
                    obtain ⟨x232, hx233, hq197⟩ := bindS hq197
                    refine WL.storeND hE hS 0 rfl (runs_plain rfl) rfl rfl ty22 h195 hn196 (by have := (sx_some hx233).1; omega) hx233 h228 (rfl) rfl ?_; clear hE hS a w; intro ds234 a w h235 hn236 hE hS
                    refine WL.nil ?_
                    refine ⟨⟨fun h => absurd h (by decide), fun _ => (hS.tail)⟩, ?_⟩
                    refine Rg.done (by kernel_rfl) ?_
                    subst hK210
                    subst hK208
                    exact ⟨x232, ds234, Option.some.inj hq197, h235, hn236, hE.pick _ ⟨rfl, rfl, rfl, trivial⟩, hS⟩
                  · replace hq197 := iteF hc209 hq197
                    refine W.skip ?_
                    subst hK208
                    exact ⟨x192, ds194, Option.some.inj hq197, h195, hn196, hE.pick _ ⟨rfl, rfl, rfl, trivial⟩, hS⟩
                · clear hE hS a w; rintro a w ⟨q201, ds205, rfl, h206, hn207, hE, hS⟩
                  refine W.seq ?_
                  refine W.region ?_
                  refine WL.vS hS hE (runs_plain rfl) (Gives.loadBA hE 1 rfl rfl ty25) rfl ?_; clear hE a; intro a hE
                  refine WL.vS hS hE (runs_plain rfl) (Gives.p hE rfl) rfl ?_; clear hE a; intro a hE
                  refine WL.storeI hE hS 3 rfl [.slice a108 q106.length c109, .slice a128 q127.length c129] (runs_plain rfl) rfl rfl rfl ty25 rfl rfl rfl rfl ?_; clear hE hS a w; intro a w hE hS
                  refine WL.vS hS hE (runs_plain rfl) (Gives.p hE rfl) rfl ?_; clear hE a; intro a hE
                  refine WL.vS hS hE (runs_plain rfl) (Gives.p hE rfl) rfl ?_; clear hE a; intro a hE
                  refine WL.nil ?_
                  refine W.ret ?_
                  have hF := hS.fixD RI.mono 2 rfl h112 rfl; clear hS; obtain ⟨s237, hle238, hS, h239⟩ := hF
                  replace h206 := NEv.mono RI.mono hle238 h206
                  replace h0_0 := Sl.mono RI.mono hle238 h0_0
                  replace h0_1 := Sl.mono (RL.mono RI.mono) hle238 h0_1
                  have hF := hS.fixN RI.mono 0 rfl h206 hn207; clear hS; obtain ⟨s240, hle241, hS, h242⟩ := hF
                  (try rw [← hn207] at hE)
                  (try rw [← hn207] at hS)
                  replace h239 := Sl.mono RI.mono hle241 h239
                  replace h0_0 := Sl.mono RI.mono hle241 h0_0
                  replace h0_1 := Sl.mono (RL.mono RI.mono) hle241 h0_1
                  refine finG (fn := Tryd.f15) (rs := [.cell 4 25, .tmp 5, .tmp 6]) (vs := [_, _, _]) hE rfl ⟨⟨_, rfl, .inl ⟨_, rfl, hS.seesAt 1 rfl, ty25⟩⟩, rfl, rfl, trivial⟩ ?_
                  obtain rfl := Option.some.inj hr
                  replace hS := hS.tail
                  replace hS := hS.tail
                  replace hS := hS.tail
                  replace hS := hS.tail
                  exact ⟨_, s240, rfl, (Sg.Le.trans hle238 hle241), ⟨_, _, _, _, rfl, h239, h242⟩, hS⟩
set_option maxHeartbeats 8000000 in
theorem SlicesCloneLfleetMove_ok  {w : World} {s : Sg} {R : List HP} {x0 : List FleetMove} {a0 : Option Addr} {c0 : Nat} (hS : St w s (R)) (h0 : Sl 2 RFleetMove s a0 c0 x0) {r : (List FleetMove)} (hr : SlicesCloneLfleetMove x0 = some r) :
    Calls Tryd.prog 16 [.slice a0 x0.length c0].toArray w (fun e w => ∃ (a0 : Option Addr) (c0 n0 : Nat) (cs0 : List Value), e = .returned (.slice a0 n0 c0) ∧ Ev 2 RFleetMove s cs0 r ∧ r.length = n0 ∧ St w s (vecC 34 2 a0 c0 n0 cs0 :: R)) := by
  refine enter Tryd.func16 rfl rfl rfl fun a hE => ?_
  rw [SlicesCloneLfleetMove] at hr
  refine W.seq ?_
  refine W.region ?_
  refine WL.vS hS hE (runs_plain rfl) (Gives.p hE rfl) rfl ?_; clear hE a; intro a hE
  refine WL.nil ?_
  refine W.seq ?_
  refine W.seq ?_
  refine W.region ?_
  refine WL.vS hS hE (runs_plain rfl) (Gives.p hE rfl) rfl ?_; clear hE a; intro a hE
  refine WL.vS hS hE (runs_plain rfl) (Gives.isNil hE rfl rfl isl26) rfl ?_; clear hE a; intro a hE
  refine WL.nil ?_
  rcases a0 with _ | g51
  · obtain rfl := h0.none_nil
    replace hr : some [] = _ := hr
    refine W.condT hE rfl rfl ?_
    refine W.seq ?_
    refine W.region ?_
    refine WL.vS hS hE (runs_plain rfl) (Gives.p hE rfl) rfl ?_; clear hE a; intro a hE
    refine WL.nil ?_
    refine W.ret ?_
    replace hS := hS.vecNil 34 2
    refine finG (fn := Tryd.f16) (rs := [.tmp 2]) (vs := [_]) hE rfl ⟨rfl, trivial⟩ ?_
    obtain rfl := Option.some.inj hr
    exact ⟨none, 0, 0, [], rfl, (Ev.nil), (rfl), hS⟩
  · skip
    refine W.condF hE rfl rfl ?_
    refine W.skip ?_
    refine W.seq ?_
    refine W.region ?_
    refine WL.lit hE hS (e := 34) (es := 2) (vs := []) (cs := []) (runs_plain rfl) rfl (by kernel_rfl) rfl ?_; clear hE hS a w; intro b53 a w hE hS
    replace hS := hS.ptVec (es := 2) (m := 0) rfl (by decide)
    have h55 : Ev 2 RFleetMove s [] [] := (Ev.nil)
    refine WL.vS hS hE (runs_plain rfl) (Gives.p hE rfl) rfl ?_; clear hE a; intro a hE
    obtain ⟨x56, hx57, hr⟩ := bindS hr
    refine WL.appS hE hS 0 (runs_plain rfl) rfl rfl (xs := x0) rfl rfl ap26 RFleetMove.one h55 (rfl) h0 hx57 rfl ?_; clear hE hS a w; intro a58 c59 cs60 a w h61 hE hS
    refine WL.vS hS hE (runs_plain rfl) (Gives.p hE rfl) rfl ?_; clear hE a; intro a hE
    refine WL.nil ?_
    refine W.ret ?_
    refine finG (fn := Tryd.f16) (rs := [.tmp 2]) (vs := [_]) hE rfl ⟨rfl, trivial⟩ ?_
    obtain rfl := Option.some.inj hr
    exact ⟨a58, c59, x56.length, cs60, rfl, h61, (rfl), hS⟩
set_option maxHeartbeats 8000000 in
theorem FleetShunt_ok {fu : Nat}  {w : World} {s : Sg} {R : List HP} {x0 : FleetDepot} {a0_0 : Option Addr} {c0_0 : Nat} {a0_1 : Option Addr} {c0_1 : Nat} {x1 : List Int} {a1 : Option Addr} {c1 : Nat} {x2 : List Int} {a2 : Option Addr} {c2 : Nat} (hS : St w s (R)) (h0_0 : Sl 1 (RI .i64) s a0_0 c0_0 x0.Room) (h0_1 : Sl 1 (RL 1 (RI .i64)) s a0_1 c0_1 x0.Tracks) (h1 : Sl 1 (RI .i64) s a1 c1 x1) (h2 : Sl 1 (RI .i64) s a2 c2 x2) {r : (List FleetMove) × Int} (hr : FleetShunt fu x0 x1 x2 = some r) :
    Calls Tryd.prog 4 [.agg [.slice a0_0 x0.Room.length c0_0, .slice a0_1 x0.Tracks.length c0_1].toArray, .slice a1 x1.length c1, .slice a2 x2.length c2].toArray w (fun e w => ∃ (a0 : Option Addr) (c0 : Nat) (t : Sg), e = .returned (.tuple #[.slice a0 r.1.length c0, .int .i64 r.2]) ∧ s.Le t ∧ Sl 2 RFleetMove t a0 c0 r.1 ∧ St w t (R)) := by
  refine enter Tryd.func4 rfl rfl rfl fun a hE => ?_
  rw [FleetShunt] at hr
  refine W.seq ?_
  refine W.region ?_
  refine WL.box hE hS (runs_plain rfl) rfl rfl rfl ?_; clear hE hS a w; intro b51 a w hE hS
  refine WL.box hE hS (runs_plain rfl) rfl rfl rfl ?_; clear hE hS a w; intro b52 a w hE hS
  refine WL.vS hS hE (runs_plain rfl) (Gives.p hE rfl) rfl ?_; clear hE a; intro a hE
  refine WL.vS hS hE (runs_plain rfl) (Gives.p hE rfl) rfl ?_; clear hE a; intro a hE
  refine WL.nil ?_
  refine W.seq ?_
  refine W.seq ?_
  refine W.region ?_
  refine WL.vS hS hE (runs_plain rfl) (Gives.loadBA hE 1 rfl rfl ty25) rfl ?_; clear hE a; intro a hE
  obtain ⟨q53, hq54, hr⟩ := bindS hr
  have hc_ := FleetCheckDepot_ok hS h0_0 h0_1 hq54
  refine WL.fnq hE (hc_) (runs_plain rfl) bd9 rfl rfl rfl ?_
  clear hE hS hc_; rintro e w ⟨rfl, hS⟩; refine ⟨_, rfl, ?_⟩; clear a; intro a hE
  refine WL.vS hS hE (runs_plain rfl) (Gives.p hE rfl) rfl ?_; clear hE a; intro a hE
  refine WL.nil ?_
  refine W.seq ?_
  refine W.region ?_
  refine WL.vS hS hE (runs_plain rfl) (Gives.p hE rfl) rfl ?_; clear hE a; intro a hE
  refine WL.vS hS hE (runs_plain rfl) (Gives.p hE rfl) rfl ?_; clear hE a; intro a hE
  refine WL.nil ?_
  refine W.cond hE rfl (fun hc55 => ?_) (fun hc55 => ?_)
  · replace hr := iteT hc55 hr
    refine W.seq ?_
    refine W.region ?_
    refine WL.vS hS hE (runs_plain rfl) (Gives.p hE rfl) rfl ?_; clear hE a; intro a hE
    refine WL.vS hS hE (runs_plain rfl) (Gives.p hE rfl) rfl ?_; clear hE a; intro a hE
    refine WL.vS hS hE (runs_plain rfl) (Gives.p hE rfl) rfl ?_; clear hE a; intro a hE
    refine WL.nil ?_
    refine W.ret ?_
    refine finG (fn := Tryd.f4) (rs := [.tmp 6, .tmp 7]) (vs := [_, _]) hE rfl ⟨rfl, rfl, trivial⟩ ?_
    obtain rfl := Option.some.inj hr
    replace hS := hS.tail
    replace hS := hS.tail
    exact ⟨none, 0, s, rfl, (Sg.Le.refl _), Sl.nil, hS⟩
  · replace hr := iteF hc55 hr
    refine W.skip ?_
    refine W.seq ?_
    refine W.region ?_
    refine WL.vS hS hE (runs_plain rfl) (Gives.p hE rfl) rfl ?_; clear hE a; intro a hE
    refine WL.nil ?_
    refine W.seq ?_
    refine W.seq ?_
    refine W.region ?_
    refine WL.vS hS hE (runs_plain rfl) (Gives.fld hE rfl fl25_1) rfl ?_; clear hE a; intro a hE
    refine WL.vS hS hE (runs_plain rfl) (Gives.loadB hE 1 rfl rfl rfl ty23) rfl ?_; clear hE a; intro a hE
    refine WL.vS hS hE (runs_plain rfl) (Gives.len hE rfl sl23) rfl ?_; clear hE a; intro a hE
    refine WL.vS hS hE (runs_plain rfl) (Gives.p hE rfl) rfl ?_; clear hE a; intro a hE
    refine WL.nil ?_
    obtain ⟨q57, hq56, hr⟩ := bndS hr
    refine W.cut (fun a w => ∃ (q67 : Int), q67 = q57 ∧ Rep a 154 [(2, .slice a2 x2.length c2), (3, .pointer (some ⟨b51, 0, none⟩)), (4, .pointer (some ⟨b52, 0, none⟩)), (9, .int .i64 q67)] ∧ St w s (pt b52 (.cells #[.slice a1 x1.length c1] 22 (0, 0)) :: pt b51 (.cells #[.slice a0_0 x0.Room.length c0_0, .slice a0_1 x0.Tracks.length c0_1] 25 (0, 0)) :: R)) ?_ ?_
    · refine W.block ?_
      refine W.loop (fun m a w => ∃ (rest60 : List (List Int)) (k58 : Nat), ∃ (q67 : Int), rest60.length = m ∧ x0.Tracks.drop k58 = rest60 ∧ FleetShunt.loop1 rest60 q67 = q57 ∧ Rep a 154 [(2, .slice a2 x2.length c2), (3, .pointer (some ⟨b51, 0, none⟩)), (4, .pointer (some ⟨b52, 0, none⟩)), (9, .int .i64 q67), (32, .slice a0_1 x0.Tracks.length c0_1), (33, .int .i64 ((x0.Tracks).length : Int)), (34, .int .i64 ((k58 : Nat) : Int))] ∧ St w s (pt b52 (.cells #[.slice a1 x1.length c1] 22 (0, 0)) :: pt b51 (.cells #[.slice a0_0 x0.Room.length c0_0, .slice a0_1 x0.Tracks.length c0_1] 25 (0, 0)) :: R)) (m := x0.Tracks.length) ⟨x0.Tracks, 0, 0, rfl, rfl, hq56, hE.pick _ ⟨rfl, rfl, rfl, rfl, rfl, rfl, rfl, trivial⟩, hS⟩ ?_
      clear hE hS a w hq56; rintro m64 a w ⟨rest60, k58, q67, rfl, hd61, hq56, hE, hS⟩
      refine W.gen fun K68 hK68 => ?_
      rcases rest60 with _ | ⟨x59, rest60⟩
      · have hlt62 := drop_nil hd61
        refine W.seq ?_
        refine W.region ?_
        refine WL.vS hS hE (runs_plain rfl) (Gives.p hE rfl) rfl ?_; clear hE a; intro a hE
        refine WL.nil ?_
        refine W.seq ?_
        refine W.condF hE rfl (decide_eq_false (by omega)) ?_
        subst hK68
        refine W.exit rfl ?_
        exact ⟨q67, hq56, hE.pick _ ⟨rfl, rfl, rfl, rfl, trivial⟩, hS⟩
      · obtain ⟨hlt62, hx63, hd61⟩ := drop_cons hd61
        rw [FleetShunt.loop1] at hq56
        refine W.seq ?_
        refine W.region ?_
        refine WL.vS hS hE (runs_plain rfl) (Gives.p hE rfl) rfl ?_; clear hE a; intro a hE
        refine WL.nil ?_
        refine W.seq ?_
        refine W.condT hE rfl (decide_eq_true (by omega)) ?_
        refine W.skip ?_
        refine W.seq ?_
        refine W.block ?_
        refine W.seq ?_
        refine W.region ?_
        obtain ⟨cs69, hl70, hR71, hat72⟩ := h0_1.at hx63
        obtain ⟨a73, c74, rfl, h75⟩ := hR71
        refine WL.vS hS hE (runs_plain rfl) (Gives.idx hE k58 rfl rfl sl23 rfl hlt62 (h0_1.aok hlt62)) rfl ?_; clear hE a; intro a hE
        refine WL.vS hS hE (runs_plain rfl) (Gives.load1 hE rfl (fun w h => hat72 w _ h) ty22) rfl ?_; clear hE a; intro a hE
        refine WL.vS hS hE (runs_plain rfl) (Gives.p hE rfl) rfl ?_; clear hE a; intro a hE
        refine WL.nil ?_
        refine W.region ?_
        refine WL.vS hS hE (runs_plain rfl) (Gives.p hE rfl) rfl ?_; clear hE a; intro a hE
        refine WL.vS hS hE (runs_plain rfl) (Gives.p hE rfl) rfl ?_; clear hE a; intro a hE
        refine WL.vS hS hE (runs_plain rfl) (Gives.len hE rfl sl22) rfl ?_; clear hE a; intro a hE
        refine WL.vS hS hE (runs_plain rfl) (Gives.p hE rfl) rfl ?_; clear hE a; intro a hE
        refine WL.vS hS hE (runs_plain rfl) (Gives.p hE rfl) rfl ?_; clear hE a; intro a hE
        refine WL.nil ?_
        refine W.region ?_
        refine WL.vS hS hE (runs_plain rfl) (Gives.inc hE rfl (by have := h0_1.small; omega)) rfl ?_; clear hE a; intro a hE
        refine WL.vS hS hE (runs_plain rfl) (Gives.p hE rfl) rfl ?_; clear hE a; intro a hE
        refine WL.nil ?_
        subst hK68
        exact ⟨rest60.length, Nat.lt_succ_self _, rest60, k58 + 1, (w64 (q67 + ((x59).length : Int))), rfl, hd61, hq56, hE.pick _ ⟨rfl, rfl, rfl, rfl, rfl, rfl, rfl, trivial⟩, hS⟩
    · clear hE hS a w; rintro a w ⟨q67, rfl, hE, hS⟩
      refine W.seq ?_
      refine W.seq ?_
      refine W.region ?_
      refine WL.vS hS hE (runs_plain rfl) (Gives.p hE rfl) rfl ?_; clear hE a; intro a hE
      refine WL.vS hS hE (runs_plain rfl) (Gives.p hE rfl) rfl ?_; clear hE a; intro a hE
      refine WL.nil ?_
      refine W.cond hE rfl (fun hc76 => ?_) (fun hc76 => ?_)
      · replace hr := iteT hc76 hr
        refine W.seq ?_
        refine W.region ?_
        refine WL.vS hS hE (runs_plain rfl) (Gives.p hE rfl) rfl ?_; clear hE a; intro a hE
        refine WL.vS hS hE (runs_plain rfl) (Gives.p hE rfl) rfl ?_; clear hE a; intro a hE
        refine WL.nil ?_
        refine W.ret ?_
        refine finG (fn := Tryd.f4) (rs := [.tmp 6, .tmp 7]) (vs := [_, _]) hE rfl ⟨rfl, rfl, trivial⟩ ?_
        obtain rfl := Option.some.inj hr
        replace hS := hS.tail
        replace hS := hS.tail
        exact ⟨none, 0, s, rfl, (Sg.Le.refl _), Sl.nil, hS⟩
      · replace hr := iteF hc76 hr
        refine W.skip ?_
        refine W.seq ?_
        refine W.seq ?_
        refine W.region ?_
        refine WL.vS hS hE (runs_plain rfl) (Gives.fld hE rfl fl25_1) rfl ?_; clear hE a; intro a hE
        refine WL.vS hS hE (runs_plain rfl) (Gives.loadB hE 1 rfl rfl rfl ty23) rfl ?_; clear hE a; intro a hE
        refine WL.vS hS hE (runs_plain rfl) (Gives.len hE rfl sl23) rfl ?_; clear hE a; intro a hE
        refine WL.vS hS hE (runs_plain rfl) (Gives.p hE rfl) rfl ?_; clear hE a; intro a hE
        refine WL.nil ?_
        obtain ⟨q78, hq77, hr⟩ := bndS hr
        refine W.cut (fun a w => (.next ()) = q78 ∧ Rep a 154 [(2, .slice a2 x2.length c2), (3, .pointer (some ⟨b51, 0, none⟩)), (4, .pointer (some ⟨b52, 0, none⟩)), (9, .int .i64 q67)] ∧ St w s (pt b52 (.cells #[.slice a1 x1.length c1] 22 (0, 0)) :: pt b51 (.cells #[.slice a0_0 x0.Room.length c0_0, .slice a0_1 x0.Tracks.length c0_1] 25 (0, 0)) :: R)) ?_ ?_
        · refine W.block ?_
          refine W.loop (fun m a w => ∃ (rest81 : List (List Int)) (k79 : Nat), rest81.length = m ∧ x0.Tracks.drop k79 = rest81 ∧ FleetShunt.loop2 x1 rest81 = q78 ∧ Rep a 154 [(2, .slice a2 x2.length c2), (3, .pointer (some ⟨b51, 0, none⟩)), (4, .pointer (some ⟨b52, 0, none⟩)), (9, .int .i64 q67), (46, .slice a0_1 x0.Tracks.length c0_1), (47, .int .i64 ((x0.Tracks).length : Int)), (48, .int .i64 ((k79 : Nat) : Int))] ∧ St w s (pt b52 (.cells #[.slice a1 x1.length c1] 22 (0, 0)) :: pt b51 (.cells #[.slice a0_0 x0.Room.length c0_0, .slice a0_1 x0.Tracks.length c0_1] 25 (0, 0)) :: R)) (m := x0.Tracks.length) ⟨x0.Tracks, 0, rfl, rfl, hq77, hE.pick _ ⟨rfl, rfl, rfl, rfl, rfl, rfl, rfl, trivial⟩, hS⟩ ?_
          clear hE hS a w hq77; rintro m85 a w ⟨rest81, k79, rfl, hd82, hq77, hE, hS⟩
          refine W.gen fun K88 hK88 => ?_
          rcases rest81 with _ | ⟨x80, rest81⟩
          · have hlt83 := drop_nil hd82
            refine W.seq ?_
            refine W.region ?_
            refine WL.vS hS hE (runs_plain rfl) (Gives.p hE rfl) rfl ?_; clear hE a; intro a hE
            refine WL.nil ?_
            refine W.seq ?_
            refine W.condF hE rfl (decide_eq_false (by omega)) ?_
            subst hK88
            refine W.exit rfl ?_
            exact ⟨hq77, hE.pick _ ⟨rfl, rfl, rfl, rfl, trivial⟩, hS⟩
          · obtain ⟨hlt83, hx84, hd82⟩ := drop_cons hd82
            rw [FleetShunt.loop2] at hq77
            refine W.seq ?_
            refine W.region ?_
            refine WL.vS hS hE (runs_plain rfl) (Gives.p hE rfl) rfl ?_; clear hE a; intro a hE
            refine WL.nil ?_
            refine W.seq ?_
            refine W.condT hE rfl (decide_eq_true (by omega)) ?_
            refine W.skip ?_
            refine W.seq ?_
            refine W.block ?_
            refine W.seq ?_
            refine W.region ?_
            obtain ⟨cs89, hl90, hR91, hat92⟩ := h0_1.at hx84
            obtain ⟨a93, c94, rfl, h95⟩ := hR91
            refine WL.vS hS hE (runs_plain rfl) (Gives.idx hE k79 rfl rfl sl23 rfl hlt83 (h0_1.aok hlt83)) rfl ?_; clear hE a; intro a hE
            refine WL.vS hS hE (runs_plain rfl) (Gives.load1 hE rfl (fun w h => hat92 w _ h) ty22) rfl ?_; clear hE a; intro a hE
            refine WL.vS hS hE (runs_plain rfl) (Gives.p hE rfl) rfl ?_; clear hE a; intro a hE
            refine WL.nil ?_
            refine W.seq ?_
            refine W.region ?_
            refine WL.vS hS hE (runs_plain rfl) (Gives.p hE rfl) rfl ?_; clear hE a; intro a hE
            refine WL.vS hS hE (runs_plain rfl) (Gives.mkfn hE (vs := [.pointer (some ⟨b52, 0, none⟩)]) rfl) rfl ?_; clear hE a; intro a hE
            refine WL.fnq hE (SlicesContainsFuncLint_v1_ok hS h95 h1 rfl (r := SlicesContainsFuncLint_v1 x80 x1)) (runs_plain rfl) bd10 rfl rfl rfl ?_
            clear hE hS; rintro e w ⟨rfl, hS⟩; refine ⟨_, rfl, ?_⟩; clear a; intro a hE
            refine WL.nil ?_
            refine W.cond hE rfl (fun hc96 => ?_) (fun hc96 => ?_)
            · replace hq77 := iteT hc96 hq77
              refine W.seq ?_
              refine W.region ?_
              refine WL.vS hS hE (runs_plain rfl) (Gives.p hE rfl) rfl ?_; clear hE a; intro a hE
              refine WL.vS hS hE (runs_plain rfl) (Gives.p hE rfl) rfl ?_; clear hE a; intro a hE
              refine WL.nil ?_
              refine W.ret ?_
              subst hK88
              rw [← hq77] at hr
              dsimp only at hr
              refine finG (fn := Tryd.f4) (rs := [.tmp 6, .tmp 7]) (vs := [_, _]) hE rfl ⟨rfl, rfl, trivial⟩ ?_
              obtain rfl := Option.some.inj hr
              replace hS := hS.tail
              replace hS := hS.tail
              exact ⟨none, 0, s, rfl, (Sg.Le.refl _), Sl.nil, hS⟩
            · replace hq77 := iteF hc96 hq77
              refine W.skip ?_
              refine W.region ?_
              refine WL.vS hS hE (runs_plain rfl) (Gives.inc hE rfl (by have := h0_1.small; omega)) rfl ?_; clear hE a; intro a hE
              refine WL.vS hS hE (runs_plain rfl) (Gives.p hE rfl) rfl ?_; clear hE a; intro a hE
              refine WL.nil ?_
              subst hK88
              exact ⟨rest81.length, Nat.lt_succ_self _, rest81, k79 + 1, rfl, hd82, hq77, hE.pick _ ⟨rfl, rfl, rfl, rfl, rfl, rfl, rfl, trivial⟩, hS⟩
        · clear hE hS a w; rintro a w ⟨rfl, hE, hS⟩
          dsimp only at hr
          refine W.seq ?_
          refine W.seq ?_
          refine W.region ?_
          refine WL.vS hS hE (runs_plain rfl) (Gives.p hE rfl) rfl ?_; clear hE a; intro a hE
          refine WL.vS hS hE (runs_plain rfl) (Gives.len hE rfl sl22) rfl ?_; clear hE a; intro a hE
          refine WL.vS hS hE (runs_plain rfl) (Gives.p hE rfl) rfl ?_; clear hE a; intro a hE
          refine WL.vS hS hE (runs_plain rfl) (Gives.p hE rfl) rfl ?_; clear hE a; intro a hE
          refine WL.nil ?_
          refine W.cond hE rfl (fun hc97 => ?_) (fun hc97 => ?_)
          · replace hr := iteT hc97 hr
            refine W.seq ?_
            refine W.region ?_
            refine WL.vS hS hE (runs_plain rfl) (Gives.p hE rfl) rfl ?_; clear hE a; intro a hE
            refine WL.vS hS hE (runs_plain rfl) (Gives.p hE rfl) rfl ?_; clear hE a; intro a hE
            refine WL.nil ?_
            refine W.ret ?_
            refine finG (fn := Tryd.f4) (rs := [.tmp 6, .tmp 7]) (vs := [_, _]) hE rfl ⟨rfl, rfl, trivial⟩ ?_
            obtain rfl := Option.some.inj hr
            replace hS := hS.tail
            replace hS := hS.tail
            exact ⟨none, 0, s, rfl, (Sg.Le.refl _), Sl.nil, hS⟩
          · replace hr := iteF hc97 hr
            refine W.skip ?_
            refine W.seq ?_
            refine W.region ?_
            refine WL.mkMap (fk := (PadK.f (n := 4 * 4))) (fv := Value.bool) hE hS (runs_plain rfl) rfl ?_; clear hE hS a w; intro b98 a w hE hS
            refine WL.vS hS hE (runs_plain rfl) (Gives.loadBA hE 2 rfl rfl ty25) rfl ?_; clear hE a; intro a hE
            obtain ⟨q99, hq100, hr⟩ := bindS hr
            have hc_ := FleetstateOf_ok hS h0_0 h0_1 hq100
            refine WL.fnq hE (hc_) (runs_plain rfl) bd12 rfl rfl rfl ?_
            clear hE hS hc_; rintro e w ⟨cs101, rfl, h102, hS⟩; refine ⟨_, rfl, ?_⟩; clear a; intro a hE
            refine WL.mapSetG (keyAr ar2_41) hE hS 0 (k := (PadK.mk q99 : PadK (4 * 4))) (v := true) (.inr rfl) (runs_plain rfl) rfl (padk_of h102.1 h102.2) rfl rfl um43 rfl ?_; clear hE hS a w; intro a w hE hS
            refine WL.vS hS hE (runs_plain rfl) (Gives.p hE rfl) rfl ?_; clear hE a; intro a hE
            refine WL.vS hS hE (runs_plain rfl) (Gives.p hE rfl) rfl ?_; clear hE a; intro a hE
            refine WL.nil ?_
            refine W.seq ?_
            refine W.region ?_
            refine WL.vS hS hE (runs_plain rfl) (Gives.build hE (vs := []) [.slice none 0 0] rfl (by kernel_rfl)) rfl ?_; clear hE a; intro a hE
            refine WL.box hE hS (runs_plain rfl) rfl rfl rfl ?_; clear hE hS a w; intro b103 a w hE hS
            refine WL.vS hS hE (runs_plain rfl) (Gives.p hE rfl) rfl ?_; clear hE a; intro a hE
            refine WL.nil ?_
            refine W.seq ?_
            refine W.region ?_
            refine WL.vS hS hE (runs_plain rfl) (Gives.p hE rfl) rfl ?_; clear hE a; intro a hE
            refine WL.vS hS hE (runs_plain rfl) (Gives.loadBA hE 3 rfl rfl ty25) rfl ?_; clear hE a; intro a hE
            refine WL.vS hS hE (runs_plain rfl) (Gives.build hE (vs := [(0, .agg [.slice a0_0 x0.Room.length c0_0, .slice a0_1 x0.Tracks.length c0_1].toArray)]) [.slice a0_0 x0.Room.length c0_0, .slice a0_1 x0.Tracks.length c0_1, .int .i64 0, .slice none 0 0] rfl (by kernel_rfl)) rfl ?_; clear hE a; intro a hE
            replace hS := hS.vecNil 50 4
            obtain ⟨q105, hq106, hr⟩ := bindS hr
            replace hS := hS.front 0 rfl
            replace hS := hS.front 1 rfl
            have hc_ := FleetQueueputfleettry_v1_ok hS h0_0 h0_1 Sl.nil (Ev.nil) (rfl) hq106
            refine WL.fnq hE (hc_) (runs_plain rfl) bd13 rfl rfl rfl ?_
            clear hE hS hc_; rintro e w ⟨a107, c108, n109, cs110, rfl, h111, rfl, hS⟩; refine ⟨_, rfl, ?_⟩; clear a; intro a hE
            refine WL.nil ?_
            obtain ⟨q113, hq112, hr⟩ := bindS hr
            refine W.cut (fun _ _ => False) ?_ ?_
            · refine W.block ?_
              refine W.loop (fun m a w => ∃ (n114 : Nat), ∃ (q118 : List FleetTry), ∃ (q125 : List (PadK (4 * 4) × Bool)), ∃ (a119 : Option Addr), ∃ (c120 : Nat), ∃ (n122 : Nat), ∃ (cs123 : List Value), ∃ (s116 : Sg), n114 = m ∧ s.Le s116 ∧ FleetShunt.loop3 x0 x1 x2 fu n114 q118 q125 = some q113 ∧ Ev 4 RFleetTry s116 cs123 q118 ∧ q118.length = n122 ∧ Rep a 154 [(2, .slice a2 x2.length c2), (3, .pointer (some ⟨b51, 0, none⟩)), (4, .pointer (some ⟨b52, 0, none⟩)), (14, .map (some b98)), (15, .pointer (some ⟨b103, 0, none⟩))] ∧ St w s116 (pt b103 (.cells #[.slice a119 n122 c120] 47 (0, 0)) :: vecC 50 4 a119 c120 n122 cs123 :: mapC (PadK.f (n := 4 * 4)) Value.bool b98 q125 :: pt b52 (.cells #[.slice a1 x1.length c1] 22 (0, 0)) :: pt b51 (.cells #[.slice a0_0 x0.Room.length c0_0, .slice a0_1 x0.Tracks.length c0_1] 25 (0, 0)) :: R)) (m := fu) ⟨fu, q105, (mput [] (PadK.mk q99 : PadK (4 * 4)) true), a107, c108, q105.length, cs110, s, rfl, (Sg.Le.refl _), hq112, h111, rfl, hE.pick _ ⟨rfl, rfl, rfl, rfl, rfl, trivial⟩, hS⟩ ?_
              clear hE hS a w hq112; rintro m115 a w ⟨n114, q118, q125, a119, c120, n122, cs123, s116, rfl, hle117, hq112, h121, rfl, hE, hS⟩
              refine W.gen fun K126 hK126 => ?_
              replace h2 := Sl.mono RI.mono hle117 h2
              replace h0_0 := Sl.mono RI.mono hle117 h0_0
              replace h0_1 := Sl.mono (RL.mono RI.mono) hle117 h0_1
              replace h111 := Ev.mono RFleetTry.mono hle117 h111
              replace h1 := Sl.mono RI.mono hle117 h1
              rcases n114 with _ | n114
              · rw [FleetShunt.loop3] at hq112; exact absurd hq112 (by simp)
              rw [FleetShunt.loop3] at hq112
              refine W.block ?_
              refine W.seq ?_
              refine W.region ?_
              refine WL.vS hS hE (runs_plain rfl) (Gives.p hE rfl) rfl ?_; clear hE a; intro a hE
              obtain ⟨q127, hq128, hq112⟩ := bindS hq112
              have hc_ := FleetQueuetakefleettry_v1_ok hS h121 rfl hq128
              refine WL.fnq hE (hc_) (runs_plain rfl) bd14 rfl rfl rfl ?_
              clear hE hS hc_; rintro e w ⟨cs129, a131, c132, n133, cs134, s136, rfl, hle137, h130, h135, rfl, hS⟩; refine ⟨_, rfl, ?_⟩; clear a; intro a hE
              replace h2 := Sl.mono RI.mono hle137 h2
              replace h121 := Ev.mono RFleetTry.mono hle137 h121
              replace h1 := Sl.mono RI.mono hle137 h1
              replace h0_0 := Sl.mono RI.mono hle137 h0_0
              replace h0_1 := Sl.mono (RL.mono RI.mono) hle137 h0_1
              obtain ⟨a138, c139, a141, c142, a144, c145, rfl, h140, h143, h146⟩ := h130
              refine WL.vS hS hE (runs_plain rfl) (Gives.p hE rfl) rfl ?_; clear hE a; intro a hE
              refine WL.vS hS hE (runs_plain rfl) (Gives.p hE rfl) rfl ?_; clear hE a; intro a hE
              refine WL.vS hS hE (runs_plain rfl) (Gives.p hE rfl) rfl ?_; clear hE a; intro a hE
              refine WL.alloc hE hS (runs_plain rfl) zr50 rfl ?_; clear hE hS a w; intro b147 a w hE hS
              refine WL.storeI hE hS 0 rfl [.slice a138 q127.1.depot.Room.length c139, .slice a141 q127.1.depot.Tracks.length c142, .int .i64 q127.1.left, .slice a144 q127.1.moves.length c145] (runs_plain rfl) rfl rfl rfl ty50 rfl rfl rfl rfl ?_; clear hE hS a w; intro a w hE hS
              refine WL.vS hS hE (runs_plain rfl) (Gives.p hE rfl) rfl ?_; clear hE a; intro a hE
              refine WL.nil ?_
              refine W.seq ?_
              refine W.seq ?_
              refine W.region ?_
              refine WL.vS hS hE (runs_plain rfl) (Gives.p hE rfl) rfl ?_; clear hE a; intro a hE
              refine WL.vS hS hE (runs_plain rfl) (Gives.p hE rfl) rfl ?_; clear hE a; intro a hE
              refine WL.nil ?_
              refine W.cond hE rfl (fun hc148 => ?_) (fun hc148 => ?_)
              · replace hq112 := iteT hc148 hq112
                refine W.seq ?_
                refine W.region ?_
                refine WL.vS hS hE (runs_plain rfl) (Gives.p hE rfl) rfl ?_; clear hE a; intro a hE
                refine WL.vS hS hE (runs_plain rfl) (Gives.p hE rfl) rfl ?_; clear hE a; intro a hE
                refine WL.nil ?_
                refine W.ret ?_
                subst hK126
                rw [← Option.some.inj hq112] at hr
                dsimp only at hr
                refine finG (fn := Tryd.f4) (rs := [.tmp 6, .tmp 7]) (vs := [_, _]) hE rfl ⟨rfl, rfl, trivial⟩ ?_
                obtain rfl := Option.some.inj hr
                replace hS := hS.tail
                replace hS := hS.tail
                replace hS := hS.tail
                replace hS := hS.tail
                replace hS := hS.tail
                replace hS := hS.tail
                exact ⟨none, 0, s136, rfl, (Sg.Le.trans hle117 hle137), Sl.nil, hS⟩
              · replace hq112 := iteF hc148 hq112
                refine W.skip ?_
                refine W.seq ?_
                refine W.seq ?_
                refine W.region ?_
                refine WL.vS hS hE (runs_plain rfl) (Gives.fld hE rfl fl50_1) rfl ?_; clear hE a; intro a hE
                refine WL.vS hS hE (runs_plain rfl) (Gives.loadB hE 0 rfl rfl rfl ty3) rfl ?_; clear hE a; intro a hE
                refine WL.vS hS hE (runs_plain rfl) (Gives.p hE rfl) rfl ?_; clear hE a; intro a hE
                refine WL.vS hS hE (runs_plain rfl) (Gives.len hE rfl sl22) rfl ?_; clear hE a; intro a hE
                refine WL.vS hS hE (runs_plain rfl) (Gives.p hE rfl) rfl ?_; clear hE a; intro a hE
                refine WL.nil ?_
                refine W.cond hE rfl (fun hc149 => ?_) (fun hc149 => ?_)
                · replace hq112 := iteT hc149 hq112
                  refine W.seq ?_
                  refine W.region ?_
                  refine WL.vS hS hE (runs_plain rfl) (Gives.fld hE rfl fl50_2) rfl ?_; clear hE a; intro a hE
                  refine WL.vS hS hE (runs_plain rfl) (Gives.loadB hE 0 rfl rfl rfl ty26) rfl ?_; clear hE a; intro a hE
                  refine WL.vS hS hE (runs_plain rfl) (Gives.p hE rfl) rfl ?_; clear hE a; intro a hE
                  refine WL.vS hS hE (runs_plain rfl) (Gives.p hE rfl) rfl ?_; clear hE a; intro a hE
                  refine WL.nil ?_
                  refine W.ret ?_
                  subst hK126
                  rw [← Option.some.inj hq112] at hr
                  dsimp only at hr
                  refine finG (fn := Tryd.f4) (rs := [.tmp 6, .tmp 7]) (vs := [_, _]) hE rfl ⟨rfl, rfl, trivial⟩ ?_
                  obtain rfl := Option.some.inj hr
                  replace hS := hS.tail
                  replace hS := hS.tail
                  replace hS := hS.tail
                  replace hS := hS.tail
                  replace hS := hS.tail
                  replace hS := hS.tail
                  exact ⟨a144, c145, s136, rfl, (Sg.Le.trans hle117 hle137), h146, hS⟩
                · replace hq112 := iteF hc149 hq112
                  refine W.skip ?_
                  refine W.seq ?_
                  refine W.region ?_
                  refine WL.vS hS hE (runs_plain rfl) (Gives.fld hE rfl fl25_1) rfl ?_; clear hE a; intro a hE
                  refine WL.vS hS hE (runs_plain rfl) (Gives.loadB hE 5 rfl rfl rfl ty23) rfl ?_; clear hE a; intro a hE
                  refine WL.vS hS hE (runs_plain rfl) (Gives.len hE rfl sl23) rfl ?_; clear hE a; intro a hE
                  refine WL.vS hS hE (runs_plain rfl) (Gives.p hE rfl) rfl ?_; clear hE a; intro a hE
                  refine WL.nil ?_
                  obtain ⟨q151, hq150, hq112⟩ := bindS hq112
                  refine W.cut (fun a w => ∃ (q161 : List FleetTry), ∃ (q168 : List (PadK (4 * 4) × Bool)), ∃ (a162 : Option Addr), ∃ (c163 : Nat), ∃ (n165 : Nat), ∃ (cs166 : List Value), ∃ (s159 : Sg), s136.Le s159 ∧ (q161, q168) = q151 ∧ Ev 4 RFleetTry s159 cs166 q161 ∧ q161.length = n165 ∧ Rep a 154 [(2, .slice a2 x2.length c2), (3, .pointer (some ⟨b51, 0, none⟩)), (4, .pointer (some ⟨b52, 0, none⟩)), (14, .map (some b98)), (15, .pointer (some ⟨b103, 0, none⟩))] ∧ St w s159 (pt b147 (.cells #[.slice a138 q127.1.depot.Room.length c139, .slice a141 q127.1.depot.Tracks.length c142, .int .i64 q127.1.left, .slice a144 q127.1.moves.length c145] 50 (0, 0)) :: pt b103 (.cells #[.slice a162 n165 c163] 47 (0, 0)) :: vecC 50 4 a162 c163 n165 cs166 :: mapC (PadK.f (n := 4 * 4)) Value.bool b98 q168 :: pt b52 (.cells #[.slice a1 x1.length c1] 22 (0, 0)) :: pt b51 (.cells #[.slice a0_0 x0.Room.length c0_0, .slice a0_1 x0.Tracks.length c0_1] 25 (0, 0)) :: R)) ?_ ?_
                  · refine W.block ?_
                    refine W.loop (fun m a w => ∃ (rest154 : List (List Int)) (k152 : Nat), ∃ (q161 : List FleetTry), ∃ (q168 : List (PadK (4 * 4) × Bool)), ∃ (a162 : Option Addr), ∃ (c163 : Nat), ∃ (n165 : Nat), ∃ (cs166 : List Value), ∃ (s159 : Sg), rest154.length = m ∧ x0.Tracks.drop k152 = rest154 ∧ s136.Le s159 ∧ FleetShunt.loop4 x0 x1 x2 fu q127 rest154 k152 q161 q168 = some q151 ∧ Ev 4 RFleetTry s159 cs166 q161 ∧ q161.length = n165 ∧ Rep a 154 [(2, .slice a2 x2.length c2), (3, .pointer (some ⟨b51, 0, none⟩)), (4, .pointer (some ⟨b52, 0, none⟩)), (14, .map (some b98)), (15, .pointer (some ⟨b103, 0, none⟩)), (16, .pointer (some ⟨b147, 0, none⟩)), (86, .int .i64 ((x0.Tracks).length : Int)), (87, .int .i64 ((k152 : Nat) : Int))] ∧ St w s159 (pt b147 (.cells #[.slice a138 q127.1.depot.Room.length c139, .slice a141 q127.1.depot.Tracks.length c142, .int .i64 q127.1.left, .slice a144 q127.1.moves.length c145] 50 (0, 0)) :: pt b103 (.cells #[.slice a162 n165 c163] 47 (0, 0)) :: vecC 50 4 a162 c163 n165 cs166 :: mapC (PadK.f (n := 4 * 4)) Value.bool b98 q168 :: pt b52 (.cells #[.slice a1 x1.length c1] 22 (0, 0)) :: pt b51 (.cells #[.slice a0_0 x0.Room.length c0_0, .slice a0_1 x0.Tracks.length c0_1] 25 (0, 0)) :: R)) (m := x0.Tracks.length) ⟨x0.Tracks, 0, q127.2.2, q125, a131, c132, q127.2.2.length, cs134, s136, rfl, rfl, (Sg.Le.refl _), hq150, h135, rfl, hE.pick _ ⟨rfl, rfl, rfl, rfl, rfl, rfl, rfl, rfl, trivial⟩, hS⟩ ?_
                    clear hE hS a w hq150; rintro m158 a w ⟨rest154, k152, q161, q168, a162, c163, n165, cs166, s159, rfl, hd155, hle160, hq150, h164, rfl, hE, hS⟩
                    refine W.gen fun K169 hK169 => ?_
                    replace h2 := Sl.mono RI.mono hle160 h2
                    replace h140 := Sl.mono RI.mono hle160 h140
                    replace h143 := Sl.mono (RL.mono RI.mono) hle160 h143
                    replace h146 := Sl.mono RFleetMove.mono hle160 h146
                    replace h0_1 := Sl.mono (RL.mono RI.mono) hle160 h0_1
                    replace h135 := Ev.mono RFleetTry.mono hle160 h135
                    replace h1 := Sl.mono RI.mono hle160 h1
                    replace h0_0 := Sl.mono RI.mono hle160 h0_0
                    rcases rest154 with _ | ⟨x153, rest154⟩
                    · have hlt156 := drop_nil hd155
                      refine W.seq ?_
                      refine W.region ?_
                      refine WL.vS hS hE (runs_plain rfl) (Gives.p hE rfl) rfl ?_; clear hE a; intro a hE
                      refine WL.nil ?_
                      refine W.seq ?_
                      refine W.condF hE rfl (decide_eq_false (by omega)) ?_
                      subst hK169
                      refine W.exit rfl ?_
                      exact ⟨q161, q168, a162, c163, q161.length, cs166, s159, hle160, Option.some.inj hq150, h164, rfl, hE.pick _ ⟨rfl, rfl, rfl, rfl, rfl, trivial⟩, hS⟩
                    · obtain ⟨hlt156, hx157, hd155⟩ := drop_cons hd155
                      rw [FleetShunt.loop4] at hq150
                      refine W.seq ?_
                      refine W.region ?_
                      refine WL.vS hS hE (runs_plain rfl) (Gives.p hE rfl) rfl ?_; clear hE a; intro a hE
                      refine WL.nil ?_
                      refine W.seq ?_
                      refine W.condT hE rfl (decide_eq_true (by omega)) ?_
                      refine W.skip ?_
                      refine W.seq ?_
                      refine W.block ?_
                      refine W.seq ?_
                      refine W.region ?_
                      refine WL.vS hS hE (runs_plain rfl) (Gives.p hE rfl) rfl ?_; clear hE a; intro a hE
                      refine WL.vS hS hE (runs_plain rfl) (Gives.p hE rfl) rfl ?_; clear hE a; intro a hE
                      refine WL.nil ?_
                      refine W.seq ?_
                      refine W.region ?_
                      refine WL.vS hS hE (runs_plain rfl) (Gives.p hE rfl) rfl ?_; clear hE a; intro a hE
                      refine WL.nil ?_
                      obtain ⟨q171, hq170, hq150⟩ := bindS hq150
                      refine W.cut (fun a w => ∃ (q176 : Int), ∃ (q177 : List FleetTry), ∃ (q184 : List (PadK (4 * 4) × Bool)), ∃ (a178 : Option Addr), ∃ (c179 : Nat), ∃ (n181 : Nat), ∃ (cs182 : List Value), ∃ (s174 : Sg), s159.Le s174 ∧ (q176, q177, q184) = q171 ∧ Ev 4 RFleetTry s174 cs182 q177 ∧ q177.length = n181 ∧ Rep a 154 [(2, .slice a2 x2.length c2), (3, .pointer (some ⟨b51, 0, none⟩)), (4, .pointer (some ⟨b52, 0, none⟩)), (14, .map (some b98)), (15, .pointer (some ⟨b103, 0, none⟩)), (16, .pointer (some ⟨b147, 0, none⟩)), (86, .int .i64 ((x0.Tracks).length : Int)), (87, .int .i64 ((k152 : Nat) : Int))] ∧ St w s174 (pt b147 (.cells #[.slice a138 q127.1.depot.Room.length c139, .slice a141 q127.1.depot.Tracks.length c142, .int .i64 q127.1.left, .slice a144 q127.1.moves.length c145] 50 (0, 0)) :: pt b103 (.cells #[.slice a178 n181 c179] 47 (0, 0)) :: vecC 50 4 a178 c179 n181 cs182 :: mapC (PadK.f (n := 4 * 4)) Value.bool b98 q184 :: pt b52 (.cells #[.slice a1 x1.length c1] 22 (0, 0)) :: pt b51 (.cells #[.slice a0_0 x0.Room.length c0_0, .slice a0_1 x0.Tracks.length c0_1] 25 (0, 0)) :: R)) ?_ ?_
                      · refine W.block ?_
                        refine W.loop (fun m a w => ∃ (n172 : Nat), ∃ (q176 : Int), ∃ (q177 : List FleetTry), ∃ (q184 : List (PadK (4 * 4) × Bool)), ∃ (a178 : Option Addr), ∃ (c179 : Nat), ∃ (n181 : Nat), ∃ (cs182 : List Value), ∃ (s174 : Sg), n172 = m ∧ s159.Le s174 ∧ FleetShunt.loop5 x0 x1 x2 q127 k152 n172 q176 q177 q184 = some q171 ∧ Ev 4 RFleetTry s174 cs182 q177 ∧ q177.length = n181 ∧ Rep a 154 [(2, .slice a2 x2.length c2), (3, .pointer (some ⟨b51, 0, none⟩)), (4, .pointer (some ⟨b52, 0, none⟩)), (14, .map (some b98)), (15, .pointer (some ⟨b103, 0, none⟩)), (16, .pointer (some ⟨b147, 0, none⟩)), (18, .int .i64 ((k152 : Nat) : Int)), (19, .int .i64 q176), (86, .int .i64 ((x0.Tracks).length : Int)), (87, .int .i64 ((k152 : Nat) : Int))] ∧ St w s174 (pt b147 (.cells #[.slice a138 q127.1.depot.Room.length c139, .slice a141 q127.1.depot.Tracks.length c142, .int .i64 q127.1.left, .slice a144 q127.1.moves.length c145] 50 (0, 0)) :: pt b103 (.cells #[.slice a178 n181 c179] 47 (0, 0)) :: vecC 50 4 a178 c179 n181 cs182 :: mapC (PadK.f (n := 4 * 4)) Value.bool b98 q184 :: pt b52 (.cells #[.slice a1 x1.length c1] 22 (0, 0)) :: pt b51 (.cells #[.slice a0_0 x0.Room.length c0_0, .slice a0_1 x0.Tracks.length c0_1] 25 (0, 0)) :: R)) (m := fu) ⟨fu, (-1), q161, q168, a162, c163, q161.length, cs166, s159, rfl, (Sg.Le.refl _), hq170, h164, rfl, hE.pick _ ⟨rfl, rfl, rfl, rfl, rfl, rfl, rfl, rfl, rfl, rfl, trivial⟩, hS⟩ ?_
                        clear hE hS a w hq170; rintro m173 a w ⟨n172, q176, q177, q184, a178, c179, n181, cs182, s174, rfl, hle175, hq170, h180, rfl, hE, hS⟩
                        refine W.gen fun K185 hK185 => ?_
                        replace h2 := Sl.mono RI.mono hle175 h2
                        replace h140 := Sl.mono RI.mono hle175 h140
                        replace h143 := Sl.mono (RL.mono RI.mono) hle175 h143
                        replace h146 := Sl.mono RFleetMove.mono hle175 h146
                        replace h164 := Ev.mono RFleetTry.mono hle175 h164
                        replace h1 := Sl.mono RI.mono hle175 h1
                        replace h0_0 := Sl.mono RI.mono hle175 h0_0
                        replace h0_1 := Sl.mono (RL.mono RI.mono) hle175 h0_1
                        rcases n172 with _ | n172
                        · rw [FleetShunt.loop5] at hq170; exact absurd hq170 (by simp)
                        rw [FleetShunt.loop5] at hq170
                        refine W.seq ?_
                        refine W.seq ?_
                        refine W.region ?_
                        refine WL.vS hS hE (runs_plain rfl) (Gives.p hE rfl) rfl ?_; clear hE a; intro a hE
                        refine WL.vS hS hE (runs_plain rfl) (Gives.fld hE rfl fl25_1) rfl ?_; clear hE a; intro a hE
                        refine WL.vS hS hE (runs_plain rfl) (Gives.loadB hE 5 rfl rfl rfl ty23) rfl ?_; clear hE a; intro a hE
                        refine WL.vS hS hE (runs_plain rfl) (Gives.len hE rfl sl23) rfl ?_; clear hE a; intro a hE
                        refine WL.vS hS hE (runs_plain rfl) (Gives.p hE rfl) rfl ?_; clear hE a; intro a hE
                        refine WL.nil ?_
                        refine W.cond hE rfl (fun hc186 => ?_) (fun hc186 => ?_)
                        · replace hq170 := iteT hc186 hq170
                          refine W.skip ?_
                          refine W.seq ?_
                          refine W.block ?_
                          refine W.seq ?_
                          refine W.region ?_
                          refine WL.vS hS hE (runs_plain rfl) (Gives.p hE rfl) rfl ?_; clear hE a; intro a hE
                          refine WL.vS hS hE (runs_plain rfl) (Gives.p hE rfl) rfl ?_; clear hE a; intro a hE
                          refine WL.vS hS hE (runs_plain rfl) (Gives.build hE (vs := [(0, .int .i64 ((k152 : Nat) : Int)), (1, .int .i64 q176)]) [.int .i64 ((k152 : Nat) : Int), .int .i64 q176] rfl (by kernel_rfl)) rfl ?_; clear hE a; intro a hE
                          refine WL.alloc hE hS (runs_plain rfl) zr34 rfl ?_; clear hE hS a w; intro b187 a w hE hS
                          refine WL.storeI hE hS 0 rfl [.int .i64 ((k152 : Nat) : Int), .int .i64 q176] (runs_plain rfl) rfl rfl rfl ty34 rfl rfl rfl rfl ?_; clear hE hS a w; intro a w hE hS
                          refine WL.nil ?_
                          refine W.seq ?_
                          refine W.region ?_
                          refine WL.vS hS hE (runs_plain rfl) (Gives.fld hE rfl fl50_0) rfl ?_; clear hE a; intro a hE
                          refine WL.vS hS hE (runs_plain rfl) (Gives.loadA (cs := [.slice a138 q127.1.depot.Room.length c139, .slice a141 q127.1.depot.Tracks.length c142]) hE rfl (fun w h => (St.seesAt h 1 rfl).part 0 2) ty25) rfl ?_; clear hE a; intro a hE
                          refine WL.vS hS hE (runs_plain rfl) (Gives.loadBA hE 0 rfl rfl ty34) rfl ?_; clear hE a; intro a hE
                          obtain ⟨q188, hq189, hq170⟩ := bindS hq170
                          have hc_ := Fleetdo_ok hS h140 h143 hq189
                          refine WL.fnq hE (hc_) (runs_plain rfl) bd15 rfl rfl rfl ?_
                          clear hE hS hc_; rintro e w ⟨cs190, s192, rfl, hle193, h191, hS⟩; refine ⟨_, rfl, ?_⟩; clear a; intro a hE
                          replace h2 := Sl.mono RI.mono hle193 h2
                          replace h0_1 := Sl.mono (RL.mono RI.mono) hle193 h0_1
                          replace h140 := Sl.mono RI.mono hle193 h140
                          replace h143 := Sl.mono (RL.mono RI.mono) hle193 h143
                          replace h146 := Sl.mono RFleetMove.mono hle193 h146
                          replace h180 := Ev.mono RFleetTry.mono hle193 h180
                          replace h1 := Sl.mono RI.mono hle193 h1
                          replace h0_0 := Sl.mono RI.mono hle193 h0_0
                          obtain ⟨a194, c195, a197, c198, rfl, h196, h199⟩ := h191
                          refine WL.vS hS hE (runs_plain rfl) (Gives.p hE rfl) rfl ?_; clear hE a; intro a hE
                          refine WL.vS hS hE (runs_plain rfl) (Gives.p hE rfl) rfl ?_; clear hE a; intro a hE
                          refine WL.vS hS hE (runs_plain rfl) (Gives.p hE rfl) rfl ?_; clear hE a; intro a hE
                          refine WL.vS hS hE (runs_plain rfl) (Gives.p hE rfl) rfl ?_; clear hE a; intro a hE
                          refine WL.alloc hE hS (runs_plain rfl) zr25 rfl ?_; clear hE hS a w; intro b200 a w hE hS
                          refine WL.storeI hE hS 0 rfl [.slice a194 q188.1.Room.length c195, .slice a197 q188.1.Tracks.length c198] (runs_plain rfl) rfl rfl rfl ty25 rfl rfl rfl rfl ?_; clear hE hS a w; intro a w hE hS
                          refine WL.vS hS hE (runs_plain rfl) (Gives.p hE rfl) rfl ?_; clear hE a; intro a hE
                          refine WL.vS hS hE (runs_plain rfl) (Gives.p hE rfl) rfl ?_; clear hE a; intro a hE
                          refine WL.nil ?_
                          refine W.seq ?_
                          refine W.seq ?_
                          obtain ⟨q202, hq201, hq170⟩ := bindS hq170
                          refine W.cut (fun a w => ∃ (q205 : Bool), q205 = q202 ∧ Rep a 154 [(2, .slice a2 x2.length c2), (3, .pointer (some ⟨b51, 0, none⟩)), (4, .pointer (some ⟨b52, 0, none⟩)), (14, .map (some b98)), (15, .pointer (some ⟨b103, 0, none⟩)), (16, .pointer (some ⟨b147, 0, none⟩)), (18, .int .i64 ((k152 : Nat) : Int)), (19, .int .i64 q176), (20, .pointer (some ⟨b187, 0, none⟩)), (21, .pointer (some ⟨b200, 0, none⟩)), (86, .int .i64 ((x0.Tracks).length : Int)), (87, .int .i64 ((k152 : Nat) : Int)), (125, .bool q205)] ∧ St w s192 (pt b200 (.cells #[.slice a194 q188.1.Room.length c195, .slice a197 q188.1.Tracks.length c198] 25 (0, 0)) :: pt b187 (.cells #[.int .i64 ((k152 : Nat) : Int), .int .i64 q176] 34 (0, 0)) :: pt b147 (.cells #[.slice a138 q127.1.depot.Room.length c139, .slice a141 q127.1.depot.Tracks.length c142, .int .i64 q127.1.left, .slice a144 q127.1.moves.length c145] 50 (0, 0)) :: pt b103 (.cells #[.slice a178 q177.length c179] 47 (0, 0)) :: vecC 50 4 a178 c179 q177.length cs182 :: mapC (PadK.f (n := 4 * 4)) Value.bool b98 q184 :: pt b52 (.cells #[.slice a1 x1.length c1] 22 (0, 0)) :: pt b51 (.cells #[.slice a0_0 x0.Room.length c0_0, .slice a0_1 x0.Tracks.length c0_1] 25 (0, 0)) :: R)) ?_ ?_
                          · refine W.gen fun K206 hK206 => ?_
                            refine W.regionQ (C := fun w => St w s192 (pt b200 (.cells #[.slice a194 q188.1.Room.length c195, .slice a197 q188.1.Tracks.length c198] 25 (0, 0)) :: pt b187 (.cells #[.int .i64 ((k152 : Nat) : Int), .int .i64 q176] 34 (0, 0)) :: pt b147 (.cells #[.slice a138 q127.1.depot.Room.length c139, .slice a141 q127.1.depot.Tracks.length c142, .int .i64 q127.1.left, .slice a144 q127.1.moves.length c145] 50 (0, 0)) :: pt b103 (.cells #[.slice a178 q177.length c179] 47 (0, 0)) :: vecC 50 4 a178 c179 q177.length cs182 :: mapC (PadK.f (n := 4 * 4)) Value.bool b98 q184 :: pt b52 (.cells #[.slice a1 x1.length c1] 22 (0, 0)) :: pt b51 (.cells #[.slice a0_0 x0.Room.length c0_0, .slice a0_1 x0.Tracks.length c0_1] 25 (0, 0)) :: R)) mixed (by kernel_rfl) hS.drew ?_
                            refine QL.v hE (runs_plain rfl) (Gives.p hE rfl) rfl ?_; clear hE a; intro a hE
                            refine QL.v hE (runs_plain rfl) (Gives.p hE rfl) rfl ?_; clear hE a; intro a hE
                            refine QL.v hE (runs_plain rfl) (Gives.p hE rfl) rfl ?_; clear hE a; intro a hE
                            rcases Bool.eq_false_or_eq_true (q188.2.2 != 0) with hg207 | hg207
                            · replace hq201 := iteT hg207 hq201
                              refine QL.no hE (runs_not hE rfl rfl rfl (by rw [hg207]; decide)) rfl ?_; clear hE a; intro a hE
                              refine QL.no hE (runs_not hE rfl rfl rfl (by rw [hg207]; decide)) rfl ?_; clear hE a; intro a hE
                              refine QL.no hE (runs_not hE rfl rfl rfl (by rw [hg207]; decide)) rfl ?_; clear hE a; intro a hE
                              refine QL.no hE (runs_undef hE rfl rfl rfl) rfl ?_; clear hE a; intro a hE
                              refine QL.no hE (runs_undef hE rfl rfl rfl) rfl ?_; clear hE a; intro a hE
                              refine QL.no hE (runs_undef hE rfl rfl rfl) rfl ?_; clear hE a; intro a hE
                              refine QL.no hE (runs_undef hE rfl rfl rfl) rfl ?_; clear hE a; intro a hE
                              refine QL.no hE (runs_undef hE rfl rfl rfl) rfl ?_; clear hE a; intro a hE
                              refine QL.no hE (runs_undef hE rfl rfl rfl) rfl ?_; clear hE a; intro a hE
                              refine QL.no hE (runs_undef hE rfl rfl rfl) rfl ?_; clear hE a; intro a hE
                              refine QL.no hE (runs_undef hE rfl rfl rfl) rfl ?_; clear hE a; intro a hE
                              refine QL.no hE (runs_undef hE rfl rfl rfl) rfl ?_; clear hE a; intro a hE
                              refine QL.no hE (runs_undef hE rfl rfl rfl) rfl ?_; clear hE a; intro a hE
                              refine QL.no hE (runs_not hE rfl rfl rfl (by rw [hg207]; decide)) rfl ?_; clear hE a; intro a hE
                              refine QL.v hE (runs_plain rfl) (Gives.pickT hE rfl hg207 rfl) rfl ?_; clear hE a; intro a hE
                              refine QL.nil ?_; clear hS w; intro w hS
                              subst hK206
                              exact ⟨true, Option.some.inj hq201, hE.pick _ ⟨rfl, rfl, rfl, rfl, rfl, rfl, rfl, rfl, rfl, rfl, rfl, rfl, rfl, trivial⟩, hS⟩
                            · replace hq201 := iteF hg207 hq201
                              refine QL.v hE (runs_if hE rfl rfl rfl hg207) (Gives.p hE rfl) rfl ?_; clear hE a; intro a hE
                              refine QL.v hE (runs_if hE rfl rfl rfl hg207) (Gives.p hE rfl) rfl ?_; clear hE a; intro a hE
                              refine QL.v hE (runs_if hE rfl rfl rfl hg207) (Gives.p hE rfl) rfl ?_; clear hE a; intro a hE
                              rcases Bool.eq_false_or_eq_true (decide (q176 < 0)) with hg208 | hg208
                              · replace hq201 := iteT hg208 hq201
                                refine QL.v hE (runs_if hE rfl rfl rfl hg208) (Gives.loadB hE 6 rfl rfl rfl ty22) rfl ?_; clear hE a; intro a hE
                                refine QL.v hE (runs_if hE rfl rfl rfl hg208) (Gives.p hE rfl) rfl ?_; clear hE a; intro a hE
                                obtain ⟨x209, hx210, hq201⟩ := bindS hq201
                                obtain ⟨hi211, hlt212, hy213⟩ := gx_some hx210
                                obtain ⟨cs214, hl215, hR216, hat217⟩ := h1.at hy213
                                subst hR216
                                refine QL.v hE (runs_if hE rfl rfl rfl hg208) (Gives.idx hE (q188.2.1).toNat rfl rfl sl22 hi211 hlt212 (h1.aok hlt212)) rfl ?_; clear hE a; intro a hE
                                refine QL.v hE (runs_if hE rfl rfl rfl hg208) (Gives.load1 hE rfl (fun w h => hat217 w _ h) ty3) rfl ?_; clear hE a; intro a hE
                                refine QL.v hE (runs_if hE rfl rfl rfl hg208) (Gives.p hE rfl) rfl ?_; clear hE a; intro a hE
                                refine QL.v hE (runs_if hE rfl rfl rfl hg208) (Gives.fld hE rfl fl50_1) rfl ?_; clear hE a; intro a hE
                                refine QL.v hE (runs_if hE rfl rfl rfl hg208) (Gives.loadB hE 2 rfl rfl rfl ty3) rfl ?_; clear hE a; intro a hE
                                obtain ⟨x218, hx219, hq201⟩ := bindS hq201
                                obtain ⟨hi220, hlt221, hy222⟩ := gx_some hx219
                                obtain ⟨cs223, hl224, hR225, hat226⟩ := h2.at hy222
                                subst hR225
                                refine QL.v hE (runs_if hE rfl rfl rfl hg208) (Gives.idx hE (q127.1.left).toNat rfl rfl sl22 hi220 hlt221 (h2.aok hlt221)) rfl ?_; clear hE a; intro a hE
                                refine QL.v hE (runs_if hE rfl rfl rfl hg208) (Gives.load1 hE rfl (fun w h => hat226 w _ h) ty3) rfl ?_; clear hE a; intro a hE
                                refine QL.v hE (runs_if hE rfl rfl rfl hg208) (Gives.p hE rfl) rfl ?_; clear hE a; intro a hE
                                refine QL.v hE (runs_if hE rfl rfl rfl hg207) (Gives.pickT hE rfl hg208 rfl) rfl ?_; clear hE a; intro a hE
                                refine QL.v hE (runs_plain rfl) (Gives.pickF hE rfl hg207 rfl) rfl ?_; clear hE a; intro a hE
                                refine QL.nil ?_; clear hS w; intro w hS
                                subst hK206
                                exact ⟨(x209 != x218), Option.some.inj hq201, hE.pick _ ⟨rfl, rfl, rfl, rfl, rfl, rfl, rfl, rfl, rfl, rfl, rfl, rfl, rfl, trivial⟩, hS⟩
                              · replace hq201 := iteF hg208 hq201
                                refine QL.no hE (runs_not hE rfl rfl rfl (by rw [hg208]; decide)) rfl ?_; clear hE a; intro a hE
                                refine QL.no hE (runs_not hE rfl rfl rfl (by rw [hg208]; decide)) rfl ?_; clear hE a; intro a hE
                                refine QL.no hE (runs_not hE rfl rfl rfl (by rw [hg208]; decide)) rfl ?_; clear hE a; intro a hE
                                refine QL.no hE (runs_not hE rfl rfl rfl (by rw [hg208]; decide)) rfl ?_; clear hE a; intro a hE
                                refine QL.no hE (runs_not hE rfl rfl rfl (by rw [hg208]; decide)) rfl ?_; clear hE a; intro a hE
                                refine QL.no hE (runs_not hE rfl rfl rfl (by rw [hg208]; decide)) rfl ?_; clear hE a; intro a hE
                                refine QL.no hE (runs_not hE rfl rfl rfl (by rw [hg208]; decide)) rfl ?_; clear hE a; intro a hE
                                refine QL.no hE (runs_not hE rfl rfl rfl (by rw [hg208]; decide)) rfl ?_; clear hE a; intro a hE
                                refine QL.no hE (runs_not hE rfl rfl rfl (by rw [hg208]; decide)) rfl ?_; clear hE a; intro a hE
                                refine QL.no hE (runs_not hE rfl rfl rfl (by rw [hg208]; decide)) rfl ?_; clear hE a; intro a hE
                                refine QL.v hE (runs_if hE rfl rfl rfl hg207) (Gives.pickF hE rfl hg208 rfl) rfl ?_; clear hE a; intro a hE
                                refine QL.v hE (runs_plain rfl) (Gives.pickF hE rfl hg207 rfl) rfl ?_; clear hE a; intro a hE
                                refine QL.nil ?_; clear hS w; intro w hS
                                subst hK206
                                exact ⟨false, Option.some.inj hq201, hE.pick _ ⟨rfl, rfl, rfl, rfl, rfl, rfl, rfl, rfl, rfl, rfl, rfl, rfl, rfl, trivial⟩, hS⟩
                          · clear hE hS a w; rintro a w ⟨q205, rfl, hE, hS⟩
                            refine W.cond hE rfl (fun hc227 => ?_) (fun hc227 => ?_)
                            · replace hq170 := iteT hc227 hq170
                              refine W.exit rfl ?_
                              refine W.region ?_
                              refine WL.vS hS hE (runs_plain rfl) (Gives.p hE rfl) rfl ?_; clear hE a; intro a hE
                              refine WL.vS hS hE (runs_plain rfl) (Gives.p hE rfl) rfl ?_; clear hE a; intro a hE
                              refine WL.vS hS hE (runs_plain rfl) (Gives.p hE rfl) rfl ?_; clear hE a; intro a hE
                              refine WL.nil ?_
                              replace hS := hS.tail
                              replace hS := hS.tail
                              subst hK185
                              exact ⟨n172, Nat.lt_succ_self _, n172, (w64 (q176 + 1)), q177, q184, a178, c179, q177.length, cs182, s192, rfl, (Sg.Le.trans hle175 hle193), hq170, h180, rfl, hE.pick _ ⟨rfl, rfl, rfl, rfl, rfl, rfl, rfl, rfl, rfl, rfl, trivial⟩, hS⟩
                            · replace hq170 := iteF hc227 hq170
                              refine W.skip ?_
                              refine W.seq ?_
                              refine W.gen fun K228 hK228 => ?_
                              refine W.regionE (sel (fun w => St w s192 (pt b200 (.cells #[.slice a194 q188.1.Room.length c195, .slice a197 q188.1.Tracks.length c198] 25 (0, 0)) :: pt b187 (.cells #[.int .i64 ((k152 : Nat) : Int), .int .i64 q176] 34 (0, 0)) :: pt b147 (.cells #[.slice a138 q127.1.depot.Room.length c139, .slice a141 q127.1.depot.Tracks.length c142, .int .i64 q127.1.left, .slice a144 q127.1.moves.length c145] 50 (0, 0)) :: pt b103 (.cells #[.slice a178 q177.length c179] 47 (0, 0)) :: vecC 50 4 a178 c179 q177.length cs182 :: mapC (PadK.f (n := 4 * 4)) Value.bool b98 q184 :: pt b52 (.cells #[.slice a1 x1.length c1] 22 (0, 0)) :: pt b51 (.cells #[.slice a0_0 x0.Room.length c0_0, .slice a0_1 x0.Tracks.length c0_1] 25 (0, 0)) :: R)) (fun w => St w s192 (pt b200 (.cells #[.slice a194 q188.1.Room.length c195, .slice a197 q188.1.Tracks.length c198] 25 (0, 0)) :: pt b187 (.cells #[.int .i64 ((k152 : Nat) : Int), .int .i64 q176] 34 (0, 0)) :: pt b147 (.cells #[.slice a138 q127.1.depot.Room.length c139, .slice a141 q127.1.depot.Tracks.length c142, .int .i64 q127.1.left, .slice a144 q127.1.moves.length c145] 50 (0, 0)) :: pt b103 (.cells #[.slice a178 q177.length c179] 47 (0, 0)) :: vecC 50 4 a178 c179 q177.length cs182 :: mapC (PadK.f (n := 4 * 4)) Value.bool b98 q184 :: pt b52 (.cells #[.slice a1 x1.length c1] 22 (0, 0)) :: pt b51 (.cells #[.slice a0_0 x0.Room.length c0_0, .slice a0_1 x0.Tracks.length c0_1] 25 (0, 0)) :: R))) (fun b i => cond b ([0, 1, 2, 3, 4, 5, 6, 7, 8, 9, 10, 11].contains i) ([0, 1, 2, 3, 4, 5, 6, 7, 8, 9, 10, 11].contains i)) mixed ?_
                              replace hS := hS.drew
                              have hT := tw_sel (A := fun w => St w s192 (pt b200 (.cells #[.slice a194 q188.1.Room.length c195, .slice a197 q188.1.Tracks.length c198] 25 (0, 0)) :: pt b187 (.cells #[.int .i64 ((k152 : Nat) : Int), .int .i64 q176] 34 (0, 0)) :: pt b147 (.cells #[.slice a138 q127.1.depot.Room.length c139, .slice a141 q127.1.depot.Tracks.length c142, .int .i64 q127.1.left, .slice a144 q127.1.moves.length c145] 50 (0, 0)) :: pt b103 (.cells #[.slice a178 q177.length c179] 47 (0, 0)) :: vecC 50 4 a178 c179 q177.length cs182 :: mapC (PadK.f (n := 4 * 4)) Value.bool b98 q184 :: pt b52 (.cells #[.slice a1 x1.length c1] 22 (0, 0)) :: pt b51 (.cells #[.slice a0_0 x0.Room.length c0_0, .slice a0_1 x0.Tracks.length c0_1] 25 (0, 0)) :: R)) (B := fun w => St w s192 (pt b200 (.cells #[.slice a194 q188.1.Room.length c195, .slice a197 q188.1.Tracks.length c198] 25 (0, 0)) :: pt b187 (.cells #[.int .i64 ((k152 : Nat) : Int), .int .i64 q176] 34 (0, 0)) :: pt b147 (.cells #[.slice a138 q127.1.depot.Room.length c139, .slice a141 q127.1.depot.Tracks.length c142, .int .i64 q127.1.left, .slice a144 q127.1.moves.length c145] 50 (0, 0)) :: pt b103 (.cells #[.slice a178 q177.length c179] 47 (0, 0)) :: vecC 50 4 a178 c179 q177.length cs182 :: mapC (PadK.f (n := 4 * 4)) Value.bool b98 q184 :: pt b52 (.cells #[.slice a1 x1.length c1] 22 (0, 0)) :: pt b51 (.cells #[.slice a0_0 x0.Room.length c0_0, .slice a0_1 x0.Tracks.length c0_1] 25 (0, 0)) :: R)) (w := _) (x := true) (y := true) (fun _ => hS) (fun _ => hS)
                              have hF := hS; replace hS := hS
                              refine Rg.take (i := 0) true rfl hE rfl (by kernel_rfl) (runs_plain rfl) (Gives.loadBA hE 0 rfl rfl ty25) rfl hT ?_; clear hE a; intro a hE
                              replace hS := hF; clear hF hT
                              refine Rg.takeP (i := 1) hE rfl (by kernel_rfl) (runs_plain rfl) (Gives.fld hE rfl fl50_1) rfl (tw_sel (fun _ => hS) (fun _ => hS)) ?_; clear hE a; intro a hE
                              have hT := tw_sel (A := fun w => St w s192 (pt b200 (.cells #[.slice a194 q188.1.Room.length c195, .slice a197 q188.1.Tracks.length c198] 25 (0, 0)) :: pt b187 (.cells #[.int .i64 ((k152 : Nat) : Int), .int .i64 q176] 34 (0, 0)) :: pt b147 (.cells #[.slice a138 q127.1.depot.Room.length c139, .slice a141 q127.1.depot.Tracks.length c142, .int .i64 q127.1.left, .slice a144 q127.1.moves.length c145] 50 (0, 0)) :: pt b103 (.cells #[.slice a178 q177.length c179] 47 (0, 0)) :: vecC 50 4 a178 c179 q177.length cs182 :: mapC (PadK.f (n := 4 * 4)) Value.bool b98 q184 :: pt b52 (.cells #[.slice a1 x1.length c1] 22 (0, 0)) :: pt b51 (.cells #[.slice a0_0 x0.Room.length c0_0, .slice a0_1 x0.Tracks.length c0_1] 25 (0, 0)) :: R)) (B := fun w => St w s192 (pt b200 (.cells #[.slice a194 q188.1.Room.length c195, .slice a197 q188.1.Tracks.length c198] 25 (0, 0)) :: pt b187 (.cells #[.int .i64 ((k152 : Nat) : Int), .int .i64 q176] 34 (0, 0)) :: pt b147 (.cells #[.slice a138 q127.1.depot.Room.length c139, .slice a141 q127.1.depot.Tracks.length c142, .int .i64 q127.1.left, .slice a144 q127.1.moves.length c145] 50 (0, 0)) :: pt b103 (.cells #[.slice a178 q177.length c179] 47 (0, 0)) :: vecC 50 4 a178 c179 q177.length cs182 :: mapC (PadK.f (n := 4 * 4)) Value.bool b98 q184 :: pt b52 (.cells #[.slice a1 x1.length c1] 22 (0, 0)) :: pt b51 (.cells #[.slice a0_0 x0.Room.length c0_0, .slice a0_1 x0.Tracks.length c0_1] 25 (0, 0)) :: R)) (w := _) (x := true) (y := true) (fun _ => hS) (fun _ => hS)
                              have hF := hS; replace hS := hS
                              refine Rg.take (i := 2) true rfl hE rfl (by kernel_rfl) (runs_plain rfl) (Gives.loadB hE 2 rfl rfl rfl ty3) rfl hT ?_; clear hE a; intro a hE
                              replace hS := hF; clear hF hT
                              refine Rg.takeP (i := 3) hE rfl (by kernel_rfl) (runs_plain rfl) (Gives.fld hE rfl fl50_2) rfl (tw_sel (fun _ => hS) (fun _ => hS)) ?_; clear hE a; intro a hE
                              have hT := tw_sel (A := fun w => St w s192 (pt b200 (.cells #[.slice a194 q188.1.Room.length c195, .slice a197 q188.1.Tracks.length c198] 25 (0, 0)) :: pt b187 (.cells #[.int .i64 ((k152 : Nat) : Int), .int .i64 q176] 34 (0, 0)) :: pt b147 (.cells #[.slice a138 q127.1.depot.Room.length c139, .slice a141 q127.1.depot.Tracks.length c142, .int .i64 q127.1.left, .slice a144 q127.1.moves.length c145] 50 (0, 0)) :: pt b103 (.cells #[.slice a178 q177.length c179] 47 (0, 0)) :: vecC 50 4 a178 c179 q177.length cs182 :: mapC (PadK.f (n := 4 * 4)) Value.bool b98 q184 :: pt b52 (.cells #[.slice a1 x1.length c1] 22 (0, 0)) :: pt b51 (.cells #[.slice a0_0 x0.Room.length c0_0, .slice a0_1 x0.Tracks.length c0_1] 25 (0, 0)) :: R)) (B := fun w => St w s192 (pt b200 (.cells #[.slice a194 q188.1.Room.length c195, .slice a197 q188.1.Tracks.length c198] 25 (0, 0)) :: pt b187 (.cells #[.int .i64 ((k152 : Nat) : Int), .int .i64 q176] 34 (0, 0)) :: pt b147 (.cells #[.slice a138 q127.1.depot.Room.length c139, .slice a141 q127.1.depot.Tracks.length c142, .int .i64 q127.1.left, .slice a144 q127.1.moves.length c145] 50 (0, 0)) :: pt b103 (.cells #[.slice a178 q177.length c179] 47 (0, 0)) :: vecC 50 4 a178 c179 q177.length cs182 :: mapC (PadK.f (n := 4 * 4)) Value.bool b98 q184 :: pt b52 (.cells #[.slice a1 x1.length c1] 22 (0, 0)) :: pt b51 (.cells #[.slice a0_0 x0.Room.length c0_0, .slice a0_1 x0.Tracks.length c0_1] 25 (0, 0)) :: R)) (w := _) (x := true) (y := true) (fun _ => hS) (fun _ => hS)
                              have hF := hS; replace hS := hS
                              refine Rg.take (i := 4) true rfl hE rfl (by kernel_rfl) (runs_plain rfl) (Gives.loadB hE 2 rfl rfl rfl ty26) rfl hT ?_; clear hE a; intro a hE
                              replace hS := hF; clear hF hT
                              have hT := tw_sel (A := fun w => St w s192 (pt b200 (.cells #[.slice a194 q188.1.Room.length c195, .slice a197 q188.1.Tracks.length c198] 25 (0, 0)) :: pt b187 (.cells #[.int .i64 ((k152 : Nat) : Int), .int .i64 q176] 34 (0, 0)) :: pt b147 (.cells #[.slice a138 q127.1.depot.Room.length c139, .slice a141 q127.1.depot.Tracks.length c142, .int .i64 q127.1.left, .slice a144 q127.1.moves.length c145] 50 (0, 0)) :: pt b103 (.cells #[.slice a178 q177.length c179] 47 (0, 0)) :: vecC 50 4 a178 c179 q177.length cs182 :: mapC (PadK.f (n := 4 * 4)) Value.bool b98 q184 :: pt b52 (.cells #[.slice a1 x1.length c1] 22 (0, 0)) :: pt b51 (.cells #[.slice a0_0 x0.Room.length c0_0, .slice a0_1 x0.Tracks.length c0_1] 25 (0, 0)) :: R)) (B := fun w => St w s192 (pt b200 (.cells #[.slice a194 q188.1.Room.length c195, .slice a197 q188.1.Tracks.length c198] 25 (0, 0)) :: pt b187 (.cells #[.int .i64 ((k152 : Nat) : Int), .int .i64 q176] 34 (0, 0)) :: pt b147 (.cells #[.slice a138 q127.1.depot.Room.length c139, .slice a141 q127.1.depot.Tracks.length c142, .int .i64 q127.1.left, .slice a144 q127.1.moves.length c145] 50 (0, 0)) :: pt b103 (.cells #[.slice a178 q177.length c179] 47 (0, 0)) :: vecC 50 4 a178 c179 q177.length cs182 :: mapC (PadK.f (n := 4 * 4)) Value.bool b98 q184 :: pt b52 (.cells #[.slice a1 x1.length c1] 22 (0, 0)) :: pt b51 (.cells #[.slice a0_0 x0.Room.length c0_0, .slice a0_1 x0.Tracks.length c0_1] 25 (0, 0)) :: R)) (w := _) (x := true) (y := true) (fun _ => hS) (fun _ => hS)
                              have hF := hS; replace hS := hS
                              refine Rg.take (i := 6) true rfl hE rfl (by kernel_rfl) (runs_plain rfl) (Gives.loadBA hE 1 rfl rfl ty34) rfl hT ?_; clear hE a; intro a hE
                              replace hS := hF; clear hF hT
                              obtain ⟨q229, hq230, hq170⟩ := bindS hq170
                              obtain ⟨x238, hx239, hq170⟩ := bindS hq170
                              suffices key : ∀ cs242 b244 a240 c241 (a : Act) (w : World), Sl 1 (RI .i64) s192 a2 c2 x2 → Sl 1 (RI .i64) s192 a194 c195 q188.1.Room → Sl 1 (RL 1 (RI .i64)) s192 a197 c198 q188.1.Tracks → Ev 2 RFleetMove s192 cs242 x238 → Sl 1 (RI .i64) s192 a138 c139 q127.1.depot.Room → Sl 1 (RL 1 (RI .i64)) s192 a141 c142 q127.1.depot.Tracks → Sl 2 RFleetMove s192 a144 c145 q127.1.moves → Ev 4 RFleetTry s192 cs182 q177 → Sl 1 (RI .i64) s192 a1 c1 x1 → Sl 1 (RI .i64) s192 a0_0 c0_0 x0.Room → Sl 1 (RL 1 (RI .i64)) s192 a0_1 c0_1 x0.Tracks → Rep a 154 [(2, .slice a2 x2.length c2), (3, .pointer (some ⟨b51, 0, none⟩)), (4, .pointer (some ⟨b52, 0, none⟩)), (14, .map (some b98)), (15, .pointer (some ⟨b103, 0, none⟩)), (16, .pointer (some ⟨b147, 0, none⟩)), (18, .int .i64 ((k152 : Nat) : Int)), (19, .int .i64 q176), (21, .pointer (some ⟨b200, 0, none⟩)), (24, .pointer (some ⟨b244, 0, none⟩)), (86, .int .i64 ((x0.Tracks).length : Int)), (87, .int .i64 ((k152 : Nat) : Int))] → St w s192 (pt b244 (.cells #[.slice a194 q188.1.Room.length c195, .slice a197 q188.1.Tracks.length c198, .int .i64 q127.1.left, .slice a240 x238.length c241] 50 (0, 0)) :: vecC 34 2 a240 c241 x238.length cs242 :: pt b200 (.cells #[.slice a194 q188.1.Room.length c195, .slice a197 q188.1.Tracks.length c198] 25 (0, 0)) :: pt b187 (.cells #[.int .i64 ((k152 : Nat) : Int), .int .i64 q176] 34 (0, 0)) :: pt b147 (.cells #[.slice a138 q127.1.depot.Room.length c139, .slice a141 q127.1.depot.Tracks.length c142, .int .i64 q127.1.left, .slice a144 q127.1.moves.length c145] 50 (0, 0)) :: pt b103 (.cells #[.slice a178 q177.length c179] 47 (0, 0)) :: vecC 50 4 a178 c179 q177.length cs182 :: mapC (PadK.f (n := 4 * 4)) Value.bool b98 q184 :: pt b52 (.cells #[.slice a1 x1.length c1] 22 (0, 0)) :: pt b51 (.cells #[.slice a0_0 x0.Room.length c0_0, .slice a0_1 x0.Tracks.length c0_1] 25 (0, 0)) :: R) → K228.nor a w by
                                refine Rg.many 5 [7, 10] (by kernel_rfl) ⟨?_, ?_, ?_, trivial⟩
                                · refine Br.mk (i := 5) true true rfl (by kernel_rfl) (by kernel_rfl) ?_
                                  have hc_ := SlicesCloneLfleetMove_ok hS h146 hq230
                                  refine WL.fnq hE (hc_) (runs_plain rfl) bd16 rfl rfl rfl ?_
                                  clear hE hS hc_; rintro e w ⟨a231, c232, n233, cs234, rfl, h235, rfl, hS⟩; refine ⟨_, rfl, ?_⟩; clear a; intro a hE
                                  refine WL.nil ?_
                                  refine ⟨⟨fun _ => (hS.tail), fun _ => (hS.tail)⟩, ?_⟩
                                  refine Rg.many 7 [10] (by kernel_rfl) ⟨?_, ?_, trivial⟩
                                  · refine Br.mk (i := 7) true true rfl (by kernel_rfl) (by kernel_rfl) ?_
                                    refine WL.lit hE hS (e := 34) (es := 2) (vs := [(0, .agg [.int .i64 ((k152 : Nat) : Int), .int .i64 q176].toArray)]) (cs := [.int .i64 ((k152 : Nat) : Int), .int .i64 q176]) (runs_plain rfl) rfl (by kernel_rfl) rfl ?_; clear hE hS a w; intro b237 a w hE hS
                                    refine WL.nil ?_
                                    refine ⟨⟨fun _ => ((hS.tail).tail), fun _ => ((hS.tail).tail)⟩, ?_⟩
                                    refine Rg.many 8 [10] (by kernel_rfl) ⟨?_, ?_, trivial⟩
                                    · refine Br.mk (i := 8) true true rfl (by kernel_rfl) (by kernel_rfl) ?_
                                      refine WL.appD hE hS 0 (m := 1) (runs_plain rfl) rfl rfl rfl ap26 rfl h235 rfl (xs := [(FleetMove.mk ((k152 : Nat) : Int) q176)]) (Ev.cons (c1 := [.int .i64 ((k152 : Nat) : Int), .int .i64 q176]) rfl rfl (Ev.nil)) rfl rfl hx239 rfl ?_; clear hE hS a w; intro a240 c241 cs242 a w h243 hE hS
                                      refine WL.nil ?_
                                      refine ⟨⟨fun _ => (hS.tail), fun _ => (hS.tail)⟩, ?_⟩
                                      refine Rg.takeP (i := 9) hE rfl (by kernel_rfl) (runs_plain rfl) (Gives.build hE (vs := [(0, .agg [.slice a194 q188.1.Room.length c195, .slice a197 q188.1.Tracks.length c198].toArray), (1, .int .i64 q127.1.left), (2, .slice a240 x238.length c241)]) [.slice a194 q188.1.Room.length c195, .slice a197 q188.1.Tracks.length c198, .int .i64 q127.1.left, .slice a240 x238.length c241] rfl (by kernel_rfl)) rfl (tw_sel (fun _ => (hS.tail)) (fun _ => (hS.tail))) ?_; clear hE a; intro a hE
                                      refine Rg.one (i := 10) true true rfl (by kernel_rfl) (by kernel_rfl) (by kernel_rfl) ?_
                                      refine WL.alloc hE hS (runs_plain rfl) zr50 rfl ?_; clear hE hS a w; intro b244 a w hE hS
                                      refine WL.nil ?_
                                      refine ⟨⟨fun _ => ((hS.tail).tail), fun _ => ((hS.tail).tail)⟩, ?_⟩
                                      refine Rg.one (i := 11) true true rfl (by kernel_rfl) (by kernel_rfl) (by kernel_rfl) ?_
                                      refine WL.storeI hE hS 0 rfl [.slice a194 q188.1.Room.length c195, .slice a197 q188.1.Tracks.length c198, .int .i64 q127.1.left, .slice a240 x238.length c241] (runs_plain rfl) rfl rfl rfl ty50 rfl rfl rfl rfl ?_; clear hE hS a w; intro a w hE hS
                                      refine WL.nil ?_
                                      refine ⟨⟨fun _ => ((hS.tail).tail), fun _ => ((hS.tail).tail)⟩, ?_⟩
                                      refine Rg.done (by kernel_rfl) ?_
                                      exact key _ _ _ _ _ _ h2 h196 h199 h243 h140 h143 h146 h180 h1 h0_0 h0_1 (hE.pick _ ⟨rfl, rfl, rfl, rfl, rfl, rfl, rfl, rfl, rfl, rfl, rfl, rfl, trivial⟩) hS
                                    · refine Br.mk (i := 10) true true rfl (by kernel_rfl) (by kernel_rfl) ?_
                                      refine WL.alloc hE hS (runs_plain rfl) zr50 rfl ?_; clear hE hS a w; intro b244 a w hE hS
                                      refine WL.nil ?_
                                      refine ⟨⟨fun _ => (((hS.tail).tail).tail), fun _ => (((hS.tail).tail).tail)⟩, ?_⟩
                                      refine Rg.one (i := 8) true true rfl (by kernel_rfl) (by kernel_rfl) (by kernel_rfl) ?_
                                      replace hS := hS.front 1 rfl
                                      refine WL.appD hE hS 1 (m := 1) (runs_plain rfl) rfl rfl rfl ap26 rfl h235 rfl (xs := [(FleetMove.mk ((k152 : Nat) : Int) q176)]) (Ev.cons (c1 := [.int .i64 ((k152 : Nat) : Int), .int .i64 q176]) rfl rfl (Ev.nil)) rfl rfl hx239 rfl ?_; clear hE hS a w; intro a240 c241 cs242 a w h243 hE hS
                                      refine WL.nil ?_
                                      refine ⟨⟨fun _ => ((hS.tail).tail), fun _ => ((hS.tail).tail)⟩, ?_⟩
                                      refine Rg.takeP (i := 9) hE rfl (by kernel_rfl) (runs_plain rfl) (Gives.build hE (vs := [(0, .agg [.slice a194 q188.1.Room.length c195, .slice a197 q188.1.Tracks.length c198].toArray), (1, .int .i64 q127.1.left), (2, .slice a240 x238.length c241)]) [.slice a194 q188.1.Room.length c195, .slice a197 q188.1.Tracks.length c198, .int .i64 q127.1.left, .slice a240 x238.length c241] rfl (by kernel_rfl)) rfl (tw_sel (fun _ => ((hS.tail).tail)) (fun _ => ((hS.tail).tail))) ?_; clear hE a; intro a hE
                                      refine Rg.one (i := 11) true true rfl (by kernel_rfl) (by kernel_rfl) (by kernel_rfl) ?_
                                      refine WL.storeI hE hS 0 rfl [.slice a194 q188.1.Room.length c195, .slice a197 q188.1.Tracks.length c198, .int .i64 q127.1.left, .slice a240 x238.length c241] (runs_plain rfl) rfl rfl rfl ty50 rfl rfl rfl rfl ?_; clear hE hS a w; intro a w hE hS
                                      refine WL.nil ?_
                                      refine ⟨⟨fun _ => ((hS.tail).tail), fun _ => ((hS.tail).tail)⟩, ?_⟩
                                      refine Rg.done (by kernel_rfl) ?_
                                      exact key _ _ _ _ _ _ h2 h196 h199 h243 h140 h143 h146 h180 h1 h0_0 h0_1 (hE.pick _ ⟨rfl, rfl, rfl, rfl, rfl, rfl, rfl, rfl, rfl, rfl, rfl, rfl, trivial⟩) hS
                                  · refine Br.mk (i := 10) true true rfl (by kernel_rfl) (by kernel_rfl) ?_
                                    refine WL.alloc hE hS (runs_plain rfl) zr50 rfl ?_; clear hE hS a w; intro b244 a w hE hS
                                    refine WL.nil ?_
                                    refine ⟨⟨fun _ => ((hS.tail).tail), fun _ => ((hS.tail).tail)⟩, ?_⟩
                                    refine Rg.one (i := 7) true true rfl (by kernel_rfl) (by kernel_rfl) (by kernel_rfl) ?_
                                    refine WL.lit hE hS (e := 34) (es := 2) (vs := [(0, .agg [.int .i64 ((k152 : Nat) : Int), .int .i64 q176].toArray)]) (cs := [.int .i64 ((k152 : Nat) : Int), .int .i64 q176]) (runs_plain rfl) rfl (by kernel_rfl) rfl ?_; clear hE hS a w; intro b237 a w hE hS
                                    refine WL.nil ?_
                                    refine ⟨⟨fun _ => (((hS.tail).tail).tail), fun _ => (((hS.tail).tail).tail)⟩, ?_⟩
                                    refine Rg.one (i := 8) true true rfl (by kernel_rfl) (by kernel_rfl) (by kernel_rfl) ?_
                                    refine WL.appD hE hS 1 (m := 1) (runs_plain rfl) rfl rfl rfl ap26 rfl h235 rfl (xs := [(FleetMove.mk ((k152 : Nat) : Int) q176)]) (Ev.cons (c1 := [.int .i64 ((k152 : Nat) : Int), .int .i64 q176]) rfl rfl (Ev.nil)) rfl rfl hx239 rfl ?_; clear hE hS a w; intro a240 c241 cs242 a w h243 hE hS
                                    refine WL.nil ?_
                                    refine ⟨⟨fun _ => ((hS.tail).tail), fun _ => ((hS.tail).tail)⟩, ?_⟩
                                    refine Rg.takeP (i := 9) hE rfl (by kernel_rfl) (runs_plain rfl) (Gives.build hE (vs := [(0, .agg [.slice a194 q188.1.Room.length c195, .slice a197 q188.1.Tracks.length c198].toArray), (1, .int .i64 q127.1.left), (2, .slice a240 x238.length c241)]) [.slice a194 q188.1.Room.length c195, .slice a197 q188.1.Tracks.length c198, .int .i64 q127.1.left, .slice a240 x238.length c241] rfl (by kernel_rfl)) rfl (tw_sel (fun _ => ((hS.tail).tail)) (fun _ => ((hS.tail).tail))) ?_; clear hE a; intro a hE
                                    refine Rg.one (i := 11) true true rfl (by kernel_rfl) (by kernel_rfl) (by kernel_rfl) ?_
                                    refine WL.storeI hE hS 0 rfl [.slice a194 q188.1.Room.length c195, .slice a197 q188.1.Tracks.length c198, .int .i64 q127.1.left, .slice a240 x238.length c241] (runs_plain rfl) rfl rfl rfl ty50 rfl rfl rfl rfl ?_; clear hE hS a w; intro a w hE hS
                                    refine WL.nil ?_
                                    refine ⟨⟨fun _ => ((hS.tail).tail), fun _ => ((hS.tail).tail)⟩, ?_⟩
                                    refine Rg.done (by kernel_rfl) ?_
                                    exact key _ _ _ _ _ _ h2 h196 h199 h243 h140 h143 h146 h180 h1 h0_0 h0_1 (hE.pick _ ⟨rfl, rfl, rfl, rfl, rfl, rfl, rfl, rfl, rfl, rfl, rfl, rfl, trivial⟩) hS
                                · refine Br.mk (i := 7) true true rfl (by kernel_rfl) (by kernel_rfl) ?_
                                  refine WL.lit hE hS (e := 34) (es := 2) (vs := [(0, .agg [.int .i64 ((k152 : Nat) : Int), .int .i64 q176].toArray)]) (cs := [.int .i64 ((k152 : Nat) : Int), .int .i64 q176]) (runs_plain rfl) rfl (by kernel_rfl) rfl ?_; clear hE hS a w; intro b237 a w hE hS
                                  refine WL.nil ?_
                                  refine ⟨⟨fun _ => (hS.tail), fun _ => (hS.tail)⟩, ?_⟩
                                  refine Rg.many 5 [10] (by kernel_rfl) ⟨?_, ?_, trivial⟩
                                  · refine Br.mk (i := 5) true true rfl (by kernel_rfl) (by kernel_rfl) ?_
                                    have hc_ := SlicesCloneLfleetMove_ok hS h146 hq230
                                    refine WL.fnq hE (hc_) (runs_plain rfl) bd16 rfl rfl rfl ?_
                                    clear hE hS hc_; rintro e w ⟨a231, c232, n233, cs234, rfl, h235, rfl, hS⟩; refine ⟨_, rfl, ?_⟩; clear a; intro a hE
                                    refine WL.nil ?_
                                    refine ⟨⟨fun _ => ((hS.tail).tail), fun _ => ((hS.tail).tail)⟩, ?_⟩
                                    refine Rg.many 8 [10] (by kernel_rfl) ⟨?_, ?_, trivial⟩
                                    · refine Br.mk (i := 8) true true rfl (by kernel_rfl) (by kernel_rfl) ?_
                                      replace hS := hS.front 1 rfl
                                      refine WL.appD hE hS 0 (m := 1) (runs_plain rfl) rfl rfl rfl ap26 rfl h235 rfl (xs := [(FleetMove.mk ((k152 : Nat) : Int) q176)]) (Ev.cons (c1 := [.int .i64 ((k152 : Nat) : Int), .int .i64 q176]) rfl rfl (Ev.nil)) rfl rfl hx239 rfl ?_; clear hE hS a w; intro a240 c241 cs242 a w h243 hE hS
                                      refine WL.nil ?_
                                      refine ⟨⟨fun _ => (hS.tail), fun _ => (hS.tail)⟩, ?_⟩
                                      refine Rg.takeP (i := 9) hE rfl (by kernel_rfl) (runs_plain rfl) (Gives.build hE (vs := [(0, .agg [.slice a194 q188.1.Room.length c195, .slice a197 q188.1.Tracks.length c198].toArray), (1, .int .i64 q127.1.left), (2, .slice a240 x238.length c241)]) [.slice a194 q188.1.Room.length c195, .slice a197 q188.1.Tracks.length c198, .int .i64 q127.1.left, .slice a240 x238.length c241] rfl (by kernel_rfl)) rfl (tw_sel (fun _ => (hS.tail)) (fun _ => (hS.tail))) ?_; clear hE a; intro a hE
                                      refine Rg.one (i := 10) true true rfl (by kernel_rfl) (by kernel_rfl) (by kernel_rfl) ?_
                                      refine WL.alloc hE hS (runs_plain rfl) zr50 rfl ?_; clear hE hS a w; intro b244 a w hE hS
                                      refine WL.nil ?_
                                      refine ⟨⟨fun _ => ((hS.tail).tail), fun _ => ((hS.tail).tail)⟩, ?_⟩
                                      refine Rg.one (i := 11) true true rfl (by kernel_rfl) (by kernel_rfl) (by kernel_rfl) ?_
                                      refine WL.storeI hE hS 0 rfl [.slice a194 q188.1.Room.length c195, .slice a197 q188.1.Tracks.length c198, .int .i64 q127.1.left, .slice a240 x238.length c241] (runs_plain rfl) rfl rfl rfl ty50 rfl rfl rfl rfl ?_; clear hE hS a w; intro a w hE hS
                                      refine WL.nil ?_
                                      refine ⟨⟨fun _ => ((hS.tail).tail), fun _ => ((hS.tail).tail)⟩, ?_⟩
                                      refine Rg.done (by kernel_rfl) ?_
                                      exact key _ _ _ _ _ _ h2 h196 h199 h243 h140 h143 h146 h180 h1 h0_0 h0_1 (hE.pick _ ⟨rfl, rfl, rfl, rfl, rfl, rfl, rfl, rfl, rfl, rfl, rfl, rfl, trivial⟩) hS
                                    · refine Br.mk (i := 10) true true rfl (by kernel_rfl) (by kernel_rfl) ?_
                                      refine WL.alloc hE hS (runs_plain rfl) zr50 rfl ?_; clear hE hS a w; intro b244 a w hE hS
                                      refine WL.nil ?_
                                      refine ⟨⟨fun _ => (((hS.tail).tail).tail), fun _ => (((hS.tail).tail).tail)⟩, ?_⟩
                                      refine Rg.one (i := 8) true true rfl (by kernel_rfl) (by kernel_rfl) (by kernel_rfl) ?_
                                      replace hS := hS.front 2 rfl
                                      refine WL.appD hE hS 1 (m := 1) (runs_plain rfl) rfl rfl rfl ap26 rfl h235 rfl (xs := [(FleetMove.mk ((k152 : Nat) : Int) q176)]) (Ev.cons (c1 := [.int .i64 ((k152 : Nat) : Int), .int .i64 q176]) rfl rfl (Ev.nil)) rfl rfl hx239 rfl ?_; clear hE hS a w; intro a240 c241 cs242 a w h243 hE hS
                                      refine WL.nil ?_
                                      refine ⟨⟨fun _ => ((hS.tail).tail), fun _ => ((hS.tail).tail)⟩, ?_⟩
                                      refine Rg.takeP (i := 9) hE rfl (by kernel_rfl) (runs_plain rfl) (Gives.build hE (vs := [(0, .agg [.slice a194 q188.1.Room.length c195, .slice a197 q188.1.Tracks.length c198].toArray), (1, .int .i64 q127.1.left), (2, .slice a240 x238.length c241)]) [.slice a194 q188.1.Room.length c195, .slice a197 q188.1.Tracks.length c198, .int .i64 q127.1.left, .slice a240 x238.length c241] rfl (by kernel_rfl)) rfl (tw_sel (fun _ => ((hS.tail).tail)) (fun _ => ((hS.tail).tail))) ?_; clear hE a; intro a hE
                                      refine Rg.one (i := 11) true true rfl (by kernel_rfl) (by kernel_rfl) (by kernel_rfl) ?_
                                      refine WL.storeI hE hS 0 rfl [.slice a194 q188.1.Room.length c195, .slice a197 q188.1.Tracks.length c198, .int .i64 q127.1.left, .slice a240 x238.length c241] (runs_plain rfl) rfl rfl rfl ty50 rfl rfl rfl rfl ?_; clear hE hS a w; intro a w hE hS
                                      refine WL.nil ?_
                                      refine ⟨⟨fun _ => ((hS.tail).tail), fun _ => ((hS.tail).tail)⟩, ?_⟩
                                      refine Rg.done (by kernel_rfl) ?_
                                      exact key _ _ _ _ _ _ h2 h196 h199 h243 h140 h143 h146 h180 h1 h0_0 h0_1 (hE.pick _ ⟨rfl, rfl, rfl, rfl, rfl, rfl, rfl, rfl, rfl, rfl, rfl, rfl, trivial⟩) hS
                                  · refine Br.mk (i := 10) true true rfl (by kernel_rfl) (by kernel_rfl) ?_
                                    refine WL.alloc hE hS (runs_plain rfl) zr50 rfl ?_; clear hE hS a w; intro b244 a w hE hS
                                    refine WL.nil ?_
                                    refine ⟨⟨fun _ => ((hS.tail).tail), fun _ => ((hS.tail).tail)⟩, ?_⟩
                                    refine Rg.one (i := 5) true true rfl (by kernel_rfl) (by kernel_rfl) (by kernel_rfl) ?_
                                    have hc_ := SlicesCloneLfleetMove_ok hS h146 hq230
                                    refine WL.fnq hE (hc_) (runs_plain rfl) bd16 rfl rfl rfl ?_
                                    clear hE hS hc_; rintro e w ⟨a231, c232, n233, cs234, rfl, h235, rfl, hS⟩; refine ⟨_, rfl, ?_⟩; clear a; intro a hE
                                    refine WL.nil ?_
                                    refine ⟨⟨fun _ => (((hS.tail).tail).tail), fun _ => (((hS.tail).tail).tail)⟩, ?_⟩
                                    refine Rg.one (i := 8) true true rfl (by kernel_rfl) (by kernel_rfl) (by kernel_rfl) ?_
                                    replace hS := hS.front 2 rfl
                                    refine WL.appD hE hS 0 (m := 1) (runs_plain rfl) rfl rfl rfl ap26 rfl h235 rfl (xs := [(FleetMove.mk ((k152 : Nat) : Int) q176)]) (Ev.cons (c1 := [.int .i64 ((k152 : Nat) : Int), .int .i64 q176]) rfl rfl (Ev.nil)) rfl rfl hx239 rfl ?_; clear hE hS a w; intro a240 c241 cs242 a w h243 hE hS
                                    refine WL.nil ?_
                                    refine ⟨⟨fun _ => ((hS.tail).tail), fun _ => ((hS.tail).tail)⟩, ?_⟩
                                    refine Rg.takeP (i := 9) hE rfl (by kernel_rfl) (runs_plain rfl) (Gives.build hE (vs := [(0, .agg [.slice a194 q188.1.Room.length c195, .slice a197 q188.1.Tracks.length c198].toArray), (1, .int .i64 q127.1.left), (2, .slice a240 x238.length c241)]) [.slice a194 q188.1.Room.length c195, .slice a197 q188.1.Tracks.length c198, .int .i64 q127.1.left, .slice a240 x238.length c241] rfl (by kernel_rfl)) rfl (tw_sel (fun _ => ((hS.tail).tail)) (fun _ => ((hS.tail).tail))) ?_; clear hE a; intro a hE
                                    refine Rg.one (i := 11) true true rfl (by kernel_rfl) (by kernel_rfl) (by kernel_rfl) ?_
                                    refine WL.storeI hE hS 1 rfl [.slice a194 q188.1.Room.length c195, .slice a197 q188.1.Tracks.length c198, .int .i64 q127.1.left, .slice a240 x238.length c241] (runs_plain rfl) rfl rfl rfl ty50 rfl rfl rfl rfl ?_; clear hE hS a w; intro a w hE hS
                                    refine WL.nil ?_
                                    refine ⟨⟨fun _ => ((hS.tail).tail), fun _ => ((hS.tail).tail)⟩, ?_⟩
                                    refine Rg.done (by kernel_rfl) ?_
                                    replace hS := hS.front 9 rfl
                                    replace hS := hS.front 9 rfl
                                    replace hS := hS.front 9 rfl
                                    replace hS := hS.front 9 rfl
                                    replace hS := hS.front 9 rfl
                                    replace hS := hS.front 9 rfl
                                    replace hS := hS.front 9 rfl
                                    replace hS := hS.front 9 rfl
                                    replace hS := hS.front 8 rfl
                                    replace hS := hS.front 9 rfl
                                    exact key _ _ _ _ _ _ h2 h196 h199 h243 h140 h143 h146 h180 h1 h0_0 h0_1 (hE.pick _ ⟨rfl, rfl, rfl, rfl, rfl, rfl, rfl, rfl, rfl, rfl, rfl, rfl, trivial⟩) hS
                                · refine Br.mk (i := 10) true true rfl (by kernel_rfl) (by kernel_rfl) ?_
                                  refine WL.alloc hE hS (runs_plain rfl) zr50 rfl ?_; clear hE hS a w; intro b244 a w hE hS
                                  refine WL.nil ?_
                                  refine ⟨⟨fun _ => (hS.tail), fun _ => (hS.tail)⟩, ?_⟩
                                  refine Rg.many 5 [7] (by kernel_rfl) ⟨?_, ?_, trivial⟩
                                  · refine Br.mk (i := 5) true true rfl (by kernel_rfl) (by kernel_rfl) ?_
                                    have hc_ := SlicesCloneLfleetMove_ok hS h146 hq230
                                    refine WL.fnq hE (hc_) (runs_plain rfl) bd16 rfl rfl rfl ?_
                                    clear hE hS hc_; rintro e w ⟨a231, c232, n233, cs234, rfl, h235, rfl, hS⟩; refine ⟨_, rfl, ?_⟩; clear a; intro a hE
                                    refine WL.nil ?_
                                    refine ⟨⟨fun _ => ((hS.tail).tail), fun _ => ((hS.tail).tail)⟩, ?_⟩
                                    refine Rg.one (i := 7) true true rfl (by kernel_rfl) (by kernel_rfl) (by kernel_rfl) ?_
                                    refine WL.lit hE hS (e := 34) (es := 2) (vs := [(0, .agg [.int .i64 ((k152 : Nat) : Int), .int .i64 q176].toArray)]) (cs := [.int .i64 ((k152 : Nat) : Int), .int .i64 q176]) (runs_plain rfl) rfl (by kernel_rfl) rfl ?_; clear hE hS a w; intro b237 a w hE hS
                                    refine WL.nil ?_
                                    refine ⟨⟨fun _ => (((hS.tail).tail).tail), fun _ => (((hS.tail).tail).tail)⟩, ?_⟩
                                    refine Rg.one (i := 8) true true rfl (by kernel_rfl) (by kernel_rfl) (by kernel_rfl) ?_
                                    refine WL.appD hE hS 0 (m := 1) (runs_plain rfl) rfl rfl rfl ap26 rfl h235 rfl (xs := [(FleetMove.mk ((k152 : Nat) : Int) q176)]) (Ev.cons (c1 := [.int .i64 ((k152 : Nat) : Int), .int .i64 q176]) rfl rfl (Ev.nil)) rfl rfl hx239 rfl ?_; clear hE hS a w; intro a240 c241 cs242 a w h243 hE hS
                                    refine WL.nil ?_
                                    refine ⟨⟨fun _ => ((hS.tail).tail), fun _ => ((hS.tail).tail)⟩, ?_⟩
                                    refine Rg.takeP (i := 9) hE rfl (by kernel_rfl) (runs_plain rfl) (Gives.build hE (vs := [(0, .agg [.slice a194 q188.1.Room.length c195, .slice a197 q188.1.Tracks.length c198].toArray), (1, .int .i64 q127.1.left), (2, .slice a240 x238.length c241)]) [.slice a194 q188.1.Room.length c195, .slice a197 q188.1.Tracks.length c198, .int .i64 q127.1.left, .slice a240 x238.length c241] rfl (by kernel_rfl)) rfl (tw_sel (fun _ => ((hS.tail).tail)) (fun _ => ((hS.tail).tail))) ?_; clear hE a; intro a hE
                                    refine Rg.one (i := 11) true true rfl (by kernel_rfl) (by kernel_rfl) (by kernel_rfl) ?_
                                    refine WL.storeI hE hS 1 rfl [.slice a194 q188.1.Room.length c195, .slice a197 q188.1.Tracks.length c198, .int .i64 q127.1.left, .slice a240 x238.length c241] (runs_plain rfl) rfl rfl rfl ty50 rfl rfl rfl rfl ?_; clear hE hS a w; intro a w hE hS
                                    refine WL.nil ?_
                                    refine ⟨⟨fun _ => ((hS.tail).tail), fun _ => ((hS.tail).tail)⟩, ?_⟩
                                    refine Rg.done (by kernel_rfl) ?_
                                    replace hS := hS.front 9 rfl
                                    replace hS := hS.front 9 rfl
                                    replace hS := hS.front 9 rfl
                                    replace hS := hS.front 9 rfl
                                    replace hS := hS.front 9 rfl
                                    replace hS := hS.front 9 rfl
                                    replace hS := hS.front 9 rfl
                                    replace hS := hS.front 9 rfl
                                    replace hS := hS.front 8 rfl
                                    replace hS := hS.front 9 rfl
                                    exact key _ _ _ _ _ _ h2 h196 h199 h243 h140 h143 h146 h180 h1 h0_0 h0_1 (hE.pick _ ⟨rfl, rfl, rfl, rfl, rfl, rfl, rfl, rfl, rfl, rfl, rfl, rfl, trivial⟩) hS
                                  · refine Br.mk (i := 7) true true rfl (by kernel_rfl) (by kernel_rfl) ?_
                                    refine WL.lit hE hS (e := 34) (es := 2) (vs := [(0, .agg [.int .i64 ((k152 : Nat) : Int), .int .i64 q176].toArray)]) (cs := [.int .i64 ((k152 : Nat) : Int), .int .i64 q176]) (runs_plain rfl) rfl (by kernel_rfl) rfl ?_; clear hE hS a w; intro b237 a w hE hS
                                    refine WL.nil ?_
                                    refine ⟨⟨fun _ => ((hS.tail).tail), fun _ => ((hS.tail).tail)⟩, ?_⟩
                                    refine Rg.one (i := 5) true true rfl (by kernel_rfl) (by kernel_rfl) (by kernel_rfl) ?_
                                    have hc_ := SlicesCloneLfleetMove_ok hS h146 hq230
                                    refine WL.fnq hE (hc_) (runs_plain rfl) bd16 rfl rfl rfl ?_
                                    clear hE hS hc_; rintro e w ⟨a231, c232, n233, cs234, rfl, h235, rfl, hS⟩; refine ⟨_, rfl, ?_⟩; clear a; intro a hE
                                    refine WL.nil ?_
                                    refine ⟨⟨fun _ => (((hS.tail).tail).tail), fun _ => (((hS.tail).tail).tail)⟩, ?_⟩
                                    refine Rg.one (i := 8) true true rfl (by kernel_rfl) (by kernel_rfl) (by kernel_rfl) ?_
                                    replace hS := hS.front 1 rfl
                                    refine WL.appD hE hS 0 (m := 1) (runs_plain rfl) rfl rfl rfl ap26 rfl h235 rfl (xs := [(FleetMove.mk ((k152 : Nat) : Int) q176)]) (Ev.cons (c1 := [.int .i64 ((k152 : Nat) : Int), .int .i64 q176]) rfl rfl (Ev.nil)) rfl rfl hx239 rfl ?_; clear hE hS a w; intro a240 c241 cs242 a w h243 hE hS
                                    refine WL.nil ?_
                                    refine ⟨⟨fun _ => ((hS.tail).tail), fun _ => ((hS.tail).tail)⟩, ?_⟩
                                    refine Rg.takeP (i := 9) hE rfl (by kernel_rfl) (runs_plain rfl) (Gives.build hE (vs := [(0, .agg [.slice a194 q188.1.Room.length c195, .slice a197 q188.1.Tracks.length c198].toArray), (1, .int .i64 q127.1.left), (2, .slice a240 x238.length c241)]) [.slice a194 q188.1.Room.length c195, .slice a197 q188.1.Tracks.length c198, .int .i64 q127.1.left, .slice a240 x238.length c241] rfl (by kernel_rfl)) rfl (tw_sel (fun _ => ((hS.tail).tail)) (fun _ => ((hS.tail).tail))) ?_; clear hE a; intro a hE
                                    refine Rg.one (i := 11) true true rfl (by kernel_rfl) (by kernel_rfl) (by kernel_rfl) ?_
                                    refine WL.storeI hE hS 1 rfl [.slice a194 q188.1.Room.length c195, .slice a197 q188.1.Tracks.length c198, .int .i64 q127.1.left, .slice a240 x238.length c241] (runs_plain rfl) rfl rfl rfl ty50 rfl rfl rfl rfl ?_; clear hE hS a w; intro a w hE hS
                                    refine WL.nil ?_
                                    refine ⟨⟨fun _ => ((hS.tail).tail), fun _ => ((hS.tail).tail)⟩, ?_⟩
                                    refine Rg.done (by kernel_rfl) ?_
                                    replace hS := hS.front 9 rfl
                                    replace hS := hS.front 9 rfl
                                    replace hS := hS.front 9 rfl
                                    replace hS := hS.front 9 rfl
                                    replace hS := hS.front 9 rfl
                                    replace hS := hS.front 9 rfl
                                    replace hS := hS.front 9 rfl
                                    replace hS := hS.front 9 rfl
                                    replace hS := hS.front 8 rfl
                                    replace hS := hS.front 9 rfl
                                    exact key _ _ _ _ _ _ h2 h196 h199 h243 h140 h143 h146 h180 h1 h0_0 h0_1 (hE.pick _ ⟨rfl, rfl, rfl, rfl, rfl, rfl, rfl, rfl, rfl, rfl, rfl, rfl, trivial⟩) hS
                              clear hE hS a w; intro cs242 b244 a240 c241 a w h2 h196 h199 h243 h140 h143 h146 h180 h1 h0_0 h0_1 hE hS
                              subst hK228
                              refine W.seq ?_
                              refine W.seq ?_
                              refine W.region ?_
                              refine WL.vS hS hE (runs_plain rfl) (Gives.p hE rfl) rfl ?_; clear hE a; intro a hE
                              refine WL.vS hS hE (runs_plain rfl) (Gives.p hE rfl) rfl ?_; clear hE a; intro a hE
                              refine WL.nil ?_
                              obtain ⟨q247, hq246, hq170⟩ := bndS hq170
                              refine W.cut (fun a w => ∃ (q250 : Int), q250 = q247 ∧ Rep a 154 [(2, .slice a2 x2.length c2), (3, .pointer (some ⟨b51, 0, none⟩)), (4, .pointer (some ⟨b52, 0, none⟩)), (14, .map (some b98)), (15, .pointer (some ⟨b103, 0, none⟩)), (16, .pointer (some ⟨b147, 0, none⟩)), (18, .int .i64 ((k152 : Nat) : Int)), (19, .int .i64 q176), (21, .pointer (some ⟨b200, 0, none⟩)), (24, .pointer (some ⟨b244, 0, none⟩)), (86, .int .i64 ((x0.Tracks).length : Int)), (87, .int .i64 ((k152 : Nat) : Int))] ∧ St w s192 (pt b244 (.cells #[.slice a194 q188.1.Room.length c195, .slice a197 q188.1.Tracks.length c198, .int .i64 q250, .slice a240 x238.length c241] 50 (0, 0)) :: vecC 34 2 a240 c241 x238.length cs242 :: pt b200 (.cells #[.slice a194 q188.1.Room.length c195, .slice a197 q188.1.Tracks.length c198] 25 (0, 0)) :: pt b187 (.cells #[.int .i64 ((k152 : Nat) : Int), .int .i64 q176] 34 (0, 0)) :: pt b147 (.cells #[.slice a138 q127.1.depot.Room.length c139, .slice a141 q127.1.depot.Tracks.length c142, .int .i64 q127.1.left, .slice a144 q127.1.moves.length c145] 50 (0, 0)) :: pt b103 (.cells #[.slice a178 q177.length c179] 47 (0, 0)) :: vecC 50 4 a178 c179 q177.length cs182 :: mapC (PadK.f (n := 4 * 4)) Value.bool b98 q184 :: pt b52 (.cells #[.slice a1 x1.length c1] 22 (0, 0)) :: pt b51 (.cells #[.slice a0_0 x0.Room.length c0_0, .slice a0_1 x0.Tracks.length c0_1] 25 (0, 0)) :: R)) ?_ ?_
                              · refine W.gen fun K251 hK251 => ?_
                                refine W.cond hE rfl (fun hc252 => ?_) (fun hc252 => ?_)
                                · replace hq246 := iteT hc252 hq246
                                  refine W.region ?_
                                  refine WL.vS hS hE (runs_plain rfl) (Gives.fld hE rfl fl50_1) rfl ?_; clear hE a; intro a hE
                                  refine WL.vS hS hE (runs_plain rfl) (Gives.loadB hE 0 rfl rfl rfl ty3) rfl ?_; clear hE a; intro a hE
                                  refine WL.vS hS hE (runs_plain rfl) (Gives.p hE rfl) rfl ?_; clear hE a; intro a hE
                                  refine WL.vS hS hE (runs_plain rfl) (Gives.fld hE rfl fl50_1) rfl ?_; clear hE a; intro a hE
                                  refine WL.storeI hE hS 0 rfl [.slice a194 q188.1.Room.length c195, .slice a197 q188.1.Tracks.length c198, .int .i64 (w64 (q127.1.left + 1)), .slice a240 x238.length c241] (runs_plain rfl) rfl rfl rfl ty3 rfl rfl rfl rfl ?_; clear hE hS a w; intro a w hE hS
                                  refine WL.nil ?_
                                  subst hK251
                                  exact ⟨w64 (q127.1.left + 1), hq246, hE.pick _ ⟨rfl, rfl, rfl, rfl, rfl, rfl, rfl, rfl, rfl, rfl, rfl, rfl, trivial⟩, hS⟩
                                · replace hq246 := iteF hc252 hq246
                                  refine W.skip ?_
                                  subst hK251
                                  exact ⟨q127.1.left, hq246, hE.pick _ ⟨rfl, rfl, rfl, rfl, rfl, rfl, rfl, rfl, rfl, rfl, rfl, rfl, trivial⟩, hS⟩
                              · clear hE hS a w; rintro a w ⟨q250, rfl, hE, hS⟩
                                refine W.seq ?_
                                refine W.region ?_
                                refine WL.vS hS hE (runs_plain rfl) (Gives.loadBA hE 2 rfl rfl ty25) rfl ?_; clear hE a; intro a hE
                                obtain ⟨q253, hq254, hq170⟩ := bindS hq170
                                have hc_ := FleetstateOf_ok hS h196 h199 hq254
                                refine WL.fnq hE (hc_) (runs_plain rfl) bd12 rfl rfl rfl ?_
                                clear hE hS hc_; rintro e w ⟨cs255, rfl, h256, hS⟩; refine ⟨_, rfl, ?_⟩; clear a; intro a hE
                                refine WL.alloc hE hS (runs_plain rfl) zr41 rfl ?_; clear hE hS a w; intro b257 a w hE hS
                                replace hS := hS.ptVec (es := 1) (m := 16) rfl (by decide)
                                have h258 : Ev 1 (RI .i64) s192 [.int .i64 0, .int .i64 0, .int .i64 0, .int .i64 0, .int .i64 0, .int .i64 0, .int .i64 0, .int .i64 0, .int .i64 0, .int .i64 0, .int .i64 0, .int .i64 0, .int .i64 0, .int .i64 0, .int .i64 0, .int .i64 0] [0, 0, 0, 0, 0, 0, 0, 0, 0, 0, 0, 0, 0, 0, 0, 0] := (Ev.cons (c1 := [.int .i64 0]) rfl rfl (Ev.cons (c1 := [.int .i64 0]) rfl rfl (Ev.cons (c1 := [.int .i64 0]) rfl rfl (Ev.cons (c1 := [.int .i64 0]) rfl rfl (Ev.cons (c1 := [.int .i64 0]) rfl rfl (Ev.cons (c1 := [.int .i64 0]) rfl rfl (Ev.cons (c1 := [.int .i64 0]) rfl rfl (Ev.cons (c1 := [.int .i64 0]) rfl rfl (Ev.cons (c1 := [.int .i64 0]) rfl rfl (Ev.cons (c1 := [.int .i64 0]) rfl rfl (Ev.cons (c1 := [.int .i64 0]) rfl rfl (Ev.cons (c1 := [.int .i64 0]) rfl rfl (Ev.cons (c1 := [.int .i64 0]) rfl rfl (Ev.cons (c1 := [.int .i64 0]) rfl rfl (Ev.cons (c1 := [.int .i64 0]) rfl rfl (Ev.cons (c1 := [.int .i64 0]) rfl rfl (Ev.nil)))))))))))))))))
                                have h260 : Ev 1 (RI .i64) s192 cs255 q253 := (RA.ev h256)
                                have hn261 : (q253).length = 16 := h256.2
                                refine WL.storeArr hE hS 0 rfl (runs_plain rfl) rfl rfl rfl ty41 (by decide) (by first | rfl | (rw [h260.ints]; simp [List.all_map, Function.comp_def, Value.oneCell'])) h260 hn261 rfl ?_; clear hE hS a w; intro a w hE hS
                                refine WL.nil ?_
                                refine W.seq ?_
                                refine W.region ?_
                                refine WL.vS hS hE (runs_plain rfl) (Gives.p hE rfl) rfl ?_; clear hE a; intro a hE
                                refine WL.vS hS hE (runs_plain rfl) (Gives.loadArr hE 0 rfl rfl (by decide) ty41) rfl ?_; clear hE a; intro a hE
                                refine WL.vS hS hE (runs_plain rfl) (Gives.mapGetG (keyAr ar2_41) hE 8 (k := (PadK.mk q253 : PadK (4 * 4))) (z := false) rfl (padk_of h260.ints hn261) rfl um43 zm4) rfl ?_; clear hE a; intro a hE
                                refine WL.vS hS hE (runs_plain rfl) (Gives.p hE rfl) rfl ?_; clear hE a; intro a hE
                                refine WL.nil ?_
                                refine W.cond hE rfl (fun hc262 => ?_) (fun hc262 => ?_)
                                · replace hq170 := iteT hc262 hq170
                                  refine W.seq ?_
                                  refine W.region ?_
                                  refine WL.vS hS hE (runs_plain rfl) (Gives.p hE rfl) rfl ?_; clear hE a; intro a hE
                                  refine WL.vS hS hE (runs_plain rfl) (Gives.loadArr hE 0 rfl rfl (by decide) ty41) rfl ?_; clear hE a; intro a hE
                                  refine WL.mapSetG (keyAr ar2_41) hE hS 8 (k := (PadK.mk q253 : PadK (4 * 4))) (v := true) (.inl rfl) (runs_plain rfl) rfl (padk_of h260.ints hn261) rfl rfl um43 rfl ?_; clear hE hS a w; intro a w hE hS
                                  refine WL.nil ?_
                                  refine W.region ?_
                                  refine WL.vS hS hE (runs_plain rfl) (Gives.p hE rfl) rfl ?_; clear hE a; intro a hE
                                  refine WL.vS hS hE (runs_plain rfl) (Gives.loadBA hE 1 rfl rfl ty50) rfl ?_; clear hE a; intro a hE
                                  have hF := hS.fixD RFleetMove.mono 2 rfl h243 (rfl); clear hS; obtain ⟨s263, hle264, hS, h265⟩ := hF
                                  replace h2 := Sl.mono RI.mono hle264 h2
                                  replace h196 := Sl.mono RI.mono hle264 h196
                                  replace h199 := Sl.mono (RL.mono RI.mono) hle264 h199
                                  replace h260 := Ev.mono RI.mono hle264 h260
                                  replace h140 := Sl.mono RI.mono hle264 h140
                                  replace h143 := Sl.mono (RL.mono RI.mono) hle264 h143
                                  replace h146 := Sl.mono RFleetMove.mono hle264 h146
                                  replace h180 := Ev.mono RFleetTry.mono hle264 h180
                                  replace h1 := Sl.mono RI.mono hle264 h1
                                  replace h0_0 := Sl.mono RI.mono hle264 h0_0
                                  replace h0_1 := Sl.mono (RL.mono RI.mono) hle264 h0_1
                                  obtain ⟨q266, hq267, hq170⟩ := bindS hq170
                                  replace hS := hS.front 6 rfl
                                  replace hS := hS.front 6 rfl
                                  have hc_ := FleetQueueputfleettry_v1_ok hS h196 h199 h265 h180 rfl hq267
                                  refine WL.fnq hE (hc_) (runs_plain rfl) bd13 rfl rfl rfl ?_
                                  clear hE hS hc_; rintro e w ⟨a268, c269, n270, cs271, rfl, h272, rfl, hS⟩; refine ⟨_, rfl, ?_⟩; clear a; intro a hE
                                  refine WL.nil ?_
                                  refine W.region ?_
                                  refine WL.vS hS hE (runs_plain rfl) (Gives.p hE rfl) rfl ?_; clear hE a; intro a hE
                                  refine WL.vS hS hE (runs_plain rfl) (Gives.p hE rfl) rfl ?_; clear hE a; intro a hE
                                  refine WL.vS hS hE (runs_plain rfl) (Gives.p hE rfl) rfl ?_; clear hE a; intro a hE
                                  refine WL.nil ?_
                                  replace hS := hS.dropAt 2
                                  replace hS := hS.dropAt 2
                                  replace hS := hS.dropAt 2
                                  replace hS := hS.dropAt 2
                                  replace hS := hS.front 5 rfl
                                  replace hS := hS.front 5 rfl
                                  replace hS := hS.front 5 rfl
                                  replace hS := hS.front 4 rfl
                                  replace hS := hS.front 4 rfl
                                  replace hS := hS.front 5 rfl
                                  subst hK185
                                  exact ⟨n172, Nat.lt_succ_self _, n172, (w64 (q176 + 1)), q266, (mput q184 (PadK.mk q253 : PadK (4 * 4)) true), a268, c269, q266.length, cs271, s263, rfl, (Sg.Le.trans (Sg.Le.trans hle175 hle193) hle264), hq170, h272, rfl, hE.pick _ ⟨rfl, rfl, rfl, rfl, rfl, rfl, rfl, rfl, rfl, rfl, trivial⟩, hS⟩
                                · replace hq170 := iteF hc262 hq170
                                  refine W.skip ?_
                                  refine W.region ?_
                                  refine WL.vS hS hE (runs_plain rfl) (Gives.p hE rfl) rfl ?_; clear hE a; intro a hE
                                  refine WL.vS hS hE (runs_plain rfl) (Gives.p hE rfl) rfl ?_; clear hE a; intro a hE
                                  refine WL.vS hS hE (runs_plain rfl) (Gives.p hE rfl) rfl ?_; clear hE a; intro a hE
                                  refine WL.nil ?_
                                  replace hS := hS.tail
                                  replace hS := hS.tail
                                  replace hS := hS.tail
                                  replace hS := hS.tail
                                  replace hS := hS.tail
                                  subst hK185
                                  exact ⟨n172, Nat.lt_succ_self _, n172, (w64 (q176 + 1)), q177, q184, a178, c179, q177.length, cs182, s192, rfl, (Sg.Le.trans hle175 hle193), hq170, h180, rfl, hE.pick _ ⟨rfl, rfl, rfl, rfl, rfl, rfl, rfl, rfl, rfl, rfl, trivial⟩, hS⟩
                        · replace hq170 := iteF hc186 hq170
                          subst hK185
                          refine W.exit rfl ?_
                          exact ⟨q176, q177, q184, a178, c179, q177.length, cs182, s174, hle175, Option.some.inj hq170, h180, rfl, hE.pick _ ⟨rfl, rfl, rfl, rfl, rfl, rfl, rfl, rfl, trivial⟩, hS⟩
                      · clear hE hS a w; rintro a w ⟨q176, q177, q184, a178, c179, n181, cs182, s174, hle175, rfl, h180, rfl, hE, hS⟩
                        dsimp only at hq150
                        replace h2 := Sl.mono RI.mono hle175 h2
                        replace h140 := Sl.mono RI.mono hle175 h140
                        replace h143 := Sl.mono (RL.mono RI.mono) hle175 h143
                        replace h146 := Sl.mono RFleetMove.mono hle175 h146
                        replace h164 := Ev.mono RFleetTry.mono hle175 h164
                        replace h1 := Sl.mono RI.mono hle175 h1
                        replace h0_0 := Sl.mono RI.mono hle175 h0_0
                        replace h0_1 := Sl.mono (RL.mono RI.mono) hle175 h0_1
                        refine W.region ?_
                        refine WL.vS hS hE (runs_plain rfl) (Gives.inc hE rfl (by have := h0_1.small; omega)) rfl ?_; clear hE a; intro a hE
                        refine WL.vS hS hE (runs_plain rfl) (Gives.p hE rfl) rfl ?_; clear hE a; intro a hE
                        refine WL.nil ?_
                        subst hK169
                        exact ⟨rest154.length, Nat.lt_succ_self _, rest154, k152 + 1, q177, q184, a178, c179, q177.length, cs182, s174, rfl, hd155, (Sg.Le.trans hle160 hle175), hq150, h180, rfl, hE.pick _ ⟨rfl, rfl, rfl, rfl, rfl, rfl, rfl, rfl, trivial⟩, hS⟩
                  · clear hE hS a w; rintro a w ⟨q161, q168, a162, c163, n165, cs166, s159, hle160, rfl, h164, rfl, hE, hS⟩
                    dsimp only at hq112
                    replace h2 := Sl.mono RI.mono hle160 h2
                    replace h140 := Sl.mono RI.mono hle160 h140
                    replace h143 := Sl.mono (RL.mono RI.mono) hle160 h143
                    replace h146 := Sl.mono RFleetMove.mono hle160 h146
                    replace h0_1 := Sl.mono (RL.mono RI.mono) hle160 h0_1
                    replace h135 := Ev.mono RFleetTry.mono hle160 h135
                    replace h1 := Sl.mono RI.mono hle160 h1
                    replace h0_0 := Sl.mono RI.mono hle160 h0_0
                    replace hS := hS.tail
                    subst hK126
                    exact ⟨n114, Nat.lt_succ_self _, n114, q161, q168, a162, c163, q161.length, cs166, s159, rfl, (Sg.Le.trans (Sg.Le.trans hle117 hle137) hle160), hq112, h164, rfl, hE.pick _ ⟨rfl, rfl, rfl, rfl, rfl, trivial⟩, hS⟩
            · exact fun _ _ h => h.elim
set_option maxHeartbeats 8000000 in
theorem Fishref2within_ok  {w : World} {s : Sg} {R : List HP} {x0 : Int} {x1 : Int} {x2 : Int} (hS : St w s (R))  {r : Bool} (hr : Fishref2within x0 x1 x2 = r) :
    Calls Tryd.prog 25 [.int .i64 x0, .int .i64 x1, .int .i64 x2].toArray w (fun e w => e = .returned (.bool r) ∧ St w s (R)) := by
  refine enter Tryd.func25 rfl rfl rfl fun a hE => ?_
  rw [Fishref2within] at hr
  refine W.seq ?_
  refine W.region ?_
  refine WL.vS hS hE (runs_plain rfl) (Gives.p hE rfl) rfl ?_; clear hE a; intro a hE
  refine WL.nil ?_
  refine W.seq ?_
  obtain ⟨q52, hq51, hr⟩ := bndS hr
  refine W.cut (fun a w => ∃ (q55 : Bool), q55 = q52 ∧ Rep a 15 [(6, .bool q55)] ∧ St w s (R)) ?_ ?_
  · refine W.gen fun K56 hK56 => ?_
    refine W.region ?_
    refine WL.vS hS hE (runs_plain rfl) (Gives.p hE rfl) rfl ?_; clear hE a; intro a hE
    refine WL.vS hS hE (runs_plain rfl) (Gives.p hE rfl) rfl ?_; clear hE a; intro a hE
    refine WL.vS hS hE (runs_plain rfl) (Gives.p hE rfl) rfl ?_; clear hE a; intro a hE
    refine WL.vS hS hE (runs_plain rfl) (Gives.p hE rfl) rfl ?_; clear hE a; intro a hE
    rcases Bool.eq_false_or_eq_true (decide (x0 ≥ x1)) with hg57 | hg57
    · replace hq51 := iteT hg57 hq51
      refine WL.vS hS hE (runs_if hE rfl rfl rfl hg57) (Gives.p hE rfl) rfl ?_; clear hE a; intro a hE
      refine WL.vS hS hE (runs_if hE rfl rfl rfl hg57) (Gives.p hE rfl) rfl ?_; clear hE a; intro a hE
      refine WL.vS hS hE (runs_if hE rfl rfl rfl hg57) (Gives.p hE rfl) rfl ?_; clear hE a; intro a hE
      refine WL.vS hS hE (runs_plain rfl) (Gives.pickT hE rfl hg57 rfl) rfl ?_; clear hE a; intro a hE
      refine WL.vS hS hE (runs_plain rfl) (Gives.p hE rfl) rfl ?_; clear hE a; intro a hE
      refine WL.nil ?_
      subst hK56
      exact ⟨decide (x0 ≤ x2), hq51, hE.pick _ ⟨rfl, trivial⟩, hS⟩
    · replace hq51 := iteF hg57 hq51
      refine WL.no hE (runs_not hE rfl rfl rfl (by rw [hg57]; decide)) rfl ?_; clear hE a; intro a hE
      refine WL.no hE (runs_not hE rfl rfl rfl (by rw [hg57]; decide)) rfl ?_; clear hE a; intro a hE
      refine WL.no hE (runs_not hE rfl rfl rfl (by rw [hg57]; decide)) rfl ?_; clear hE a; intro a hE
      refine WL.vS hS hE (runs_plain rfl) (Gives.pickF hE rfl hg57 rfl) rfl ?_; clear hE a; intro a hE
      refine WL.vS hS hE (runs_plain rfl) (Gives.p hE rfl) rfl ?_; clear hE a; intro a hE
      refine WL.nil ?_
      subst hK56
      exact ⟨false, hq51, hE.pick _ ⟨rfl, trivial⟩, hS⟩
  · clear hE hS a w; rintro a w ⟨q55, rfl, hE, hS⟩
    refine W.ret ?_
    refine finG (fn := Tryd.f25) (rs := [.tmp 6]) (vs := [_]) hE rfl ⟨rfl, trivial⟩ ?_
    subst hr
    exact ⟨rfl, hS⟩
set_option maxHeartbeats 8000000 in
theorem SlicesIndexLint_ok  {w : World} {s : Sg} {R : List HP} {x0 : List Int} {a0 : Option Addr} {c0 : Nat} {x1 : Int} (hS : St w s (R)) (h0 : Sl 1 (RI .i64) s a0 c0 x0) {r : Int} (hr : SlicesIndexLint x0 x1 = r) :
    Calls Tryd.prog 27 [.slice a0 x0.length c0, .int .i64 x1].toArray w (fun e w => e = .returned (.int .i64 r) ∧ St w s (R)) := by
  refine enter Tryd.func27 rfl rfl rfl fun a hE => ?_
  rw [SlicesIndexLint] at hr
  refine W.seq ?_
  refine W.region ?_
  refine WL.vS hS hE (runs_plain rfl) (Gives.p hE rfl) rfl ?_; clear hE a; intro a hE
  refine WL.nil ?_
  refine W.seq ?_
  refine W.seq ?_
  refine W.region ?_
  refine WL.vS hS hE (runs_plain rfl) (Gives.p hE rfl) rfl ?_; clear hE a; intro a hE
  refine WL.vS hS hE (runs_plain rfl) (Gives.len hE rfl sl22) rfl ?_; clear hE a; intro a hE
  refine WL.vS hS hE (runs_plain rfl) (Gives.p hE rfl) rfl ?_; clear hE a; intro a hE
  refine WL.nil ?_
  obtain ⟨q52, hq51, hr⟩ := bndS hr
  refine W.cut (fun a w => (.next ()) = q52 ∧ Rep a 19 [] ∧ St w s (R)) ?_ ?_
  · refine W.block ?_
    refine W.loop (fun m a w => ∃ (rest55 : List Int) (k53 : Nat), rest55.length = m ∧ x0.drop k53 = rest55 ∧ SlicesIndexLint.loop1 x1 rest55 k53 = q52 ∧ Rep a 19 [(0, .slice a0 x0.length c0), (1, .int .i64 x1), (7, .int .i64 ((x0).length : Int)), (8, .int .i64 ((k53 : Nat) : Int))] ∧ St w s (R)) (m := x0.length) ⟨x0, 0, rfl, rfl, hq51, hE.pick _ ⟨rfl, rfl, rfl, rfl, trivial⟩, hS⟩ ?_
    clear hE hS a w hq51; rintro m59 a w ⟨rest55, k53, rfl, hd56, hq51, hE, hS⟩
    refine W.gen fun K62 hK62 => ?_
    rcases rest55 with _ | ⟨x54, rest55⟩
    · have hlt57 := drop_nil hd56
      refine W.seq ?_
      refine W.region ?_
      refine WL.vS hS hE (runs_plain rfl) (Gives.p hE rfl) rfl ?_; clear hE a; intro a hE
      refine WL.nil ?_
      refine W.seq ?_
      refine W.condF hE rfl (decide_eq_false (by omega)) ?_
      subst hK62
      refine W.exit rfl ?_
      exact ⟨hq51, hE.pick _ trivial, hS⟩
    · obtain ⟨hlt57, hx58, hd56⟩ := drop_cons hd56
      rw [SlicesIndexLint.loop1] at hq51
      refine W.seq ?_
      refine W.region ?_
      refine WL.vS hS hE (runs_plain rfl) (Gives.p hE rfl) rfl ?_; clear hE a; intro a hE
      refine WL.nil ?_
      refine W.seq ?_
      refine W.condT hE rfl (decide_eq_true (by omega)) ?_
      refine W.skip ?_
      refine W.seq ?_
      refine W.block ?_
      refine W.seq ?_
      refine W.region ?_
      refine WL.vS hS hE (runs_plain rfl) (Gives.p hE rfl) rfl ?_; clear hE a; intro a hE
      refine WL.vS hS hE (runs_plain rfl) (Gives.p hE rfl) rfl ?_; clear hE a; intro a hE
      refine WL.nil ?_
      refine W.seq ?_
      refine W.region ?_
      refine WL.vS hS hE (runs_plain rfl) (Gives.p hE rfl) rfl ?_; clear hE a; intro a hE
      refine WL.vS hS hE (runs_plain rfl) (Gives.p hE rfl) rfl ?_; clear hE a; intro a hE
      refine WL.vS hS hE (runs_plain rfl) (Gives.p hE rfl) rfl ?_; clear hE a; intro a hE
      obtain ⟨cs63, hl64, hR65, hat66⟩ := h0.at hx58
      subst hR65
      refine WL.vS hS hE (runs_plain rfl) (Gives.idx hE k53 rfl rfl sl22 rfl hlt57 (h0.aok hlt57)) rfl ?_; clear hE a; intro a hE
      refine WL.vS hS hE (runs_plain rfl) (Gives.load1 hE rfl (fun w h => hat66 w _ h) ty3) rfl ?_; clear hE a; intro a hE
      refine WL.vS hS hE (runs_plain rfl) (Gives.p hE rfl) rfl ?_; clear hE a; intro a hE
      refine WL.nil ?_
      refine W.cond hE rfl (fun hc67 => ?_) (fun hc67 => ?_)
      · replace hq51 := iteT hc67 hq51
        refine W.seq ?_
        refine W.region ?_
        refine WL.vS hS hE (runs_plain rfl) (Gives.p hE rfl) rfl ?_; clear hE a; intro a hE
        refine WL.vS hS hE (runs_plain rfl) (Gives.p hE rfl) rfl ?_; clear hE a; intro a hE
        refine WL.nil ?_
        refine W.ret ?_
        subst hK62
        rw [← hq51] at hr
        dsimp only at hr
        refine finG (fn := Tryd.f27) (rs := [.tmp 4]) (vs := [_]) hE rfl ⟨rfl, trivial⟩ ?_
        subst hr
        exact ⟨rfl, hS⟩
      · replace hq51 := iteF hc67 hq51
        refine W.skip ?_
        refine W.region ?_
        refine WL.vS hS hE (runs_plain rfl) (Gives.inc hE rfl (by have := h0.small; omega)) rfl ?_; clear hE a; intro a hE
        refine WL.vS hS hE (runs_plain rfl) (Gives.p hE rfl) rfl ?_; clear hE a; intro a hE
        refine WL.nil ?_
        subst hK62
        exact ⟨rest55.length, Nat.lt_succ_self _, rest55, k53 + 1, rfl, hd56, hq51, hE.pick _ ⟨rfl, rfl, rfl, rfl, trivial⟩, hS⟩
  · clear hE hS a w; rintro a w ⟨rfl, hE, hS⟩
    dsimp only at hr
    refine W.seq ?_
    refine W.region ?_
    refine WL.vS hS hE (runs_plain rfl) (Gives.p hE rfl) rfl ?_; clear hE a; intro a hE
    refine WL.nil ?_
    refine W.ret ?_
    refine finG (fn := Tryd.f27) (rs := [.tmp 4]) (vs := [_]) hE rfl ⟨rfl, trivial⟩ ?_
    subst hr
    exact ⟨rfl, hS⟩
set_option maxHeartbeats 8000000 in
theorem SlicesContainsLint_ok  {w : World} {s : Sg} {R : List HP} {x0 : List Int} {a0 : Option Addr} {c0 : Nat} {x1 : Int} (hS : St w s (R)) (h0 : Sl 1 (RI .i64) s a0 c0 x0) {r : Bool} (hr : SlicesContainsLint x0 x1 = r) :
    Calls Tryd.prog 26 [.slice a0 x0.length c0, .int .i64 x1].toArray w (fun e w => e = .returned (.bool r) ∧ St w s (R)) := by
  refine enter Tryd.func26 rfl rfl rfl fun a hE => ?_
  rw [SlicesContainsLint] at hr
  refine W.seq ?_
  refine W.region ?_
  refine WL.vS hS hE (runs_plain rfl) (Gives.p hE rfl) rfl ?_; clear hE a; intro a hE
  refine WL.nil ?_
  refine W.seq ?_
  refine W.region ?_
  refine WL.vS hS hE (runs_plain rfl) (Gives.p hE rfl) rfl ?_; clear hE a; intro a hE
  refine WL.vS hS hE (runs_plain rfl) (Gives.p hE rfl) rfl ?_; clear hE a; intro a hE
  refine WL.fnq hE (SlicesIndexLint_ok hS h0 rfl (r := SlicesIndexLint x0 x1)) (runs_plain rfl) bd27 rfl rfl rfl ?_
  clear hE hS; rintro e w ⟨rfl, hS⟩; refine ⟨_, rfl, ?_⟩; clear a; intro a hE
  refine WL.vS hS hE (runs_plain rfl) (Gives.p hE rfl) rfl ?_; clear hE a; intro a hE
  refine WL.vS hS hE (runs_plain rfl) (Gives.p hE rfl) rfl ?_; clear hE a; intro a hE
  refine WL.nil ?_
  refine W.ret ?_
  refine finG (fn := Tryd.f26) (rs := [.tmp 4]) (vs := [_]) hE rfl ⟨rfl, trivial⟩ ?_
  subst hr
  exact ⟨rfl, hS⟩
set_option maxHeartbeats 8000000 in
theorem Fishref2DepotFault_ok  {w : World} {s : Sg} {R : List HP} {x0 : FleetDepot} {a0_0 : Option Addr} {c0_0 : Nat} {a0_1 : Option Addr} {c0_1 : Nat} (hS : St w s (R)) (h0_0 : Sl 1 (RI .i64) s a0_0 c0_0 x0.Room) (h0_1 : Sl 1 (RL 1 (RI .i64)) s a0_1 c0_1 x0.Tracks) {r : Int} (hr : Fishref2DepotFault x0 = some r) :
    Calls Tryd.prog 17 [.agg [.slice a0_0 x0.Room.length c0_0, .slice a0_1 x0.Tracks.length c0_1].toArray].toArray w (fun e w => e = .returned (.int .i64 r) ∧ St w s (R)) := by
  refine enter Tryd.func17 rfl rfl rfl fun a hE => ?_
  rw [Fishref2DepotFault] at hr
  refine W.seq ?_
  refine W.region ?_
  refine WL.box hE hS (runs_plain rfl) rfl rfl rfl ?_; clear hE hS a w; intro b51 a w hE hS
  refine WL.vS hS hE (runs_plain rfl) (Gives.p hE rfl) rfl ?_; clear hE a; intro a hE
  refine WL.nil ?_
  refine W.seq ?_
  refine W.seq ?_
  refine W.region ?_
  refine WL.vS hS hE (runs_plain rfl) (Gives.fld hE rfl fl25_0) rfl ?_; clear hE a; intro a hE
  refine WL.vS hS hE (runs_plain rfl) (Gives.loadB hE 0 rfl rfl rfl ty22) rfl ?_; clear hE a; intro a hE
  refine WL.vS hS hE (runs_plain rfl) (Gives.len hE rfl sl22) rfl ?_; clear hE a; intro a hE
  refine WL.fnq hE (Fishref2within_ok hS  rfl (r := Fishref2within ((x0.Room).length : Int) 1 4)) (runs_plain rfl) bd25 rfl rfl rfl ?_
  clear hE hS; rintro e w ⟨rfl, hS⟩; refine ⟨_, rfl, ?_⟩; clear a; intro a hE
  refine WL.vS hS hE (runs_plain rfl) (Gives.p hE rfl) rfl ?_; clear hE a; intro a hE
  refine WL.nil ?_
  refine W.cond hE rfl (fun hc52 => ?_) (fun hc52 => ?_)
  · replace hr := iteT hc52 hr
    refine W.seq ?_
    refine W.region ?_
    refine WL.vS hS hE (runs_plain rfl) (Gives.p hE rfl) rfl ?_; clear hE a; intro a hE
    refine WL.nil ?_
    refine W.ret ?_
    refine finG (fn := Tryd.f17) (rs := [.tmp 2]) (vs := [_]) hE rfl ⟨rfl, trivial⟩ ?_
    obtain rfl := Option.some.inj hr
    replace hS := hS.tail
    exact ⟨rfl, hS⟩
  · replace hr := iteF hc52 hr
    refine W.skip ?_
    refine W.seq ?_
    refine W.seq ?_
    refine W.region ?_
    refine WL.vS hS hE (runs_plain rfl) (Gives.fld hE rfl fl25_1) rfl ?_; clear hE a; intro a hE
    refine WL.vS hS hE (runs_plain rfl) (Gives.loadB hE 0 rfl rfl rfl ty23) rfl ?_; clear hE a; intro a hE
    refine WL.vS hS hE (runs_plain rfl) (Gives.len hE rfl sl23) rfl ?_; clear hE a; intro a hE
    refine WL.vS hS hE (runs_plain rfl) (Gives.fld hE rfl fl25_0) rfl ?_; clear hE a; intro a hE
    refine WL.vS hS hE (runs_plain rfl) (Gives.loadB hE 0 rfl rfl rfl ty22) rfl ?_; clear hE a; intro a hE
    refine WL.vS hS hE (runs_plain rfl) (Gives.len hE rfl sl22) rfl ?_; clear hE a; intro a hE
    refine WL.vS hS hE (runs_plain rfl) (Gives.p hE rfl) rfl ?_; clear hE a; intro a hE
    refine WL.nil ?_
    refine W.cond hE rfl (fun hc53 => ?_) (fun hc53 => ?_)
    · replace hr := iteT hc53 hr
      refine W.seq ?_
      refine W.region ?_
      refine WL.vS hS hE (runs_plain rfl) (Gives.p hE rfl) rfl ?_; clear hE a; intro a hE
      refine WL.nil ?_
      refine W.ret ?_
      refine finG (fn := Tryd.f17) (rs := [.tmp 2]) (vs := [_]) hE rfl ⟨rfl, trivial⟩ ?_
      obtain rfl := Option.some.inj hr
      replace hS := hS.tail
      exact ⟨rfl, hS⟩
    · replace hr := iteF hc53 hr
      refine W.skip ?_
      refine W.seq ?_
      refine W.region ?_
      replace hS := hS.vecNil 3 1
      refine WL.vS hS hE (runs_plain rfl) (Gives.p hE rfl) rfl ?_; clear hE a; intro a hE
      refine WL.nil ?_
      refine W.seq ?_
      refine W.seq ?_
      refine W.region ?_
      refine WL.vS hS hE (runs_plain rfl) (Gives.fld hE rfl fl25_0) rfl ?_; clear hE a; intro a hE
      refine WL.vS hS hE (runs_plain rfl) (Gives.loadB hE 1 rfl rfl rfl ty22) rfl ?_; clear hE a; intro a hE
      refine WL.vS hS hE (runs_plain rfl) (Gives.len hE rfl sl22) rfl ?_; clear hE a; intro a hE
      refine WL.vS hS hE (runs_plain rfl) (Gives.p hE rfl) rfl ?_; clear hE a; intro a hE
      refine WL.nil ?_
      obtain ⟨q56, hq55, hr⟩ := bindS hr
      refine W.cut (fun a w => ∃ (q66 : List Int), ∃ (a67 : Option Addr), ∃ (c68 : Nat), ∃ (n70 : Nat), ∃ (cs71 : List Value), (.next q66) = q56 ∧ Ev 1 (RI .i64) s cs71 q66 ∧ q66.length = n70 ∧ Rep a 61 [] ∧ St w s (vecC 3 1 a67 c68 n70 cs71 :: pt b51 (.cells #[.slice a0_0 x0.Room.length c0_0, .slice a0_1 x0.Tracks.length c0_1] 25 (0, 0)) :: R)) ?_ ?_
      · refine W.block ?_
        refine W.loop (fun m a w => ∃ (rest59 : List Int) (k57 : Nat), ∃ (q66 : List Int), ∃ (a67 : Option Addr), ∃ (c68 : Nat), ∃ (n70 : Nat), ∃ (cs71 : List Value), rest59.length = m ∧ x0.Room.drop k57 = rest59 ∧ Fishref2DepotFault.loop1 x0 rest59 k57 q66 = some q56 ∧ Ev 1 (RI .i64) s cs71 q66 ∧ q66.length = n70 ∧ Rep a 61 [(1, .pointer (some ⟨b51, 0, none⟩)), (3, .slice a67 n70 c68), (21, .slice a0_0 x0.Room.length c0_0), (22, .int .i64 ((x0.Room).length : Int)), (23, .int .i64 ((k57 : Nat) : Int))] ∧ St w s (vecC 3 1 a67 c68 n70 cs71 :: pt b51 (.cells #[.slice a0_0 x0.Room.length c0_0, .slice a0_1 x0.Tracks.length c0_1] 25 (0, 0)) :: R)) (m := x0.Room.length) ⟨x0.Room, 0, [], none, 0, 0, [], rfl, rfl, hq55, (Ev.nil), (rfl), hE.pick _ ⟨rfl, rfl, rfl, rfl, rfl, trivial⟩, hS⟩ ?_
        clear hE hS a w hq55; rintro m63 a w ⟨rest59, k57, q66, a67, c68, n70, cs71, rfl, hd60, hq55, h69, rfl, hE, hS⟩
        refine W.gen fun K73 hK73 => ?_
        rcases rest59 with _ | ⟨x58, rest59⟩
        · have hlt61 := drop_nil hd60
          refine W.seq ?_
          refine W.region ?_
          refine WL.vS hS hE (runs_plain rfl) (Gives.p hE rfl) rfl ?_; clear hE a; intro a hE
          refine WL.nil ?_
          refine W.seq ?_
          refine W.condF hE rfl (decide_eq_false (by omega)) ?_
          subst hK73
          refine W.exit rfl ?_
          exact ⟨q66, a67, c68, q66.length, cs71, Option.some.inj hq55, h69, rfl, hE.pick _ trivial, hS⟩
        · obtain ⟨hlt61, hx62, hd60⟩ := drop_cons hd60
          rw [Fishref2DepotFault.loop1] at hq55
          refine W.seq ?_
          refine W.region ?_
          refine WL.vS hS hE (runs_plain rfl) (Gives.p hE rfl) rfl ?_; clear hE a; intro a hE
          refine WL.nil ?_
          refine W.seq ?_
          refine W.condT hE rfl (decide_eq_true (by omega)) ?_
          refine W.skip ?_
          refine W.seq ?_
          refine W.block ?_
          refine W.seq ?_
          refine W.region ?_
          refine WL.vS hS hE (runs_plain rfl) (Gives.p hE rfl) rfl ?_; clear hE a; intro a hE
          obtain ⟨cs74, hl75, hR76, hat77⟩ := h0_0.at hx62
          subst hR76
          refine WL.vS hS hE (runs_plain rfl) (Gives.idx hE k57 rfl rfl sl22 rfl hlt61 (h0_0.aok hlt61)) rfl ?_; clear hE a; intro a hE
          refine WL.vS hS hE (runs_plain rfl) (Gives.load1 hE rfl (fun w h => hat77 w _ h) ty3) rfl ?_; clear hE a; intro a hE
          refine WL.vS hS hE (runs_plain rfl) (Gives.p hE rfl) rfl ?_; clear hE a; intro a hE
          refine WL.vS hS hE (runs_plain rfl) (Gives.p hE rfl) rfl ?_; clear hE a; intro a hE
          refine WL.nil ?_
          refine W.seq ?_
          refine W.seq ?_
          refine W.region ?_
          refine WL.vS hS hE (runs_plain rfl) (Gives.p hE rfl) rfl ?_; clear hE a; intro a hE
          refine WL.fnq hE (Fishref2within_ok hS  rfl (r := Fishref2within x58 1 4)) (runs_plain rfl) bd25 rfl rfl rfl ?_
          clear hE hS; rintro e w ⟨rfl, hS⟩; refine ⟨_, rfl, ?_⟩; clear a; intro a hE
          refine WL.vS hS hE (runs_plain rfl) (Gives.p hE rfl) rfl ?_; clear hE a; intro a hE
          refine WL.nil ?_
          refine W.cond hE rfl (fun hc78 => ?_) (fun hc78 => ?_)
          · replace hq55 := iteT hc78 hq55
            refine W.seq ?_
            refine W.region ?_
            refine WL.vS hS hE (runs_plain rfl) (Gives.p hE rfl) rfl ?_; clear hE a; intro a hE
            refine WL.nil ?_
            refine W.ret ?_
            subst hK73
            rw [← Option.some.inj hq55] at hr
            dsimp only at hr
            refine finG (fn := Tryd.f17) (rs := [.tmp 2]) (vs := [_]) hE rfl ⟨rfl, trivial⟩ ?_
            obtain rfl := Option.some.inj hr
            replace hS := hS.tail
            replace hS := hS.tail
            exact ⟨rfl, hS⟩
          · replace hq55 := iteF hc78 hq55
            refine W.skip ?_
            refine W.seq ?_
            refine W.seq ?_
            refine W.region ?_
            refine WL.vS hS hE (runs_plain rfl) (Gives.fld hE rfl fl25_1) rfl ?_; clear hE a; intro a hE
            refine WL.vS hS hE (runs_plain rfl) (Gives.loadB hE 1 rfl rfl rfl ty23) rfl ?_; clear hE a; intro a hE
            refine WL.vS hS hE (runs_plain rfl) (Gives.p hE rfl) rfl ?_; clear hE a; intro a hE
            obtain ⟨x79, hx80, hq55⟩ := bindS hq55
            obtain ⟨hi81, hlt82, hy83⟩ := gx_some hx80
            obtain ⟨cs84, hl85, hR86, hat87⟩ := h0_1.at hy83
            obtain ⟨a88, c89, rfl, h90⟩ := hR86
            refine WL.vS hS hE (runs_plain rfl) (Gives.idx hE (((k57 : Nat) : Int)).toNat rfl rfl sl23 hi81 hlt82 (h0_1.aok hlt82)) rfl ?_; clear hE a; intro a hE
            refine WL.vS hS hE (runs_plain rfl) (Gives.load1 hE rfl (fun w h => hat87 w _ h) ty22) rfl ?_; clear hE a; intro a hE
            refine WL.vS hS hE (runs_plain rfl) (Gives.len hE rfl sl22) rfl ?_; clear hE a; intro a hE
            refine WL.vS hS hE (runs_plain rfl) (Gives.p hE rfl) rfl ?_; clear hE a; intro a hE
            refine WL.vS hS hE (runs_plain rfl) (Gives.p hE rfl) rfl ?_; clear hE a; intro a hE
            refine WL.nil ?_
            refine W.cond hE rfl (fun hc91 => ?_) (fun hc91 => ?_)
            · replace hq55 := iteT hc91 hq55
              refine W.seq ?_
              refine W.region ?_
              refine WL.vS hS hE (runs_plain rfl) (Gives.p hE rfl) rfl ?_; clear hE a; intro a hE
              refine WL.nil ?_
              refine W.ret ?_
              subst hK73
              rw [← Option.some.inj hq55] at hr
              dsimp only at hr
              refine finG (fn := Tryd.f17) (rs := [.tmp 2]) (vs := [_]) hE rfl ⟨rfl, trivial⟩ ?_
              obtain rfl := Option.some.inj hr
              replace hS := hS.tail
              replace hS := hS.tail
              exact ⟨rfl, hS⟩
            · replace hq55 := iteF hc91 hq55
              refine W.skip ?_
              refine W.seq ?_
              refine W.region ?_
              refine WL.vS hS hE (runs_plain rfl) (Gives.fld hE rfl fl25_1) rfl ?_; clear hE a; intro a hE
              refine WL.vS hS hE (runs_plain rfl) (Gives.loadB hE 1 rfl rfl rfl ty23) rfl ?_; clear hE a; intro a hE
              refine WL.vS hS hE (runs_plain rfl) (Gives.p hE rfl) rfl ?_; clear hE a; intro a hE
              obtain ⟨x92, hx93, hq55⟩ := bindS hq55
              obtain ⟨hi94, hlt95, hy96⟩ := gx_some hx93
              obtain ⟨cs97, hl98, hR99, hat100⟩ := h0_1.at hy96
              obtain ⟨a101, c102, rfl, h103⟩ := hR99
              refine WL.vS hS hE (runs_plain rfl) (Gives.idx hE (((k57 : Nat) : Int)).toNat rfl rfl sl23 hi94 hlt95 (h0_1.aok hlt95)) rfl ?_; clear hE a; intro a hE
              refine WL.vS hS hE (runs_plain rfl) (Gives.load1 hE rfl (fun w h => hat100 w _ h) ty22) rfl ?_; clear hE a; intro a hE
              refine WL.vS hS hE (runs_plain rfl) (Gives.len hE rfl sl22) rfl ?_; clear hE a; intro a hE
              refine WL.vS hS hE (runs_plain rfl) (Gives.p hE rfl) rfl ?_; clear hE a; intro a hE
              refine WL.nil ?_
              obtain ⟨q105, hq104, hq55⟩ := bindS hq55
              refine W.cut (fun a w => ∃ (q115 : List Int), ∃ (a116 : Option Addr), ∃ (c117 : Nat), ∃ (n119 : Nat), ∃ (cs120 : List Value), (.next q115) = q105 ∧ Ev 1 (RI .i64) s cs120 q115 ∧ q115.length = n119 ∧ Rep a 61 [(1, .pointer (some ⟨b51, 0, none⟩)), (3, .slice a116 n119 c117), (21, .slice a0_0 x0.Room.length c0_0), (22, .int .i64 ((x0.Room).length : Int)), (23, .int .i64 ((k57 : Nat) : Int))] ∧ St w s (vecC 3 1 a116 c117 n119 cs120 :: pt b51 (.cells #[.slice a0_0 x0.Room.length c0_0, .slice a0_1 x0.Tracks.length c0_1] 25 (0, 0)) :: R)) ?_ ?_
              · refine W.block ?_
                refine W.loop (fun m a w => ∃ (rest108 : List Int) (k106 : Nat), ∃ (q115 : List Int), ∃ (a116 : Option Addr), ∃ (c117 : Nat), ∃ (n119 : Nat), ∃ (cs120 : List Value), rest108.length = m ∧ x92.drop k106 = rest108 ∧ Fishref2DepotFault.loop2 rest108 q115 = some q105 ∧ Ev 1 (RI .i64) s cs120 q115 ∧ q115.length = n119 ∧ Rep a 61 [(1, .pointer (some ⟨b51, 0, none⟩)), (3, .slice a116 n119 c117), (21, .slice a0_0 x0.Room.length c0_0), (22, .int .i64 ((x0.Room).length : Int)), (23, .int .i64 ((k57 : Nat) : Int)), (43, .slice a101 x92.length c102), (44, .int .i64 ((x92).length : Int)), (45, .int .i64 ((k106 : Nat) : Int))] ∧ St w s (vecC 3 1 a116 c117 n119 cs120 :: pt b51 (.cells #[.slice a0_0 x0.Room.length c0_0, .slice a0_1 x0.Tracks.length c0_1] 25 (0, 0)) :: R)) (m := x92.length) ⟨x92, 0, q66, a67, c68, q66.length, cs71, rfl, rfl, hq104, h69, rfl, hE.pick _ ⟨rfl, rfl, rfl, rfl, rfl, rfl, rfl, rfl, trivial⟩, hS⟩ ?_
                clear hE hS a w hq104; rintro m112 a w ⟨rest108, k106, q115, a116, c117, n119, cs120, rfl, hd109, hq104, h118, rfl, hE, hS⟩
                refine W.gen fun K122 hK122 => ?_
                rcases rest108 with _ | ⟨x107, rest108⟩
                · have hlt110 := drop_nil hd109
                  refine W.seq ?_
                  refine W.region ?_
                  refine WL.vS hS hE (runs_plain rfl) (Gives.p hE rfl) rfl ?_; clear hE a; intro a hE
                  refine WL.nil ?_
                  refine W.seq ?_
                  refine W.condF hE rfl (decide_eq_false (by omega)) ?_
                  subst hK122
                  refine W.exit rfl ?_
                  exact ⟨q115, a116, c117, q115.length, cs120, Option.some.inj hq104, h118, rfl, hE.pick _ ⟨rfl, rfl, rfl, rfl, rfl, trivial⟩, hS⟩
                · obtain ⟨hlt110, hx111, hd109⟩ := drop_cons hd109
                  rw [Fishref2DepotFault.loop2] at hq104
                  refine W.seq ?_
                  refine W.region ?_
                  refine WL.vS hS hE (runs_plain rfl) (Gives.p hE rfl) rfl ?_; clear hE a; intro a hE
                  refine WL.nil ?_
                  refine W.seq ?_
                  refine W.condT hE rfl (decide_eq_true (by omega)) ?_
                  refine W.skip ?_
                  refine W.seq ?_
                  refine W.block ?_
                  refine W.seq ?_
                  refine W.region ?_
                  obtain ⟨cs123, hl124, hR125, hat126⟩ := h103.at hx111
                  subst hR125
                  refine WL.vS hS hE (runs_plain rfl) (Gives.idx hE k106 rfl rfl sl22 rfl hlt110 (h103.aok hlt110)) rfl ?_; clear hE a; intro a hE
                  refine WL.vS hS hE (runs_plain rfl) (Gives.load1 hE rfl (fun w h => hat126 w _ h) ty3) rfl ?_; clear hE a; intro a hE
                  refine WL.vS hS hE (runs_plain rfl) (Gives.p hE rfl) rfl ?_; clear hE a; intro a hE
                  refine WL.nil ?_
                  refine W.seq ?_
                  refine W.seq ?_
                  refine W.region ?_
                  refine WL.vS hS hE (runs_plain rfl) (Gives.p hE rfl) rfl ?_; clear hE a; intro a hE
                  refine WL.fnq hE (Fishref2within_ok hS  rfl (r := Fishref2within x107 0 99)) (runs_plain rfl) bd25 rfl rfl rfl ?_
                  clear hE hS; rintro e w ⟨rfl, hS⟩; refine ⟨_, rfl, ?_⟩; clear a; intro a hE
                  refine WL.vS hS hE (runs_plain rfl) (Gives.p hE rfl) rfl ?_; clear hE a; intro a hE
                  refine WL.nil ?_
                  refine W.cond hE rfl (fun hc127 => ?_) (fun hc127 => ?_)
                  · replace hq104 := iteT hc127 hq104
                    refine W.seq ?_
                    refine W.region ?_
                    refine WL.vS hS hE (runs_plain rfl) (Gives.p hE rfl) rfl ?_; clear hE a; intro a hE
                    refine WL.nil ?_
                    refine W.ret ?_
                    subst hK122
                    subst hK73
                    rw [← Option.some.inj hq104] at hq55
                    dsimp only at hq55
                    rw [← Option.some.inj hq55] at hr
                    dsimp only at hr
                    refine finG (fn := Tryd.f17) (rs := [.tmp 2]) (vs := [_]) hE rfl ⟨rfl, trivial⟩ ?_
                    obtain rfl := Option.some.inj hr
                    replace hS := hS.tail
                    replace hS := hS.tail
                    exact ⟨rfl, hS⟩
                  · replace hq104 := iteF hc127 hq104
                    refine W.skip ?_
                    refine W.seq ?_
                    refine W.seq ?_
                    refine W.region ?_
                    refine WL.vS hS hE (runs_plain rfl) (Gives.p hE rfl) rfl ?_; clear hE a; intro a hE
                    refine WL.vS hS hE (runs_plain rfl) (Gives.p hE rfl) rfl ?_; clear hE a; intro a hE
                    have hF := hS.lendV RI.mono 0 rfl h118 rfl; clear hS; obtain ⟨t128, hle129, hS, hs130, bk131⟩ := hF
                    refine WL.fnq hE (SlicesContainsLint_ok hS hs130 rfl (r := SlicesContainsLint q115 x107)) (runs_plain rfl) bd26 rfl rfl rfl ?_
                    clear hE hS; rintro e w ⟨rfl, hS⟩; refine ⟨_, rfl, ?_⟩; clear a; intro a hE
                    replace hS := bk131 _ _ hS
                    refine WL.nil ?_
                    refine W.cond hE rfl (fun hc132 => ?_) (fun hc132 => ?_)
                    · replace hq104 := iteT hc132 hq104
                      refine W.seq ?_
                      refine W.region ?_
                      refine WL.vS hS hE (runs_plain rfl) (Gives.p hE rfl) rfl ?_; clear hE a; intro a hE
                      refine WL.nil ?_
                      refine W.ret ?_
                      subst hK122
                      subst hK73
                      rw [← Option.some.inj hq104] at hq55
                      dsimp only at hq55
                      rw [← Option.some.inj hq55] at hr
                      dsimp only at hr
                      refine finG (fn := Tryd.f17) (rs := [.tmp 2]) (vs := [_]) hE rfl ⟨rfl, trivial⟩ ?_
                      obtain rfl := Option.some.inj hr
                      replace hS := hS.tail
                      replace hS := hS.tail
                      exact ⟨rfl, hS⟩
                    · replace hq104 := iteF hc132 hq104
                      refine W.skip ?_
                      refine W.region ?_
                      refine WL.vS hS hE (runs_plain rfl) (Gives.p hE rfl) rfl ?_; clear hE a; intro a hE
                      refine WL.vS hS hE (runs_plain rfl) (Gives.p hE rfl) rfl ?_; clear hE a; intro a hE
                      refine WL.lit hE hS (e := 3) (es := 1) (vs := [(0, .int .i64 x107)]) (cs := [.int .i64 x107]) (runs_plain rfl) rfl (by kernel_rfl) rfl ?_; clear hE hS a w; intro b133 a w hE hS
                      obtain ⟨x134, hx135, hq104⟩ := bindS hq104
                      refine WL.appD hE hS 0 (m := 1) (runs_plain rfl) rfl rfl rfl ap22 rfl h118 rfl (xs := [x107]) (Ev.cons (c1 := [.int .i64 x107]) rfl rfl (Ev.nil)) rfl rfl hx135 rfl ?_; clear hE hS a w; intro a136 c137 cs138 a w h139 hE hS
                      refine WL.vS hS hE (runs_plain rfl) (Gives.p hE rfl) rfl ?_; clear hE a; intro a hE
                      refine WL.nil ?_
                      refine W.region ?_
                      refine WL.vS hS hE (runs_plain rfl) (Gives.inc hE rfl (by have := h103.small; omega)) rfl ?_; clear hE a; intro a hE
                      refine WL.vS hS hE (runs_plain rfl) (Gives.p hE rfl) rfl ?_; clear hE a; intro a hE
                      refine WL.nil ?_
                      subst hK122
                      exact ⟨rest108.length, Nat.lt_succ_self _, rest108, k106 + 1, x134, a136, c137, x134.length, cs138, rfl, hd109, hq104, h139, (rfl), hE.pick _ ⟨rfl, rfl, rfl, rfl, rfl, rfl, rfl, rfl, trivial⟩, hS⟩
              · clear hE hS a w; rintro a w ⟨q115, a116, c117, n119, cs120, rfl, h118, rfl, hE, hS⟩
                dsimp only at hq55
                refine W.region ?_
                refine WL.vS hS hE (runs_plain rfl) (Gives.inc hE rfl (by have := h0_0.small; omega)) rfl ?_; clear hE a; intro a hE
                refine WL.vS hS hE (runs_plain rfl) (Gives.p hE rfl) rfl ?_; clear hE a; intro a hE
                refine WL.nil ?_
                subst hK73
                exact ⟨rest59.length, Nat.lt_succ_self _, rest59, k57 + 1, q115, a116, c117, q115.length, cs120, rfl, hd60, hq55, h118, rfl, hE.pick _ ⟨rfl, rfl, rfl, rfl, rfl, trivial⟩, hS⟩
      · clear hE hS a w; rintro a w ⟨q66, a67, c68, n70, cs71, rfl, h69, rfl, hE, hS⟩
        dsimp only at hr
        refine W.seq ?_
        refine W.region ?_
        refine WL.vS hS hE (runs_plain rfl) (Gives.p hE rfl) rfl ?_; clear hE a; intro a hE
        refine WL.nil ?_
        refine W.ret ?_
        refine finG (fn := Tryd.f17) (rs := [.tmp 2]) (vs := [_]) hE rfl ⟨rfl, trivial⟩ ?_
        obtain rfl := Option.some.inj hr
        replace hS := hS.tail
        replace hS := hS.tail
        exact ⟨rfl, hS⟩
end Go.Proofs.YtfhkpdnohcidgaaDoor
