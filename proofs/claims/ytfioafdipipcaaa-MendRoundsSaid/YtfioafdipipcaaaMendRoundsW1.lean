/- The walks of the functions that MendRounds reaches: each call comes to what its mirror says. The conditions are those of each contract. -/
import Derived.Test.YtfioafdipipcaaaProg
import Derived.Test.YtfioafdipipcaaaMendRoundsM
import Derived.Test.YtfioafdipipcaaaFpMore
namespace Go.Proofs.Ytfioafdipipcaaa
open Go Go.Fp
theorem ap22 : apOk Try.prog 22 3 1 = true := by kernel_rfl
theorem ap40 : apOk Try.prog 40 22 1 = true := by kernel_rfl
theorem ap82 : apOk Try.prog 82 4 1 = true := by kernel_rfl
theorem bd12 : bodied Try.prog 12 = true := by kernel_rfl
theorem bd13 : bodied Try.prog 13 = true := by kernel_rfl
theorem bd14 : bodied Try.prog 14 = true := by kernel_rfl
theorem bd15 : bodied Try.prog 15 = true := by kernel_rfl
theorem bd16 : bodied Try.prog 16 = true := by kernel_rfl
theorem bd17 : bodied Try.prog 17 = true := by kernel_rfl
theorem bd18 : bodied Try.prog 18 = true := by kernel_rfl
theorem bd21 : bodied Try.prog 21 = true := by kernel_rfl
theorem bd28 : bodied Try.prog 28 = true := by kernel_rfl
theorem bd34 : bodied Try.prog 34 = true := by kernel_rfl
theorem bd49 : bodied Try.prog 49 = true := by kernel_rfl
theorem bd50 : bodied Try.prog 50 = true := by kernel_rfl
theorem bd51 : bodied Try.prog 51 = true := by kernel_rfl
theorem bd52 : bodied Try.prog 52 = true := by kernel_rfl
theorem bd53 : bodied Try.prog 53 = true := by kernel_rfl
theorem bd54 : bodied Try.prog 54 = true := by kernel_rfl
theorem bd55 : bodied Try.prog 55 = true := by kernel_rfl
theorem bd56 : bodied Try.prog 56 = true := by kernel_rfl
theorem bd57 : bodied Try.prog 57 = true := by kernel_rfl
theorem bd58 : bodied Try.prog 58 = true := by kernel_rfl
theorem bd59 : bodied Try.prog 59 = true := by kernel_rfl
theorem bd61 : bodied Try.prog 61 = true := by kernel_rfl
theorem bd67 : bodied Try.prog 67 = true := by kernel_rfl
theorem bd83 : bodied Try.prog 83 = true := by kernel_rfl
theorem bd84 : bodied Try.prog 84 = true := by kernel_rfl
theorem bd85 : bodied Try.prog 85 = true := by kernel_rfl
theorem bd86 : bodied Try.prog 86 = true := by kernel_rfl
theorem bd93 : bodied Try.prog 93 = true := by kernel_rfl
theorem bl4 : isBl Try.prog 4 = true := by kernel_rfl
theorem cp22 : cpOk Try.prog 22 3 1 = true := by kernel_rfl
theorem fl25_0 : fldOk Try.prog 25 0 0 = true := by kernel_rfl
theorem fl25_1 : fldOk Try.prog 25 1 1 = true := by kernel_rfl
theorem fl25_2 : fldOk Try.prog 25 2 2 = true := by kernel_rfl
theorem fl36_0 : fldOk Try.prog 36 0 0 = true := by kernel_rfl
theorem fl36_1 : fldOk Try.prog 36 1 1 = true := by kernel_rfl
theorem fl36_2 : fldOk Try.prog 36 2 2 = true := by kernel_rfl
theorem fl36_3 : fldOk Try.prog 36 3 3 = true := by kernel_rfl
theorem hu123 : (Try.prog.underlying 123).isSome = true := by kernel_rfl
theorem hu3 : (Try.prog.underlying 3).isSome = true := by kernel_rfl
theorem isl22 : isSl Try.prog 22 = true := by kernel_rfl
theorem mixed : Try.prog.follows .mixedOrders = true := by kernel_rfl
theorem sl22 : slOk Try.prog 22 3 1 = true := by kernel_rfl
theorem sl23 : slOk Try.prog 23 36 4 = true := by kernel_rfl
theorem sl40 : slOk Try.prog 40 22 1 = true := by kernel_rfl
theorem sl82 : slOk Try.prog 82 4 1 = true := by kernel_rfl
theorem ty121 : tyOk Try.prog 121 false 1 = true := by kernel_rfl
theorem ty22 : tyOk Try.prog 22 false 1 = true := by kernel_rfl
theorem ty23 : tyOk Try.prog 23 false 1 = true := by kernel_rfl
theorem ty25 : tyOk Try.prog 25 true 3 = true := by kernel_rfl
theorem ty3 : tyOk Try.prog 3 false 1 = true := by kernel_rfl
theorem ty36 : tyOk Try.prog 36 true 4 = true := by kernel_rfl
theorem ty4 : tyOk Try.prog 4 false 1 = true := by kernel_rfl
theorem ui123 : Try.prog.underlying 123 = some (.int .u64) := by kernel_rfl
theorem ui3 : Try.prog.underlying 3 = some (.int .i64) := by kernel_rfl
theorem zr121 : (Try.prog.info? 121).bind (fun i => i.zero.map fun z => z.cells.toList) = some [.nilFunc] := by kernel_rfl
theorem zr22 : (Try.prog.info? 22).bind (fun i => i.zero.map fun z => z.cells.toList) = some [.slice none 0 0] := by kernel_rfl
theorem zr25 : (Try.prog.info? 25).bind (fun i => i.zero.map fun z => z.cells.toList) = some [.int .i64 0, .slice none 0 0, .slice none 0 0] := by kernel_rfl
theorem zr3 : (Try.prog.info? 3).bind (fun i => i.zero.map fun z => z.cells.toList) = some [.int .i64 0] := by kernel_rfl
theorem zr36 : (Try.prog.info? 36).bind (fun i => i.zero.map fun z => z.cells.toList) = some [.int .i64 0, .int .i64 0, .int .i64 0, .int .i64 0] := by kernel_rfl
theorem zr4 : (Try.prog.info? 4).bind (fun i => i.zero.map fun z => z.cells.toList) = some [.bool false] := by kernel_rfl
set_option maxHeartbeats 8000000 in
theorem Mendwithin_ok  {w : World} {s : Sg} {R : List HP} {x0 : Int} {x1 : Int} {x2 : Int} (hS : St w s (R))  {r : Bool} (hr : Mendwithin x0 x1 x2 = r) :
    Calls Try.prog 54 [.int .i64 x0, .int .i64 x1, .int .i64 x2].toArray w (fun e w => e = .returned (.bool r) ∧ St w s (R)) := by
  refine enter Try.func54 rfl rfl rfl fun a hE => ?_
  rw [Mendwithin] at hr
  refine W.seq ?_
  refine W.region ?_
  refine WL.vS hS hE (runs_plain rfl) (Gives.p hE rfl) rfl ?_; clear hE a; intro a hE
  refine WL.nil ?_
  refine W.seq ?_
  obtain ⟨q52, hq51, hr⟩ := bndS hr
  refine W.cut (fun a w => ∃ (q55 : Bool), q55 = q52 ∧ Rep a 15 [(6, .bool q55)] ∧ St w s (R)) ?_ ?_
  · refine W.gen fun K56 hK56 => ?_
    refine W.region ?_
    refine WL.vS hS hE (runs_plain rfl) (Gives.p hE rfl) rfl ?_; clear hE a; intro a hE
    refine WL.vS hS hE (runs_plain rfl) (Gives.p hE rfl) rfl ?_; clear hE a; intro a hE
    refine WL.vS hS hE (runs_plain rfl) (Gives.p hE rfl) rfl ?_; clear hE a; intro a hE
    refine WL.vS hS hE (runs_plain rfl) (Gives.p hE rfl) rfl ?_; clear hE a; intro a hE
    rcases Bool.eq_false_or_eq_true (decide (x0 ≥ x1)) with hg57 | hg57
    · replace hq51 := iteT hg57 hq51
      refine WL.vS hS hE (runs_if hE rfl rfl rfl hg57) (Gives.p hE rfl) rfl ?_; clear hE a; intro a hE
      refine WL.vS hS hE (runs_if hE rfl rfl rfl hg57) (Gives.p hE rfl) rfl ?_; clear hE a; intro a hE
      refine WL.vS hS hE (runs_if hE rfl rfl rfl hg57) (Gives.p hE rfl) rfl ?_; clear hE a; intro a hE
      refine WL.vS hS hE (runs_plain rfl) (Gives.pickT hE rfl hg57 rfl) rfl ?_; clear hE a; intro a hE
      refine WL.vS hS hE (runs_plain rfl) (Gives.p hE rfl) rfl ?_; clear hE a; intro a hE
      refine WL.nil ?_
      subst hK56
      exact ⟨decide (x0 ≤ x2), hq51, hE.pick _ ⟨rfl, trivial⟩, hS⟩
    · replace hq51 := iteF hg57 hq51
      refine WL.no hE (runs_not hE rfl rfl rfl (by rw [hg57]; decide)) rfl ?_; clear hE a; intro a hE
      refine WL.no hE (runs_not hE rfl rfl rfl (by rw [hg57]; decide)) rfl ?_; clear hE a; intro a hE
      refine WL.no hE (runs_not hE rfl rfl rfl (by rw [hg57]; decide)) rfl ?_; clear hE a; intro a hE
      refine WL.vS hS hE (runs_plain rfl) (Gives.pickF hE rfl hg57 rfl) rfl ?_; clear hE a; intro a hE
      refine WL.vS hS hE (runs_plain rfl) (Gives.p hE rfl) rfl ?_; clear hE a; intro a hE
      refine WL.nil ?_
      subst hK56
      exact ⟨false, hq51, hE.pick _ ⟨rfl, trivial⟩, hS⟩
  · clear hE hS a w; rintro a w ⟨q55, rfl, hE, hS⟩
    refine W.ret ?_
    refine finG (fn := Try.f54) (rs := [.tmp 6]) (vs := [_]) hE rfl ⟨rfl, trivial⟩ ?_
    subst hr
    exact ⟨rfl, hS⟩
set_option maxHeartbeats 8000000 in
theorem MendRoundslack_ok  {w : World} {s : Sg} {R : List HP} {x0 : MendRound} {a0_0 : Option Addr} {c0_0 : Nat} {a0_1 : Option Addr} {c0_1 : Nat} {x1 : MendLink} (hS : St w s (R)) (h0_0 : Sl 1 (RI .i64) s a0_0 c0_0 x0.Plan) (_h0_1 : Sl 4 RMendLink s a0_1 c0_1 x0.Links) {r : Int} (hr : MendRoundslack x0 x1 = some r) :
    Calls Try.prog 55 [.agg [.int .i64 x0.Period, .slice a0_0 x0.Plan.length c0_0, .slice a0_1 x0.Links.length c0_1].toArray, .agg (MendLink.cells x1).toArray].toArray w (fun e w => e = .returned (.int .i64 r) ∧ St w s (R)) := by
  refine enter Try.func55 rfl rfl rfl fun a hE => ?_
  rw [MendRoundslack] at hr
  refine W.seq ?_
  refine W.region ?_
  refine WL.box hE hS (runs_plain rfl) rfl rfl rfl ?_; clear hE hS a w; intro b51 a w hE hS
  refine WL.box hE hS (runs_plain rfl) rfl rfl rfl ?_; clear hE hS a w; intro b52 a w hE hS
  refine WL.vS hS hE (runs_plain rfl) (Gives.p hE rfl) rfl ?_; clear hE a; intro a hE
  refine WL.nil ?_
  refine W.seq ?_
  refine W.regionQ (C := fun w => St w s (pt b52 (.cells (MendLink.cells x1).toArray 36 (0, 0)) :: pt b51 (.cells #[.int .i64 x0.Period, .slice a0_0 x0.Plan.length c0_0, .slice a0_1 x0.Links.length c0_1] 25 (0, 0)) :: R)) mixed (by kernel_rfl) hS.drew ?_
  refine QL.v hE (runs_plain rfl) (Gives.fld hE rfl fl25_1) rfl ?_; clear hE a; intro a hE
  refine QL.v hE (runs_plain rfl) (Gives.loadB hE 1 rfl rfl rfl ty22) rfl ?_; clear hE a; intro a hE
  refine QL.v hE (runs_plain rfl) (Gives.fld hE rfl fl36_1) rfl ?_; clear hE a; intro a hE
  refine QL.v hE (runs_plain rfl) (Gives.loadB hE 0 rfl rfl rfl ty3) rfl ?_; clear hE a; intro a hE
  obtain ⟨x53, hx54, hr⟩ := bindS hr
  obtain ⟨hi55, hlt56, hy57⟩ := gx_some hx54
  obtain ⟨cs58, hl59, hR60, hat61⟩ := h0_0.at hy57
  subst hR60
  refine QL.v hE (runs_plain rfl) (Gives.idx hE (x1.To).toNat rfl rfl sl22 hi55 hlt56 (h0_0.aok hlt56)) rfl ?_; clear hE a; intro a hE
  refine QL.v hE (runs_plain rfl) (Gives.load1 hE rfl (fun w h => hat61 w _ h) ty3) rfl ?_; clear hE a; intro a hE
  refine QL.v hE (runs_plain rfl) (Gives.fld hE rfl fl25_1) rfl ?_; clear hE a; intro a hE
  refine QL.v hE (runs_plain rfl) (Gives.loadB hE 1 rfl rfl rfl ty22) rfl ?_; clear hE a; intro a hE
  refine QL.v hE (runs_plain rfl) (Gives.fld hE rfl fl36_0) rfl ?_; clear hE a; intro a hE
  refine QL.v hE (runs_plain rfl) (Gives.loadB hE 0 rfl rfl rfl ty3) rfl ?_; clear hE a; intro a hE
  obtain ⟨x62, hx63, hr⟩ := bindS hr
  obtain ⟨hi64, hlt65, hy66⟩ := gx_some hx63
  obtain ⟨cs67, hl68, hR69, hat70⟩ := h0_0.at hy66
  subst hR69
  refine QL.v hE (runs_plain rfl) (Gives.idx hE (x1.From).toNat rfl rfl sl22 hi64 hlt65 (h0_0.aok hlt65)) rfl ?_; clear hE a; intro a hE
  refine QL.v hE (runs_plain rfl) (Gives.load1 hE rfl (fun w h => hat70 w _ h) ty3) rfl ?_; clear hE a; intro a hE
  refine QL.v hE (runs_plain rfl) (Gives.p hE rfl) rfl ?_; clear hE a; intro a hE
  refine QL.v hE (runs_plain rfl) (Gives.fld hE rfl fl36_3) rfl ?_; clear hE a; intro a hE
  refine QL.v hE (runs_plain rfl) (Gives.loadB hE 0 rfl rfl rfl ty3) rfl ?_; clear hE a; intro a hE
  refine QL.v hE (runs_plain rfl) (Gives.fld hE rfl fl25_0) rfl ?_; clear hE a; intro a hE
  refine QL.v hE (runs_plain rfl) (Gives.loadB hE 1 rfl rfl rfl ty3) rfl ?_; clear hE a; intro a hE
  refine QL.v hE (runs_plain rfl) (Gives.p hE rfl) rfl ?_; clear hE a; intro a hE
  refine QL.v hE (runs_plain rfl) (Gives.p hE rfl) rfl ?_; clear hE a; intro a hE
  refine QL.v hE (runs_plain rfl) (Gives.fld hE rfl fl36_2) rfl ?_; clear hE a; intro a hE
  refine QL.v hE (runs_plain rfl) (Gives.loadB hE 0 rfl rfl rfl ty3) rfl ?_; clear hE a; intro a hE
  refine QL.v hE (runs_plain rfl) (Gives.p hE rfl) rfl ?_; clear hE a; intro a hE
  refine QL.v hE (runs_plain rfl) (Gives.p hE rfl) rfl ?_; clear hE a; intro a hE
  refine QL.nil ?_; clear hS w; intro w hS
  refine W.ret ?_
  refine finG (fn := Try.f55) (rs := [.tmp 4]) (vs := [_]) hE rfl ⟨rfl, trivial⟩ ?_
  obtain rfl := Option.some.inj hr
  replace hS := hS.tail
  replace hS := hS.tail
  exact ⟨rfl, hS⟩
set_option maxHeartbeats 8000000 in
theorem MendRoundring_ok {fu : Nat}  {w : World} {s : Sg} {R : List HP} {x0 : MendRound} {a0_0 : Option Addr} {c0_0 : Nat} {a0_1 : Option Addr} {c0_1 : Nat} (hS : St w s (R)) (_h0_0 : Sl 1 (RI .i64) s a0_0 c0_0 x0.Plan) (h0_1 : Sl 4 RMendLink s a0_1 c0_1 x0.Links) {r : Bool} (hr : MendRoundring fu x0 = some r) :
    Calls Try.prog 56 [.agg [.int .i64 x0.Period, .slice a0_0 x0.Plan.length c0_0, .slice a0_1 x0.Links.length c0_1].toArray].toArray w (fun e w => e = .returned (.bool r) ∧ St w s (R)) := by
  refine enter Try.func56 rfl rfl rfl fun a hE => ?_
  rw [MendRoundring] at hr
  refine W.seq ?_
  refine W.region ?_
  refine WL.box hE hS (runs_plain rfl) rfl rfl rfl ?_; clear hE hS a w; intro b51 a w hE hS
  refine WL.vS hS hE (runs_plain rfl) (Gives.p hE rfl) rfl ?_; clear hE a; intro a hE
  refine WL.nil ?_
  refine W.seq ?_
  refine W.region ?_
  refine WL.vS hS hE (runs_plain rfl) (Gives.fld hE rfl fl25_1) rfl ?_; clear hE a; intro a hE
  refine WL.vS hS hE (runs_plain rfl) (Gives.loadB hE 0 rfl rfl rfl ty22) rfl ?_; clear hE a; intro a hE
  refine WL.vS hS hE (runs_plain rfl) (Gives.len hE rfl sl22) rfl ?_; clear hE a; intro a hE
  obtain ⟨x52, hx53, hr⟩ := bindS hr
  refine WL.mkD (Rr := RI .i64) hE hS (runs_plain rfl) rfl rfl ap22 zr3 rfl hx53 rfl ?_; clear hE hS a w; intro b54 cs55 a w h56 hE hS
  refine WL.vS hS hE (runs_plain rfl) (Gives.p hE rfl) rfl ?_; clear hE a; intro a hE
  refine WL.nil ?_
  refine W.seq ?_
  refine W.seq ?_
  refine W.region ?_
  refine WL.vS hS hE (runs_plain rfl) (Gives.fld hE rfl fl25_1) rfl ?_; clear hE a; intro a hE
  refine WL.vS hS hE (runs_plain rfl) (Gives.loadB hE 1 rfl rfl rfl ty22) rfl ?_; clear hE a; intro a hE
  refine WL.vS hS hE (runs_plain rfl) (Gives.len hE rfl sl22) rfl ?_; clear hE a; intro a hE
  refine WL.vS hS hE (runs_plain rfl) (Gives.p hE rfl) rfl ?_; clear hE a; intro a hE
  refine WL.vS hS hE (runs_plain rfl) (Gives.p hE rfl) rfl ?_; clear hE a; intro a hE
  refine WL.nil ?_
  obtain ⟨q70, hq69, hr⟩ := bindS hr
  refine W.cut (fun a w => ∃ (q75 : Int), ∃ (q76 : List Int), ∃ (cs80 : List Value), (.next (q75, q76)) = q70 ∧ Ev 1 (RI .i64) s cs80 q76 ∧ q76.length = x52.length ∧ Rep a 54 [] ∧ St w s (vecC 3 1 (some ⟨b54, 0, none⟩) x52.length x52.length cs80 :: pt b51 (.cells #[.int .i64 x0.Period, .slice a0_0 x0.Plan.length c0_0, .slice a0_1 x0.Links.length c0_1] 25 (0, 0)) :: R)) ?_ ?_
  · refine W.block ?_
    refine W.loop (fun m a w => ∃ (n71 : Nat), ∃ (q75 : Int), ∃ (q76 : List Int), ∃ (cs80 : List Value), n71 = m ∧ MendRoundring.loop2 x0 n71 q75 q76 = some q70 ∧ Ev 1 (RI .i64) s cs80 q76 ∧ q76.length = x52.length ∧ Rep a 54 [(1, .pointer (some ⟨b51, 0, none⟩)), (3, .slice (some ⟨b54, 0, none⟩) x52.length x52.length), (14, .int .i64 (w64 (((x0.Plan).length : Int) + 1))), (15, .int .i64 q75)] ∧ St w s (vecC 3 1 (some ⟨b54, 0, none⟩) x52.length x52.length cs80 :: pt b51 (.cells #[.int .i64 x0.Period, .slice a0_0 x0.Plan.length c0_0, .slice a0_1 x0.Links.length c0_1] 25 (0, 0)) :: R)) (m := fu) ⟨fu, 0, x52, cs55, rfl, hq69, h56, (rfl), hE.pick _ ⟨rfl, rfl, rfl, rfl, trivial⟩, hS⟩ ?_
    clear hE hS a w hq69; rintro m72 a w ⟨n71, q75, q76, cs80, rfl, hq69, h79, hn81, hE, hS⟩
    refine W.gen fun K82 hK82 => ?_
    rcases n71 with _ | n71
    · rw [MendRoundring.loop2] at hq69; exact absurd hq69 (by simp)
    rw [MendRoundring.loop2] at hq69
    refine W.seq ?_
    refine W.region ?_
    refine WL.vS hS hE (runs_plain rfl) (Gives.p hE rfl) rfl ?_; clear hE a; intro a hE
    refine WL.nil ?_
    refine W.seq ?_
    refine W.cond hE rfl (fun hc83 => ?_) (fun hc83 => ?_)
    · replace hq69 := iteT hc83 hq69
      refine W.skip ?_
      refine W.seq ?_
      refine W.block ?_
      refine W.seq ?_
      refine W.region ?_
      refine WL.vS hS hE (runs_plain rfl) (Gives.p hE rfl) rfl ?_; clear hE a; intro a hE
      refine WL.nil ?_
      refine W.seq ?_
      refine W.seq ?_
      refine W.region ?_
      refine WL.vS hS hE (runs_plain rfl) (Gives.fld hE rfl fl25_2) rfl ?_; clear hE a; intro a hE
      refine WL.vS hS hE (runs_plain rfl) (Gives.loadB hE 1 rfl rfl rfl ty23) rfl ?_; clear hE a; intro a hE
      refine WL.vS hS hE (runs_plain rfl) (Gives.len hE rfl sl23) rfl ?_; clear hE a; intro a hE
      refine WL.vS hS hE (runs_plain rfl) (Gives.p hE rfl) rfl ?_; clear hE a; intro a hE
      refine WL.nil ?_
      obtain ⟨q85, hq84, hq69⟩ := bindS hq69
      refine W.cut (fun a w => ∃ (q95 : Bool), ∃ (q96 : List Int), ∃ (cs100 : List Value), (q95, q96) = q85 ∧ Ev 1 (RI .i64) s cs100 q96 ∧ q96.length = x52.length ∧ Rep a 54 [(1, .pointer (some ⟨b51, 0, none⟩)), (3, .slice (some ⟨b54, 0, none⟩) x52.length x52.length), (4, .bool q95), (14, .int .i64 (w64 (((x0.Plan).length : Int) + 1))), (15, .int .i64 q75)] ∧ St w s (vecC 3 1 (some ⟨b54, 0, none⟩) x52.length x52.length cs100 :: pt b51 (.cells #[.int .i64 x0.Period, .slice a0_0 x0.Plan.length c0_0, .slice a0_1 x0.Links.length c0_1] 25 (0, 0)) :: R)) ?_ ?_
      · refine W.block ?_
        refine W.loop (fun m a w => ∃ (rest88 : List MendLink) (k86 : Nat), ∃ (q95 : Bool), ∃ (q96 : List Int), ∃ (cs100 : List Value), rest88.length = m ∧ x0.Links.drop k86 = rest88 ∧ MendRoundring.loop3 rest88 q95 q96 = some q85 ∧ Ev 1 (RI .i64) s cs100 q96 ∧ q96.length = x52.length ∧ Rep a 54 [(1, .pointer (some ⟨b51, 0, none⟩)), (3, .slice (some ⟨b54, 0, none⟩) x52.length x52.length), (4, .bool q95), (14, .int .i64 (w64 (((x0.Plan).length : Int) + 1))), (15, .int .i64 q75), (18, .slice a0_1 x0.Links.length c0_1), (19, .int .i64 ((x0.Links).length : Int)), (20, .int .i64 ((k86 : Nat) : Int))] ∧ St w s (vecC 3 1 (some ⟨b54, 0, none⟩) x52.length x52.length cs100 :: pt b51 (.cells #[.int .i64 x0.Period, .slice a0_0 x0.Plan.length c0_0, .slice a0_1 x0.Links.length c0_1] 25 (0, 0)) :: R)) (m := x0.Links.length) ⟨x0.Links, 0, false, q76, cs80, rfl, rfl, hq84, h79, hn81, hE.pick _ ⟨rfl, rfl, rfl, rfl, rfl, rfl, rfl, rfl, trivial⟩, hS⟩ ?_
        clear hE hS a w hq84; rintro m92 a w ⟨rest88, k86, q95, q96, cs100, rfl, hd89, hq84, h99, hn101, hE, hS⟩
        refine W.gen fun K102 hK102 => ?_
        rcases rest88 with _ | ⟨x87, rest88⟩
        · have hlt90 := drop_nil hd89
          refine W.seq ?_
          refine W.region ?_
          refine WL.vS hS hE (runs_plain rfl) (Gives.p hE rfl) rfl ?_; clear hE a; intro a hE
          refine WL.nil ?_
          refine W.seq ?_
          refine W.condF hE rfl (decide_eq_false (by omega)) ?_
          subst hK102
          refine W.exit rfl ?_
          exact ⟨q95, q96, cs100, Option.some.inj hq84, h99, hn101, hE.pick _ ⟨rfl, rfl, rfl, rfl, rfl, trivial⟩, hS⟩
        · obtain ⟨hlt90, hx91, hd89⟩ := drop_cons hd89
          rw [MendRoundring.loop3] at hq84
          refine W.seq ?_
          refine W.region ?_
          refine WL.vS hS hE (runs_plain rfl) (Gives.p hE rfl) rfl ?_; clear hE a; intro a hE
          refine WL.nil ?_
          refine W.seq ?_
          refine W.condT hE rfl (decide_eq_true (by omega)) ?_
          refine W.skip ?_
          refine W.seq ?_
          refine W.block ?_
          refine W.seq ?_
          refine W.region ?_
          obtain ⟨cs103, hl104, hR105, hat106⟩ := h0_1.at hx91
          subst hR105
          refine WL.vS hS hE (runs_plain rfl) (Gives.idx hE k86 rfl rfl sl23 rfl hlt90 (h0_1.aok hlt90)) rfl ?_; clear hE a; intro a hE
          refine WL.vS hS hE (runs_plain rfl) (Gives.loadA hE rfl (fun w h => hat106 w _ h) ty36) rfl ?_; clear hE a; intro a hE
          refine WL.alloc hE hS (runs_plain rfl) zr36 rfl ?_; clear hE hS a w; intro b107 a w hE hS
          refine WL.storeI hE hS 0 rfl (MendLink.cells x87) (runs_plain rfl) rfl rfl rfl ty36 rfl rfl rfl rfl ?_; clear hE hS a w; intro a w hE hS
          refine WL.nil ?_
          refine W.seq ?_
          obtain ⟨q109, hq108, hq84⟩ := bindS hq84
          refine W.cut (fun a w => ∃ (q112 : Bool), q112 = q109 ∧ Rep a 54 [(1, .pointer (some ⟨b51, 0, none⟩)), (3, .slice (some ⟨b54, 0, none⟩) x52.length x52.length), (4, .bool q95), (6, .pointer (some ⟨b107, 0, none⟩)), (14, .int .i64 (w64 (((x0.Plan).length : Int) + 1))), (15, .int .i64 q75), (18, .slice a0_1 x0.Links.length c0_1), (19, .int .i64 ((x0.Links).length : Int)), (20, .int .i64 ((k86 : Nat) : Int)), (39, .bool q112)] ∧ St w s (pt b107 (.cells (MendLink.cells x87).toArray 36 (0, 0)) :: vecC 3 1 (some ⟨b54, 0, none⟩) x52.length x52.length cs100 :: pt b51 (.cells #[.int .i64 x0.Period, .slice a0_0 x0.Plan.length c0_0, .slice a0_1 x0.Links.length c0_1] 25 (0, 0)) :: R)) ?_ ?_
          · refine W.gen fun K113 hK113 => ?_
            refine W.regionQ (C := fun w => St w s (pt b107 (.cells (MendLink.cells x87).toArray 36 (0, 0)) :: vecC 3 1 (some ⟨b54, 0, none⟩) x52.length x52.length cs100 :: pt b51 (.cells #[.int .i64 x0.Period, .slice a0_0 x0.Plan.length c0_0, .slice a0_1 x0.Links.length c0_1] 25 (0, 0)) :: R)) mixed (by kernel_rfl) hS.drew ?_
            refine QL.v hE (runs_plain rfl) (Gives.fld hE rfl fl36_3) rfl ?_; clear hE a; intro a hE
            refine QL.v hE (runs_plain rfl) (Gives.loadB hE 0 rfl rfl rfl ty3) rfl ?_; clear hE a; intro a hE
            refine QL.v hE (runs_plain rfl) (Gives.p hE rfl) rfl ?_; clear hE a; intro a hE
            refine QL.v hE (runs_plain rfl) (Gives.p hE rfl) rfl ?_; clear hE a; intro a hE
            rcases Bool.eq_false_or_eq_true (x87.Back == 0) with hg114 | hg114
            · replace hq108 := iteT hg114 hq108
              refine QL.v hE (runs_if hE rfl rfl rfl hg114) (Gives.p hE rfl) rfl ?_; clear hE a; intro a hE
              refine QL.v hE (runs_if hE rfl rfl rfl hg114) (Gives.fld hE rfl fl36_1) rfl ?_; clear hE a; intro a hE
              refine QL.v hE (runs_if hE rfl rfl rfl hg114) (Gives.loadB hE 0 rfl rfl rfl ty3) rfl ?_; clear hE a; intro a hE
              obtain ⟨x115, hx116, hq108⟩ := bindS hq108
              obtain ⟨hi117, hlt118, hy119⟩ := gx_some hx116
              obtain ⟨vs120, hl121, hR122, hd123, hget124⟩ := h99.at hy119
              subst hR122
              refine QL.v hE (runs_if hE rfl rfl rfl hg114) (Gives.idx hE ((x87.To).toNat) rfl rfl sl22 hi117 (by have := hn101; omega) (hS.vecAok 1 rfl (by have := hn101; omega : (x87.To).toNat < x52.length))) rfl ?_; clear hE a; intro a hE
              refine QL.v hE (runs_if hE rfl rfl rfl hg114) (Gives.load1 hE rfl (fun w h => St.vecSees h 1 rfl ((x87.To).toNat * 1) _ hget124) ty3) rfl ?_; clear hE a; intro a hE
              refine QL.v hE (runs_if hE rfl rfl rfl hg114) (Gives.p hE rfl) rfl ?_; clear hE a; intro a hE
              refine QL.v hE (runs_if hE rfl rfl rfl hg114) (Gives.fld hE rfl fl36_0) rfl ?_; clear hE a; intro a hE
              refine QL.v hE (runs_if hE rfl rfl rfl hg114) (Gives.loadB hE 0 rfl rfl rfl ty3) rfl ?_; clear hE a; intro a hE
              obtain ⟨x125, hx126, hq108⟩ := bindS hq108
              obtain ⟨hi127, hlt128, hy129⟩ := gx_some hx126
              obtain ⟨vs130, hl131, hR132, hd133, hget134⟩ := h99.at hy129
              subst hR132
              refine QL.v hE (runs_if hE rfl rfl rfl hg114) (Gives.idx hE ((x87.From).toNat) rfl rfl sl22 hi127 (by have := hn101; omega) (hS.vecAok 1 rfl (by have := hn101; omega : (x87.From).toNat < x52.length))) rfl ?_; clear hE a; intro a hE
              refine QL.v hE (runs_if hE rfl rfl rfl hg114) (Gives.load1 hE rfl (fun w h => St.vecSees h 1 rfl ((x87.From).toNat * 1) _ hget134) ty3) rfl ?_; clear hE a; intro a hE
              refine QL.v hE (runs_if hE rfl rfl rfl hg114) (Gives.p hE rfl) rfl ?_; clear hE a; intro a hE
              refine QL.v hE (runs_plain rfl) (Gives.pickT hE rfl hg114 rfl) rfl ?_; clear hE a; intro a hE
              refine QL.nil ?_; clear hS w; intro w hS
              subst hK113
              exact ⟨decide (x115 ≤ x125), Option.some.inj hq108, hE.pick _ ⟨rfl, rfl, rfl, rfl, rfl, rfl, rfl, rfl, rfl, rfl, trivial⟩, hS⟩
            · replace hq108 := iteF hg114 hq108
              refine QL.no hE (runs_not hE rfl rfl rfl (by rw [hg114]; decide)) rfl ?_; clear hE a; intro a hE
              refine QL.no hE (runs_not hE rfl rfl rfl (by rw [hg114]; decide)) rfl ?_; clear hE a; intro a hE
              refine QL.no hE (runs_not hE rfl rfl rfl (by rw [hg114]; decide)) rfl ?_; clear hE a; intro a hE
              refine QL.no hE (runs_not hE rfl rfl rfl (by rw [hg114]; decide)) rfl ?_; clear hE a; intro a hE
              refine QL.no hE (runs_not hE rfl rfl rfl (by rw [hg114]; decide)) rfl ?_; clear hE a; intro a hE
              refine QL.no hE (runs_not hE rfl rfl rfl (by rw [hg114]; decide)) rfl ?_; clear hE a; intro a hE
              refine QL.no hE (runs_not hE rfl rfl rfl (by rw [hg114]; decide)) rfl ?_; clear hE a; intro a hE
              refine QL.no hE (runs_not hE rfl rfl rfl (by rw [hg114]; decide)) rfl ?_; clear hE a; intro a hE
              refine QL.no hE (runs_not hE rfl rfl rfl (by rw [hg114]; decide)) rfl ?_; clear hE a; intro a hE
              refine QL.no hE (runs_not hE rfl rfl rfl (by rw [hg114]; decide)) rfl ?_; clear hE a; intro a hE
              refine QL.no hE (runs_not hE rfl rfl rfl (by rw [hg114]; decide)) rfl ?_; clear hE a; intro a hE
              refine QL.v hE (runs_plain rfl) (Gives.pickF hE rfl hg114 rfl) rfl ?_; clear hE a; intro a hE
              refine QL.nil ?_; clear hS w; intro w hS
              subst hK113
              exact ⟨false, Option.some.inj hq108, hE.pick _ ⟨rfl, rfl, rfl, rfl, rfl, rfl, rfl, rfl, rfl, rfl, trivial⟩, hS⟩
          · clear hE hS a w; rintro a w ⟨q112, rfl, hE, hS⟩
            obtain ⟨q136, hq135, hq84⟩ := bindS hq84
            refine W.cut (fun a w => ∃ (q139 : Bool), ∃ (q140 : List Int), ∃ (cs144 : List Value), (q139, q140) = q136 ∧ Ev 1 (RI .i64) s cs144 q140 ∧ q140.length = x52.length ∧ Rep a 54 [(1, .pointer (some ⟨b51, 0, none⟩)), (3, .slice (some ⟨b54, 0, none⟩) x52.length x52.length), (4, .bool q139), (14, .int .i64 (w64 (((x0.Plan).length : Int) + 1))), (15, .int .i64 q75), (18, .slice a0_1 x0.Links.length c0_1), (19, .int .i64 ((x0.Links).length : Int)), (20, .int .i64 ((k86 : Nat) : Int))] ∧ St w s (pt b107 (.cells (MendLink.cells x87).toArray 36 (0, 0)) :: vecC 3 1 (some ⟨b54, 0, none⟩) x52.length x52.length cs144 :: pt b51 (.cells #[.int .i64 x0.Period, .slice a0_0 x0.Plan.length c0_0, .slice a0_1 x0.Links.length c0_1] 25 (0, 0)) :: R)) ?_ ?_
            · refine W.gen fun K146 hK146 => ?_
              refine W.cond hE rfl (fun hc147 => ?_) (fun hc147 => ?_)
              · replace hq135 := iteT hc147 hq135
                refine W.gen fun K148 hK148 => ?_
                refine W.regionE (sel (fun w => St w s (pt b107 (.cells (MendLink.cells x87).toArray 36 (0, 0)) :: vecC 3 1 (some ⟨b54, 0, none⟩) x52.length x52.length cs100 :: pt b51 (.cells #[.int .i64 x0.Period, .slice a0_0 x0.Plan.length c0_0, .slice a0_1 x0.Links.length c0_1] 25 (0, 0)) :: R)) (fun w => St w s (pt b107 (.cells (MendLink.cells x87).toArray 36 (0, 0)) :: pt b51 (.cells #[.int .i64 x0.Period, .slice a0_0 x0.Plan.length c0_0, .slice a0_1 x0.Links.length c0_1] 25 (0, 0)) :: R))) (fun b i => cond b ([0, 1, 2, 3, 4, 5, 6, 7, 8, 9, 11].contains i) ([0, 1, 2, 3, 4, 5, 6, 7, 8, 9, 10, 11].contains i)) mixed ?_
                replace hS := hS.drew
                refine Rg.takeP (i := 0) hE rfl (by kernel_rfl) (runs_plain rfl) (Gives.p hE rfl) rfl (tw_sel (fun _ => hS) (fun _ => (hS.dropAt 1))) ?_; clear hE a; intro a hE
                refine Rg.takeP (i := 1) hE rfl (by kernel_rfl) (runs_plain rfl) (Gives.fld hE rfl fl36_1) rfl (tw_sel (fun _ => hS) (fun _ => (hS.dropAt 1))) ?_; clear hE a; intro a hE
                have hT := tw_sel (A := fun w => St w s (pt b107 (.cells (MendLink.cells x87).toArray 36 (0, 0)) :: vecC 3 1 (some ⟨b54, 0, none⟩) x52.length x52.length cs100 :: pt b51 (.cells #[.int .i64 x0.Period, .slice a0_0 x0.Plan.length c0_0, .slice a0_1 x0.Links.length c0_1] 25 (0, 0)) :: R)) (B := fun w => St w s (pt b107 (.cells (MendLink.cells x87).toArray 36 (0, 0)) :: pt b51 (.cells #[.int .i64 x0.Period, .slice a0_0 x0.Plan.length c0_0, .slice a0_1 x0.Links.length c0_1] 25 (0, 0)) :: R)) (w := _) (x := true) (y := true) (fun _ => hS) (fun _ => (hS.dropAt 1))
                have hF := hS; replace hS := hS
                refine Rg.take (i := 2) true rfl hE rfl (by kernel_rfl) (runs_plain rfl) (Gives.loadB hE 0 rfl rfl rfl ty3) rfl hT ?_; clear hE a; intro a hE
                replace hS := hF; clear hF hT
                refine Rg.takeP (i := 3) hE rfl (by kernel_rfl) (runs_plain rfl) (Gives.p hE rfl) rfl (tw_sel (fun _ => hS) (fun _ => (hS.dropAt 1))) ?_; clear hE a; intro a hE
                refine Rg.takeP (i := 4) hE rfl (by kernel_rfl) (runs_plain rfl) (Gives.fld hE rfl fl36_0) rfl (tw_sel (fun _ => hS) (fun _ => (hS.dropAt 1))) ?_; clear hE a; intro a hE
                have hT := tw_sel (A := fun w => St w s (pt b107 (.cells (MendLink.cells x87).toArray 36 (0, 0)) :: vecC 3 1 (some ⟨b54, 0, none⟩) x52.length x52.length cs100 :: pt b51 (.cells #[.int .i64 x0.Period, .slice a0_0 x0.Plan.length c0_0, .slice a0_1 x0.Links.length c0_1] 25 (0, 0)) :: R)) (B := fun w => St w s (pt b107 (.cells (MendLink.cells x87).toArray 36 (0, 0)) :: pt b51 (.cells #[.int .i64 x0.Period, .slice a0_0 x0.Plan.length c0_0, .slice a0_1 x0.Links.length c0_1] 25 (0, 0)) :: R)) (w := _) (x := true) (y := true) (fun _ => hS) (fun _ => (hS.dropAt 1))
                have hF := hS; replace hS := hS
                refine Rg.take (i := 5) true rfl hE rfl (by kernel_rfl) (runs_plain rfl) (Gives.loadB hE 0 rfl rfl rfl ty3) rfl hT ?_; clear hE a; intro a hE
                replace hS := hF; clear hF hT
                obtain ⟨x149, hx150, hq135⟩ := bindS hq135
                obtain ⟨hi151, hlt152, hy153⟩ := gx_some hx150
                obtain ⟨vs154, hl155, hR156, hd157, hget158⟩ := h99.at hy153
                subst hR156
                refine Rg.takeP (i := 6) hE rfl (by kernel_rfl) (runs_plain rfl) (Gives.idx hE ((x87.From).toNat) rfl rfl sl22 hi151 (by have := hn101; omega) (hS.vecAok 1 rfl (by have := hn101; omega : (x87.From).toNat < x52.length))) rfl (tw_sel (fun _ => hS) (fun _ => (hS.dropAt 1))) ?_; clear hE a; intro a hE
                have hT := tw_sel (A := fun w => St w s (pt b107 (.cells (MendLink.cells x87).toArray 36 (0, 0)) :: vecC 3 1 (some ⟨b54, 0, none⟩) x52.length x52.length cs100 :: pt b51 (.cells #[.int .i64 x0.Period, .slice a0_0 x0.Plan.length c0_0, .slice a0_1 x0.Links.length c0_1] 25 (0, 0)) :: R)) (B := fun w => St w s (pt b107 (.cells (MendLink.cells x87).toArray 36 (0, 0)) :: pt b51 (.cells #[.int .i64 x0.Period, .slice a0_0 x0.Plan.length c0_0, .slice a0_1 x0.Links.length c0_1] 25 (0, 0)) :: R)) (w := _) (x := true) (y := true) (fun _ => hS) (fun _ => (hS.dropAt 1))
                have hF := hS; replace hS := hS
                refine Rg.take (i := 7) true rfl hE rfl (by kernel_rfl) (runs_plain rfl) (Gives.load1 hE rfl (fun w h => St.vecSees h 1 rfl ((x87.From).toNat * 1) _ hget158) ty3) rfl hT ?_; clear hE a; intro a hE
                replace hS := hF; clear hF hT
                refine Rg.takeP (i := 8) hE rfl (by kernel_rfl) (runs_plain rfl) (Gives.p hE rfl) rfl (tw_sel (fun _ => hS) (fun _ => (hS.dropAt 1))) ?_; clear hE a; intro a hE
                obtain ⟨_, hx160, hq135⟩ := bindS hq135
                obtain ⟨h161, h162⟩ := ix_some hx160
                refine Rg.takeP (i := 9) hE rfl (by kernel_rfl) (runs_plain rfl) (Gives.idx hE ((x87.To).toNat) rfl rfl sl22 h161 (by have := hn101; omega) (hS.vecAok 1 rfl (by have := hn101; omega : (x87.To).toNat < x52.length))) rfl (tw_sel (fun _ => hS) (fun _ => (hS.dropAt 1))) ?_; clear hE a; intro a hE
                refine Rg.one (i := 10) false true rfl (by kernel_rfl) (by kernel_rfl) (by kernel_rfl) ?_
                obtain ⟨x164, hx165, hq135⟩ := bindS hq135
                refine WL.setD hE hS 1 rfl (runs_plain rfl) rfl rfl (vs := [.int .i64 (w64 (x149 + 1))]) rfl ty3 rfl rfl rfl h99 hn101 (sx_some hx165).1 hx165 rfl rfl ?_; clear hE hS a w; intro cs166 a w h167 hn168 hE hS
                refine WL.nil ?_
                refine ⟨⟨fun h => absurd h (by decide), fun _ => (hS.dropAt 1)⟩, ?_⟩
                refine Rg.takeP (i := 11) hE rfl (by kernel_rfl) (runs_plain rfl) (Gives.p hE rfl) rfl (tw_sel (fun h => absurd h (by decide)) (fun _ => (hS.dropAt 1))) ?_; clear hE a; intro a hE
                refine Rg.done (by kernel_rfl) ?_
                subst hK148
                subst hK146
                exact ⟨true, x164, cs166, Option.some.inj hq135, h167, hn168, hE.pick _ ⟨rfl, rfl, rfl, rfl, rfl, rfl, rfl, rfl, trivial⟩, hS⟩
              · replace hq135 := iteF hc147 hq135
                refine W.skip ?_
                subst hK146
                exact ⟨q95, q96, cs100, Option.some.inj hq135, h99, hn101, hE.pick _ ⟨rfl, rfl, rfl, rfl, rfl, rfl, rfl, rfl, trivial⟩, hS⟩
            · clear hE hS a w; rintro a w ⟨q139, q140, cs144, rfl, h143, hn145, hE, hS⟩
              dsimp only at hq84
              refine W.region ?_
              refine WL.vS hS hE (runs_plain rfl) (Gives.inc hE rfl (by have := h0_1.small; omega)) rfl ?_; clear hE a; intro a hE
              refine WL.vS hS hE (runs_plain rfl) (Gives.p hE rfl) rfl ?_; clear hE a; intro a hE
              refine WL.nil ?_
              replace hS := hS.tail
              subst hK102
              exact ⟨rest88.length, Nat.lt_succ_self _, rest88, k86 + 1, q139, q140, cs144, rfl, hd89, hq84, h143, hn145, hE.pick _ ⟨rfl, rfl, rfl, rfl, rfl, rfl, rfl, rfl, trivial⟩, hS⟩
      · clear hE hS a w; rintro a w ⟨q95, q96, cs100, rfl, h99, hn101, hE, hS⟩
        dsimp only at hq69
        refine W.seq ?_
        refine W.region ?_
        refine WL.vS hS hE (runs_plain rfl) (Gives.p hE rfl) rfl ?_; clear hE a; intro a hE
        refine WL.vS hS hE (runs_plain rfl) (Gives.p hE rfl) rfl ?_; clear hE a; intro a hE
        refine WL.nil ?_
        refine W.cond hE rfl (fun hc169 => ?_) (fun hc169 => ?_)
        · replace hq69 := iteT hc169 hq69
          refine W.seq ?_
          refine W.region ?_
          refine WL.vS hS hE (runs_plain rfl) (Gives.p hE rfl) rfl ?_; clear hE a; intro a hE
          refine WL.nil ?_
          refine W.ret ?_
          subst hK82
          rw [← Option.some.inj hq69] at hr
          dsimp only at hr
          refine finG (fn := Try.f56) (rs := [.tmp 2]) (vs := [_]) hE rfl ⟨rfl, trivial⟩ ?_
          obtain rfl := Option.some.inj hr
          replace hS := hS.tail
          replace hS := hS.tail
          exact ⟨rfl, hS⟩
        · replace hq69 := iteF hc169 hq69
          refine W.skip ?_
          refine W.region ?_
          refine WL.vS hS hE (runs_plain rfl) (Gives.p hE rfl) rfl ?_; clear hE a; intro a hE
          refine WL.vS hS hE (runs_plain rfl) (Gives.p hE rfl) rfl ?_; clear hE a; intro a hE
          refine WL.nil ?_
          subst hK82
          exact ⟨n71, Nat.lt_succ_self _, n71, (w64 (q75 + 1)), q96, cs100, rfl, hq69, h99, hn101, hE.pick _ ⟨rfl, rfl, rfl, rfl, trivial⟩, hS⟩
    · replace hq69 := iteF hc83 hq69
      subst hK82
      refine W.exit rfl ?_
      exact ⟨q75, q76, cs80, Option.some.inj hq69, h79, hn81, hE.pick _ trivial, hS⟩
  · clear hE hS a w; rintro a w ⟨q75, q76, cs80, rfl, h79, hn81, hE, hS⟩
    dsimp only at hr
    refine W.seq ?_
    refine W.region ?_
    refine WL.vS hS hE (runs_plain rfl) (Gives.p hE rfl) rfl ?_; clear hE a; intro a hE
    refine WL.nil ?_
    refine W.ret ?_
    refine finG (fn := Try.f56) (rs := [.tmp 2]) (vs := [_]) hE rfl ⟨rfl, trivial⟩ ?_
    obtain rfl := Option.some.inj hr
    replace hS := hS.tail
    replace hS := hS.tail
    exact ⟨rfl, hS⟩
set_option maxHeartbeats 8000000 in
theorem MendCheckRound_ok {fu : Nat}  {w : World} {s : Sg} {R : List HP} {x0 : MendRound} {a0_0 : Option Addr} {c0_0 : Nat} {a0_1 : Option Addr} {c0_1 : Nat} (hS : St w s (R)) (h0_0 : Sl 1 (RI .i64) s a0_0 c0_0 x0.Plan) (h0_1 : Sl 4 RMendLink s a0_1 c0_1 x0.Links) {r : Int} (hr : MendCheckRound fu x0 = some r) :
    Calls Try.prog 16 [.agg [.int .i64 x0.Period, .slice a0_0 x0.Plan.length c0_0, .slice a0_1 x0.Links.length c0_1].toArray].toArray w (fun e w => e = .returned (.int .i64 r) ∧ St w s (R)) := by
  refine enter Try.func16 rfl rfl rfl fun a hE => ?_
  rw [MendCheckRound] at hr
  refine W.seq ?_
  refine W.region ?_
  refine WL.box hE hS (runs_plain rfl) rfl rfl rfl ?_; clear hE hS a w; intro b51 a w hE hS
  refine WL.vS hS hE (runs_plain rfl) (Gives.p hE rfl) rfl ?_; clear hE a; intro a hE
  refine WL.nil ?_
  refine W.seq ?_
  refine W.block ?_
  refine W.seq ?_
  refine W.region ?_
  refine WL.vS hS hE (runs_plain rfl) (Gives.fld hE rfl fl25_0) rfl ?_; clear hE a; intro a hE
  refine WL.vS hS hE (runs_plain rfl) (Gives.loadB hE 0 rfl rfl rfl ty3) rfl ?_; clear hE a; intro a hE
  refine WL.fnq hE (Mendwithin_ok hS  rfl (r := Mendwithin x0.Period 1 3600)) (runs_plain rfl) bd54 rfl rfl rfl ?_
  clear hE hS; rintro e w ⟨rfl, hS⟩; refine ⟨_, rfl, ?_⟩; clear a; intro a hE
  refine WL.vS hS hE (runs_plain rfl) (Gives.p hE rfl) rfl ?_; clear hE a; intro a hE
  refine WL.vS hS hE (runs_plain rfl) (Gives.p hE rfl) rfl ?_; clear hE a; intro a hE
  refine WL.nil ?_
  refine W.cond hE rfl (fun hc52 => ?_) (fun hc52 => ?_)
  · replace hr := iteT hc52 hr
    refine W.seq ?_
    refine W.region ?_
    refine WL.vS hS hE (runs_plain rfl) (Gives.p hE rfl) rfl ?_; clear hE a; intro a hE
    refine WL.nil ?_
    refine W.ret ?_
    refine finG (fn := Try.f16) (rs := [.tmp 2]) (vs := [_]) hE rfl ⟨rfl, trivial⟩ ?_
    obtain rfl := Option.some.inj hr
    replace hS := hS.tail
    exact ⟨rfl, hS⟩
  · replace hr := iteF hc52 hr
    refine W.seq ?_
    obtain ⟨q54, hq53, hr⟩ := bndS hr
    refine W.cut (fun a w => ∃ (q57 : Bool), q57 = q54 ∧ Rep a 83 [(1, .pointer (some ⟨b51, 0, none⟩)), (12, .bool q57)] ∧ St w s (pt b51 (.cells #[.int .i64 x0.Period, .slice a0_0 x0.Plan.length c0_0, .slice a0_1 x0.Links.length c0_1] 25 (0, 0)) :: R)) ?_ ?_
    · refine W.gen fun K58 hK58 => ?_
      refine W.region ?_
      refine WL.vS hS hE (runs_plain rfl) (Gives.fld hE rfl fl25_1) rfl ?_; clear hE a; intro a hE
      refine WL.vS hS hE (runs_plain rfl) (Gives.loadB hE 0 rfl rfl rfl ty22) rfl ?_; clear hE a; intro a hE
      refine WL.vS hS hE (runs_plain rfl) (Gives.len hE rfl sl22) rfl ?_; clear hE a; intro a hE
      refine WL.fnq hE (Mendwithin_ok hS  rfl (r := Mendwithin ((x0.Plan).length : Int) 1 8)) (runs_plain rfl) bd54 rfl rfl rfl ?_
      clear hE hS; rintro e w ⟨rfl, hS⟩; refine ⟨_, rfl, ?_⟩; clear a; intro a hE
      refine WL.vS hS hE (runs_plain rfl) (Gives.p hE rfl) rfl ?_; clear hE a; intro a hE
      refine WL.vS hS hE (runs_plain rfl) (Gives.p hE rfl) rfl ?_; clear hE a; intro a hE
      rcases Bool.eq_false_or_eq_true (!(Mendwithin ((x0.Plan).length : Int) 1 8)) with hg59 | hg59
      · replace hq53 := iteT hg59 hq53
        refine WL.no hE (runs_not hE rfl rfl rfl (by rw [hg59]; decide)) rfl ?_; clear hE a; intro a hE
        refine WL.no hE (runs_not hE rfl rfl rfl (by rw [hg59]; decide)) rfl ?_; clear hE a; intro a hE
        refine WL.no hE (runs_not hE rfl rfl rfl (by rw [hg59]; decide)) rfl ?_; clear hE a; intro a hE
        refine WL.no hE (runs_not hE rfl rfl rfl (by rw [hg59]; decide)) rfl ?_; clear hE a; intro a hE
        refine WL.vS hS hE (runs_plain rfl) (Gives.pickT hE rfl hg59 rfl) rfl ?_; clear hE a; intro a hE
        refine WL.vS hS hE (runs_plain rfl) (Gives.p hE rfl) rfl ?_; clear hE a; intro a hE
        refine WL.nil ?_
        subst hK58
        exact ⟨true, hq53, hE.pick _ ⟨rfl, rfl, trivial⟩, hS⟩
      · replace hq53 := iteF hg59 hq53
        refine WL.vS hS hE (runs_if hE rfl rfl rfl hg59) (Gives.fld hE rfl fl25_2) rfl ?_; clear hE a; intro a hE
        refine WL.vS hS hE (runs_if hE rfl rfl rfl hg59) (Gives.loadB hE 0 rfl rfl rfl ty23) rfl ?_; clear hE a; intro a hE
        refine WL.vS hS hE (runs_if hE rfl rfl rfl hg59) (Gives.len hE rfl sl23) rfl ?_; clear hE a; intro a hE
        refine WL.vS hS hE (runs_if hE rfl rfl rfl hg59) (Gives.p hE rfl) rfl ?_; clear hE a; intro a hE
        refine WL.vS hS hE (runs_plain rfl) (Gives.pickF hE rfl hg59 rfl) rfl ?_; clear hE a; intro a hE
        refine WL.vS hS hE (runs_plain rfl) (Gives.p hE rfl) rfl ?_; clear hE a; intro a hE
        refine WL.nil ?_
        subst hK58
        exact ⟨decide (((x0.Links).length : Int) > 24), hq53, hE.pick _ ⟨rfl, rfl, trivial⟩, hS⟩
    · clear hE hS a w; rintro a w ⟨q57, rfl, hE, hS⟩
      refine W.cond hE rfl (fun hc60 => ?_) (fun hc60 => ?_)
      · replace hr := iteT hc60 hr
        refine W.seq ?_
        refine W.region ?_
        refine WL.vS hS hE (runs_plain rfl) (Gives.p hE rfl) rfl ?_; clear hE a; intro a hE
        refine WL.nil ?_
        refine W.ret ?_
        refine finG (fn := Try.f16) (rs := [.tmp 2]) (vs := [_]) hE rfl ⟨rfl, trivial⟩ ?_
        obtain rfl := Option.some.inj hr
        replace hS := hS.tail
        exact ⟨rfl, hS⟩
      · replace hr := iteF hc60 hr
        refine W.skip ?_
        refine W.seq ?_
        refine W.seq ?_
        refine W.region ?_
        refine WL.vS hS hE (runs_plain rfl) (Gives.fld hE rfl fl25_1) rfl ?_; clear hE a; intro a hE
        refine WL.vS hS hE (runs_plain rfl) (Gives.loadB hE 0 rfl rfl rfl ty22) rfl ?_; clear hE a; intro a hE
        refine WL.vS hS hE (runs_plain rfl) (Gives.len hE rfl sl22) rfl ?_; clear hE a; intro a hE
        refine WL.vS hS hE (runs_plain rfl) (Gives.p hE rfl) rfl ?_; clear hE a; intro a hE
        refine WL.nil ?_
        obtain ⟨q62, hq61, hr⟩ := bndS hr
        refine W.cut (fun a w => (.next ()) = q62 ∧ Rep a 83 [(1, .pointer (some ⟨b51, 0, none⟩))] ∧ St w s (pt b51 (.cells #[.int .i64 x0.Period, .slice a0_0 x0.Plan.length c0_0, .slice a0_1 x0.Links.length c0_1] 25 (0, 0)) :: R)) ?_ ?_
        · refine W.block ?_
          refine W.loop (fun m a w => ∃ (rest65 : List Int) (k63 : Nat), rest65.length = m ∧ x0.Plan.drop k63 = rest65 ∧ MendCheckRound.loop1 x0 rest65 = q62 ∧ Rep a 83 [(1, .pointer (some ⟨b51, 0, none⟩)), (25, .slice a0_0 x0.Plan.length c0_0), (26, .int .i64 ((x0.Plan).length : Int)), (27, .int .i64 ((k63 : Nat) : Int))] ∧ St w s (pt b51 (.cells #[.int .i64 x0.Period, .slice a0_0 x0.Plan.length c0_0, .slice a0_1 x0.Links.length c0_1] 25 (0, 0)) :: R)) (m := x0.Plan.length) ⟨x0.Plan, 0, rfl, rfl, hq61, hE.pick _ ⟨rfl, rfl, rfl, rfl, trivial⟩, hS⟩ ?_
          clear hE hS a w hq61; rintro m69 a w ⟨rest65, k63, rfl, hd66, hq61, hE, hS⟩
          refine W.gen fun K72 hK72 => ?_
          rcases rest65 with _ | ⟨x64, rest65⟩
          · have hlt67 := drop_nil hd66
            refine W.seq ?_
            refine W.region ?_
            refine WL.vS hS hE (runs_plain rfl) (Gives.p hE rfl) rfl ?_; clear hE a; intro a hE
            refine WL.nil ?_
            refine W.seq ?_
            refine W.condF hE rfl (decide_eq_false (by omega)) ?_
            subst hK72
            refine W.exit rfl ?_
            exact ⟨hq61, hE.pick _ ⟨rfl, trivial⟩, hS⟩
          · obtain ⟨hlt67, hx68, hd66⟩ := drop_cons hd66
            rw [MendCheckRound.loop1] at hq61
            refine W.seq ?_
            refine W.region ?_
            refine WL.vS hS hE (runs_plain rfl) (Gives.p hE rfl) rfl ?_; clear hE a; intro a hE
            refine WL.nil ?_
            refine W.seq ?_
            refine W.condT hE rfl (decide_eq_true (by omega)) ?_
            refine W.skip ?_
            refine W.seq ?_
            refine W.block ?_
            refine W.seq ?_
            refine W.region ?_
            obtain ⟨cs73, hl74, hR75, hat76⟩ := h0_0.at hx68
            subst hR75
            refine WL.vS hS hE (runs_plain rfl) (Gives.idx hE k63 rfl rfl sl22 rfl hlt67 (h0_0.aok hlt67)) rfl ?_; clear hE a; intro a hE
            refine WL.vS hS hE (runs_plain rfl) (Gives.load1 hE rfl (fun w h => hat76 w _ h) ty3) rfl ?_; clear hE a; intro a hE
            refine WL.vS hS hE (runs_plain rfl) (Gives.p hE rfl) rfl ?_; clear hE a; intro a hE
            refine WL.nil ?_
            refine W.seq ?_
            refine W.region ?_
            refine WL.vS hS hE (runs_plain rfl) (Gives.p hE rfl) rfl ?_; clear hE a; intro a hE
            refine WL.vS hS hE (runs_plain rfl) (Gives.fld hE rfl fl25_0) rfl ?_; clear hE a; intro a hE
            refine WL.vS hS hE (runs_plain rfl) (Gives.loadB hE 0 rfl rfl rfl ty3) rfl ?_; clear hE a; intro a hE
            refine WL.vS hS hE (runs_plain rfl) (Gives.p hE rfl) rfl ?_; clear hE a; intro a hE
            refine WL.fnq hE (Mendwithin_ok hS  rfl (r := Mendwithin x64 0 (w64 (x0.Period - 1)))) (runs_plain rfl) bd54 rfl rfl rfl ?_
            clear hE hS; rintro e w ⟨rfl, hS⟩; refine ⟨_, rfl, ?_⟩; clear a; intro a hE
            refine WL.vS hS hE (runs_plain rfl) (Gives.p hE rfl) rfl ?_; clear hE a; intro a hE
            refine WL.nil ?_
            refine W.cond hE rfl (fun hc77 => ?_) (fun hc77 => ?_)
            · replace hq61 := iteT hc77 hq61
              refine W.seq ?_
              refine W.region ?_
              refine WL.vS hS hE (runs_plain rfl) (Gives.p hE rfl) rfl ?_; clear hE a; intro a hE
              refine WL.nil ?_
              refine W.ret ?_
              subst hK72
              rw [← hq61] at hr
              dsimp only at hr
              refine finG (fn := Try.f16) (rs := [.tmp 2]) (vs := [_]) hE rfl ⟨rfl, trivial⟩ ?_
              obtain rfl := Option.some.inj hr
              replace hS := hS.tail
              exact ⟨rfl, hS⟩
            · replace hq61 := iteF hc77 hq61
              refine W.skip ?_
              refine W.region ?_
              refine WL.vS hS hE (runs_plain rfl) (Gives.inc hE rfl (by have := h0_0.small; omega)) rfl ?_; clear hE a; intro a hE
              refine WL.vS hS hE (runs_plain rfl) (Gives.p hE rfl) rfl ?_; clear hE a; intro a hE
              refine WL.nil ?_
              subst hK72
              exact ⟨rest65.length, Nat.lt_succ_self _, rest65, k63 + 1, rfl, hd66, hq61, hE.pick _ ⟨rfl, rfl, rfl, rfl, trivial⟩, hS⟩
        · clear hE hS a w; rintro a w ⟨rfl, hE, hS⟩
          dsimp only at hr
          refine W.seq ?_
          refine W.seq ?_
          refine W.region ?_
          refine WL.vS hS hE (runs_plain rfl) (Gives.fld hE rfl fl25_2) rfl ?_; clear hE a; intro a hE
          refine WL.vS hS hE (runs_plain rfl) (Gives.loadB hE 0 rfl rfl rfl ty23) rfl ?_; clear hE a; intro a hE
          refine WL.vS hS hE (runs_plain rfl) (Gives.len hE rfl sl23) rfl ?_; clear hE a; intro a hE
          refine WL.vS hS hE (runs_plain rfl) (Gives.p hE rfl) rfl ?_; clear hE a; intro a hE
          refine WL.nil ?_
          obtain ⟨q79, hq78, hr⟩ := bindS hr
          refine W.cut (fun a w => (.next ()) = q79 ∧ Rep a 83 [(1, .pointer (some ⟨b51, 0, none⟩))] ∧ St w s (pt b51 (.cells #[.int .i64 x0.Period, .slice a0_0 x0.Plan.length c0_0, .slice a0_1 x0.Links.length c0_1] 25 (0, 0)) :: R)) ?_ ?_
          · refine W.block ?_
            refine W.loop (fun m a w => ∃ (rest82 : List MendLink) (k80 : Nat), rest82.length = m ∧ x0.Links.drop k80 = rest82 ∧ MendCheckRound.loop2 x0 rest82 = some q79 ∧ Rep a 83 [(1, .pointer (some ⟨b51, 0, none⟩)), (39, .slice a0_1 x0.Links.length c0_1), (40, .int .i64 ((x0.Links).length : Int)), (41, .int .i64 ((k80 : Nat) : Int))] ∧ St w s (pt b51 (.cells #[.int .i64 x0.Period, .slice a0_0 x0.Plan.length c0_0, .slice a0_1 x0.Links.length c0_1] 25 (0, 0)) :: R)) (m := x0.Links.length) ⟨x0.Links, 0, rfl, rfl, hq78, hE.pick _ ⟨rfl, rfl, rfl, rfl, trivial⟩, hS⟩ ?_
            clear hE hS a w hq78; rintro m86 a w ⟨rest82, k80, rfl, hd83, hq78, hE, hS⟩
            refine W.gen fun K89 hK89 => ?_
            rcases rest82 with _ | ⟨x81, rest82⟩
            · have hlt84 := drop_nil hd83
              refine W.seq ?_
              refine W.region ?_
              refine WL.vS hS hE (runs_plain rfl) (Gives.p hE rfl) rfl ?_; clear hE a; intro a hE
              refine WL.nil ?_
              refine W.seq ?_
              refine W.condF hE rfl (decide_eq_false (by omega)) ?_
              subst hK89
              refine W.exit rfl ?_
              exact ⟨Option.some.inj hq78, hE.pick _ ⟨rfl, trivial⟩, hS⟩
            · obtain ⟨hlt84, hx85, hd83⟩ := drop_cons hd83
              rw [MendCheckRound.loop2] at hq78
              refine W.seq ?_
              refine W.region ?_
              refine WL.vS hS hE (runs_plain rfl) (Gives.p hE rfl) rfl ?_; clear hE a; intro a hE
              refine WL.nil ?_
              refine W.seq ?_
              refine W.condT hE rfl (decide_eq_true (by omega)) ?_
              refine W.skip ?_
              refine W.seq ?_
              refine W.block ?_
              refine W.seq ?_
              refine W.region ?_
              obtain ⟨cs90, hl91, hR92, hat93⟩ := h0_1.at hx85
              subst hR92
              refine WL.vS hS hE (runs_plain rfl) (Gives.idx hE k80 rfl rfl sl23 rfl hlt84 (h0_1.aok hlt84)) rfl ?_; clear hE a; intro a hE
              refine WL.vS hS hE (runs_plain rfl) (Gives.loadA hE rfl (fun w h => hat93 w _ h) ty36) rfl ?_; clear hE a; intro a hE
              refine WL.alloc hE hS (runs_plain rfl) zr36 rfl ?_; clear hE hS a w; intro b94 a w hE hS
              refine WL.storeI hE hS 0 rfl (MendLink.cells x81) (runs_plain rfl) rfl rfl rfl ty36 rfl rfl rfl rfl ?_; clear hE hS a w; intro a w hE hS
              refine WL.nil ?_
              refine W.block ?_
              refine W.seq ?_
              obtain ⟨q96, hq95, hq78⟩ := bndS hq78
              refine W.cut (fun a w => ∃ (q99 : Bool), q99 = q96 ∧ Rep a 83 [(1, .pointer (some ⟨b51, 0, none⟩)), (6, .pointer (some ⟨b94, 0, none⟩)), (39, .slice a0_1 x0.Links.length c0_1), (40, .int .i64 ((x0.Links).length : Int)), (41, .int .i64 ((k80 : Nat) : Int)), (45, .bool q99)] ∧ St w s (pt b94 (.cells (MendLink.cells x81).toArray 36 (0, 0)) :: pt b51 (.cells #[.int .i64 x0.Period, .slice a0_0 x0.Plan.length c0_0, .slice a0_1 x0.Links.length c0_1] 25 (0, 0)) :: R)) ?_ ?_
              · refine W.gen fun K100 hK100 => ?_
                refine W.region ?_
                refine WL.vS hS hE (runs_plain rfl) (Gives.fld hE rfl fl36_0) rfl ?_; clear hE a; intro a hE
                refine WL.vS hS hE (runs_plain rfl) (Gives.loadB hE 0 rfl rfl rfl ty3) rfl ?_; clear hE a; intro a hE
                refine WL.vS hS hE (runs_plain rfl) (Gives.fld hE rfl fl25_1) rfl ?_; clear hE a; intro a hE
                refine WL.vS hS hE (runs_plain rfl) (Gives.loadB hE 1 rfl rfl rfl ty22) rfl ?_; clear hE a; intro a hE
                refine WL.vS hS hE (runs_plain rfl) (Gives.len hE rfl sl22) rfl ?_; clear hE a; intro a hE
                refine WL.vS hS hE (runs_plain rfl) (Gives.p hE rfl) rfl ?_; clear hE a; intro a hE
                refine WL.fnq hE (Mendwithin_ok hS  rfl (r := Mendwithin x81.From 0 (w64 (((x0.Plan).length : Int) - 1)))) (runs_plain rfl) bd54 rfl rfl rfl ?_
                clear hE hS; rintro e w ⟨rfl, hS⟩; refine ⟨_, rfl, ?_⟩; clear a; intro a hE
                refine WL.vS hS hE (runs_plain rfl) (Gives.p hE rfl) rfl ?_; clear hE a; intro a hE
                refine WL.vS hS hE (runs_plain rfl) (Gives.p hE rfl) rfl ?_; clear hE a; intro a hE
                rcases Bool.eq_false_or_eq_true (!(Mendwithin x81.From 0 (w64 (((x0.Plan).length : Int) - 1)))) with hg101 | hg101
                · replace hq95 := iteT hg101 hq95
                  refine WL.no hE (runs_not hE rfl rfl rfl (by rw [hg101]; decide)) rfl ?_; clear hE a; intro a hE
                  refine WL.no hE (runs_not hE rfl rfl rfl (by rw [hg101]; decide)) rfl ?_; clear hE a; intro a hE
                  refine WL.no hE (runs_not hE rfl rfl rfl (by rw [hg101]; decide)) rfl ?_; clear hE a; intro a hE
                  refine WL.no hE (runs_not hE rfl rfl rfl (by rw [hg101]; decide)) rfl ?_; clear hE a; intro a hE
                  refine WL.no hE (runs_not hE rfl rfl rfl (by rw [hg101]; decide)) rfl ?_; clear hE a; intro a hE
                  refine WL.no hE (runs_not hE rfl rfl rfl (by rw [hg101]; decide)) rfl ?_; clear hE a; intro a hE
                  refine WL.no hE (runs_not hE rfl rfl rfl (by rw [hg101]; decide)) rfl ?_; clear hE a; intro a hE
                  refine WL.no hE (runs_not hE rfl rfl rfl (by rw [hg101]; decide)) rfl ?_; clear hE a; intro a hE
                  refine WL.vS hS hE (runs_plain rfl) (Gives.pickT hE rfl hg101 rfl) rfl ?_; clear hE a; intro a hE
                  refine WL.vS hS hE (runs_plain rfl) (Gives.p hE rfl) rfl ?_; clear hE a; intro a hE
                  refine WL.nil ?_
                  subst hK100
                  exact ⟨true, hq95, hE.pick _ ⟨rfl, rfl, rfl, rfl, rfl, rfl, trivial⟩, hS⟩
                · replace hq95 := iteF hg101 hq95
                  refine WL.vS hS hE (runs_if hE rfl rfl rfl hg101) (Gives.fld hE rfl fl36_1) rfl ?_; clear hE a; intro a hE
                  refine WL.vS hS hE (runs_if hE rfl rfl rfl hg101) (Gives.loadB hE 0 rfl rfl rfl ty3) rfl ?_; clear hE a; intro a hE
                  refine WL.vS hS hE (runs_if hE rfl rfl rfl hg101) (Gives.fld hE rfl fl25_1) rfl ?_; clear hE a; intro a hE
                  refine WL.vS hS hE (runs_if hE rfl rfl rfl hg101) (Gives.loadB hE 1 rfl rfl rfl ty22) rfl ?_; clear hE a; intro a hE
                  refine WL.vS hS hE (runs_if hE rfl rfl rfl hg101) (Gives.len hE rfl sl22) rfl ?_; clear hE a; intro a hE
                  refine WL.vS hS hE (runs_if hE rfl rfl rfl hg101) (Gives.p hE rfl) rfl ?_; clear hE a; intro a hE
                  refine WL.fnq hE (Mendwithin_ok hS  rfl (r := Mendwithin x81.To 0 (w64 (((x0.Plan).length : Int) - 1)))) (runs_if hE rfl rfl rfl hg101) bd54 rfl rfl rfl ?_
                  clear hE hS; rintro e w ⟨rfl, hS⟩; refine ⟨_, rfl, ?_⟩; clear a; intro a hE
                  refine WL.vS hS hE (runs_if hE rfl rfl rfl hg101) (Gives.p hE rfl) rfl ?_; clear hE a; intro a hE
                  refine WL.vS hS hE (runs_plain rfl) (Gives.pickF hE rfl hg101 rfl) rfl ?_; clear hE a; intro a hE
                  refine WL.vS hS hE (runs_plain rfl) (Gives.p hE rfl) rfl ?_; clear hE a; intro a hE
                  refine WL.nil ?_
                  subst hK100
                  exact ⟨!(Mendwithin x81.To 0 (w64 (((x0.Plan).length : Int) - 1))), hq95, hE.pick _ ⟨rfl, rfl, rfl, rfl, rfl, rfl, trivial⟩, hS⟩
              · clear hE hS a w; rintro a w ⟨q99, rfl, hE, hS⟩
                refine W.cond hE rfl (fun hc102 => ?_) (fun hc102 => ?_)
                · replace hq78 := iteT hc102 hq78
                  refine W.seq ?_
                  refine W.region ?_
                  refine WL.vS hS hE (runs_plain rfl) (Gives.p hE rfl) rfl ?_; clear hE a; intro a hE
                  refine WL.nil ?_
                  refine W.ret ?_
                  subst hK89
                  rw [← Option.some.inj hq78] at hr
                  dsimp only at hr
                  refine finG (fn := Try.f16) (rs := [.tmp 2]) (vs := [_]) hE rfl ⟨rfl, trivial⟩ ?_
                  obtain rfl := Option.some.inj hr
                  replace hS := hS.tail
                  replace hS := hS.tail
                  exact ⟨rfl, hS⟩
                · replace hq78 := iteF hc102 hq78
                  refine W.seq ?_
                  obtain ⟨q104, hq103, hq78⟩ := bndS hq78
                  refine W.cut (fun a w => ∃ (q107 : Bool), q107 = q104 ∧ Rep a 83 [(1, .pointer (some ⟨b51, 0, none⟩)), (6, .pointer (some ⟨b94, 0, none⟩)), (39, .slice a0_1 x0.Links.length c0_1), (40, .int .i64 ((x0.Links).length : Int)), (41, .int .i64 ((k80 : Nat) : Int)), (64, .bool q107)] ∧ St w s (pt b94 (.cells (MendLink.cells x81).toArray 36 (0, 0)) :: pt b51 (.cells #[.int .i64 x0.Period, .slice a0_0 x0.Plan.length c0_0, .slice a0_1 x0.Links.length c0_1] 25 (0, 0)) :: R)) ?_ ?_
                  · refine W.gen fun K108 hK108 => ?_
                    refine W.region ?_
                    refine WL.vS hS hE (runs_plain rfl) (Gives.fld hE rfl fl36_2) rfl ?_; clear hE a; intro a hE
                    refine WL.vS hS hE (runs_plain rfl) (Gives.loadB hE 0 rfl rfl rfl ty3) rfl ?_; clear hE a; intro a hE
                    refine WL.fnq hE (Mendwithin_ok hS  rfl (r := Mendwithin x81.Len 0 28800)) (runs_plain rfl) bd54 rfl rfl rfl ?_
                    clear hE hS; rintro e w ⟨rfl, hS⟩; refine ⟨_, rfl, ?_⟩; clear a; intro a hE
                    refine WL.vS hS hE (runs_plain rfl) (Gives.p hE rfl) rfl ?_; clear hE a; intro a hE
                    refine WL.vS hS hE (runs_plain rfl) (Gives.p hE rfl) rfl ?_; clear hE a; intro a hE
                    rcases Bool.eq_false_or_eq_true (!(Mendwithin x81.Len 0 28800)) with hg109 | hg109
                    · replace hq103 := iteT hg109 hq103
                      refine WL.no hE (runs_not hE rfl rfl rfl (by rw [hg109]; decide)) rfl ?_; clear hE a; intro a hE
                      refine WL.no hE (runs_not hE rfl rfl rfl (by rw [hg109]; decide)) rfl ?_; clear hE a; intro a hE
                      refine WL.no hE (runs_not hE rfl rfl rfl (by rw [hg109]; decide)) rfl ?_; clear hE a; intro a hE
                      refine WL.no hE (runs_not hE rfl rfl rfl (by rw [hg109]; decide)) rfl ?_; clear hE a; intro a hE
                      refine WL.vS hS hE (runs_plain rfl) (Gives.pickT hE rfl hg109 rfl) rfl ?_; clear hE a; intro a hE
                      refine WL.vS hS hE (runs_plain rfl) (Gives.p hE rfl) rfl ?_; clear hE a; intro a hE
                      refine WL.nil ?_
                      subst hK108
                      exact ⟨true, hq103, hE.pick _ ⟨rfl, rfl, rfl, rfl, rfl, rfl, trivial⟩, hS⟩
                    · replace hq103 := iteF hg109 hq103
                      refine WL.vS hS hE (runs_if hE rfl rfl rfl hg109) (Gives.fld hE rfl fl36_3) rfl ?_; clear hE a; intro a hE
                      refine WL.vS hS hE (runs_if hE rfl rfl rfl hg109) (Gives.loadB hE 0 rfl rfl rfl ty3) rfl ?_; clear hE a; intro a hE
                      refine WL.fnq hE (Mendwithin_ok hS  rfl (r := Mendwithin x81.Back 0 3)) (runs_if hE rfl rfl rfl hg109) bd54 rfl rfl rfl ?_
                      clear hE hS; rintro e w ⟨rfl, hS⟩; refine ⟨_, rfl, ?_⟩; clear a; intro a hE
                      refine WL.vS hS hE (runs_if hE rfl rfl rfl hg109) (Gives.p hE rfl) rfl ?_; clear hE a; intro a hE
                      refine WL.vS hS hE (runs_plain rfl) (Gives.pickF hE rfl hg109 rfl) rfl ?_; clear hE a; intro a hE
                      refine WL.vS hS hE (runs_plain rfl) (Gives.p hE rfl) rfl ?_; clear hE a; intro a hE
                      refine WL.nil ?_
                      subst hK108
                      exact ⟨!(Mendwithin x81.Back 0 3), hq103, hE.pick _ ⟨rfl, rfl, rfl, rfl, rfl, rfl, trivial⟩, hS⟩
                  · clear hE hS a w; rintro a w ⟨q107, rfl, hE, hS⟩
                    refine W.cond hE rfl (fun hc110 => ?_) (fun hc110 => ?_)
                    · replace hq78 := iteT hc110 hq78
                      refine W.seq ?_
                      refine W.region ?_
                      refine WL.vS hS hE (runs_plain rfl) (Gives.p hE rfl) rfl ?_; clear hE a; intro a hE
                      refine WL.nil ?_
                      refine W.ret ?_
                      subst hK89
                      rw [← Option.some.inj hq78] at hr
                      dsimp only at hr
                      refine finG (fn := Try.f16) (rs := [.tmp 2]) (vs := [_]) hE rfl ⟨rfl, trivial⟩ ?_
                      obtain rfl := Option.some.inj hr
                      replace hS := hS.tail
                      replace hS := hS.tail
                      exact ⟨rfl, hS⟩
                    · replace hq78 := iteF hc110 hq78
                      refine W.seq ?_
                      refine W.region ?_
                      refine WL.vS hS hE (runs_plain rfl) (Gives.loadBA hE 1 rfl rfl ty25) rfl ?_; clear hE a; intro a hE
                      refine WL.vS hS hE (runs_plain rfl) (Gives.loadBA hE 0 rfl rfl ty36) rfl ?_; clear hE a; intro a hE
                      obtain ⟨q111, hq112, hq78⟩ := bindS hq78
                      have hc_ := MendRoundslack_ok hS h0_0 h0_1 hq112
                      refine WL.fnq hE (hc_) (runs_plain rfl) bd55 rfl rfl rfl ?_
                      clear hE hS hc_; rintro e w ⟨rfl, hS⟩; refine ⟨_, rfl, ?_⟩; clear a; intro a hE
                      refine WL.vS hS hE (runs_plain rfl) (Gives.p hE rfl) rfl ?_; clear hE a; intro a hE
                      refine WL.vS hS hE (runs_plain rfl) (Gives.p hE rfl) rfl ?_; clear hE a; intro a hE
                      refine WL.nil ?_
                      refine W.cond hE rfl (fun hc113 => ?_) (fun hc113 => ?_)
                      · replace hq78 := iteT hc113 hq78
                        refine W.seq ?_
                        refine W.region ?_
                        refine WL.vS hS hE (runs_plain rfl) (Gives.p hE rfl) rfl ?_; clear hE a; intro a hE
                        refine WL.nil ?_
                        refine W.ret ?_
                        subst hK89
                        rw [← Option.some.inj hq78] at hr
                        dsimp only at hr
                        refine finG (fn := Try.f16) (rs := [.tmp 2]) (vs := [_]) hE rfl ⟨rfl, trivial⟩ ?_
                        obtain rfl := Option.some.inj hr
                        replace hS := hS.tail
                        replace hS := hS.tail
                        exact ⟨rfl, hS⟩
                      · replace hq78 := iteF hc113 hq78
                        refine W.skip ?_
                        refine W.region ?_
                        refine WL.vS hS hE (runs_plain rfl) (Gives.inc hE rfl (by have := h0_1.small; omega)) rfl ?_; clear hE a; intro a hE
                        refine WL.vS hS hE (runs_plain rfl) (Gives.p hE rfl) rfl ?_; clear hE a; intro a hE
                        refine WL.nil ?_
                        replace hS := hS.tail
                        subst hK89
                        exact ⟨rest82.length, Nat.lt_succ_self _, rest82, k80 + 1, rfl, hd83, hq78, hE.pick _ ⟨rfl, rfl, rfl, rfl, trivial⟩, hS⟩
          · clear hE hS a w; rintro a w ⟨rfl, hE, hS⟩
            dsimp only at hr
            refine W.seq ?_
            refine W.seq ?_
            refine W.region ?_
            refine WL.vS hS hE (runs_plain rfl) (Gives.loadBA hE 0 rfl rfl ty25) rfl ?_; clear hE a; intro a hE
            obtain ⟨q114, hq115, hr⟩ := bindS hr
            have hc_ := MendRoundring_ok hS h0_0 h0_1 hq115
            refine WL.fnq hE (hc_) (runs_plain rfl) bd56 rfl rfl rfl ?_
            clear hE hS hc_; rintro e w ⟨rfl, hS⟩; refine ⟨_, rfl, ?_⟩; clear a; intro a hE
            refine WL.nil ?_
            refine W.cond hE rfl (fun hc116 => ?_) (fun hc116 => ?_)
            · replace hr := iteT hc116 hr
              refine W.seq ?_
              refine W.region ?_
              refine WL.vS hS hE (runs_plain rfl) (Gives.p hE rfl) rfl ?_; clear hE a; intro a hE
              refine WL.nil ?_
              refine W.ret ?_
              refine finG (fn := Try.f16) (rs := [.tmp 2]) (vs := [_]) hE rfl ⟨rfl, trivial⟩ ?_
              obtain rfl := Option.some.inj hr
              replace hS := hS.tail
              exact ⟨rfl, hS⟩
            · replace hr := iteF hc116 hr
              refine W.skip ?_
              refine W.seq ?_
              refine W.region ?_
              refine WL.vS hS hE (runs_plain rfl) (Gives.p hE rfl) rfl ?_; clear hE a; intro a hE
              refine WL.nil ?_
              refine W.ret ?_
              refine finG (fn := Try.f16) (rs := [.tmp 2]) (vs := [_]) hE rfl ⟨rfl, trivial⟩ ?_
              obtain rfl := Option.some.inj hr
              replace hS := hS.tail
              exact ⟨rfl, hS⟩
set_option maxHeartbeats 8000000 in
theorem SlicesCloneLint_ok  {w : World} {s : Sg} {R : List HP} {x0 : List Int} {a0 : Option Addr} {c0 : Nat} (hS : St w s (R)) (h0 : Sl 1 (RI .i64) s a0 c0 x0) {r : (List Int)} (hr : SlicesCloneLint x0 = some r) :
    Calls Try.prog 67 [.slice a0 x0.length c0].toArray w (fun e w => ∃ (a0 : Option Addr) (c0 n0 : Nat) (cs0 : List Value), e = .returned (.slice a0 n0 c0) ∧ Ev 1 (RI .i64) s cs0 r ∧ r.length = n0 ∧ St w s (vecC 3 1 a0 c0 n0 cs0 :: R)) := by
  refine enter Try.func67 rfl rfl rfl fun a hE => ?_
  rw [SlicesCloneLint] at hr
  refine W.seq ?_
  refine W.region ?_
  refine WL.vS hS hE (runs_plain rfl) (Gives.p hE rfl) rfl ?_; clear hE a; intro a hE
  refine WL.nil ?_
  refine W.seq ?_
  refine W.seq ?_
  refine W.region ?_
  refine WL.vS hS hE (runs_plain rfl) (Gives.p hE rfl) rfl ?_; clear hE a; intro a hE
  refine WL.vS hS hE (runs_plain rfl) (Gives.isNil hE rfl rfl isl22) rfl ?_; clear hE a; intro a hE
  refine WL.nil ?_
  rcases a0 with _ | g51
  · obtain rfl := h0.none_nil
    replace hr : some [] = _ := hr
    refine W.condT hE rfl rfl ?_
    refine W.seq ?_
    refine W.region ?_
    refine WL.vS hS hE (runs_plain rfl) (Gives.p hE rfl) rfl ?_; clear hE a; intro a hE
    refine WL.nil ?_
    refine W.ret ?_
    replace hS := hS.vecNil 3 1
    refine finG (fn := Try.f67) (rs := [.tmp 2]) (vs := [_]) hE rfl ⟨rfl, trivial⟩ ?_
    obtain rfl := Option.some.inj hr
    exact ⟨none, 0, 0, [], rfl, (Ev.nil), (rfl), hS⟩
  · skip
    refine W.condF hE rfl rfl ?_
    refine W.skip ?_
    refine W.seq ?_
    refine W.region ?_
    refine WL.lit hE hS (e := 3) (es := 1) (vs := []) (cs := []) (runs_plain rfl) rfl (by kernel_rfl) rfl ?_; clear hE hS a w; intro b53 a w hE hS
    replace hS := hS.ptVec (es := 1) (m := 0) rfl (by decide)
    have h55 : Ev 1 (RI .i64) s [] [] := (Ev.nil)
    refine WL.vS hS hE (runs_plain rfl) (Gives.p hE rfl) rfl ?_; clear hE a; intro a hE
    obtain ⟨x56, hx57, hr⟩ := bindS hr
    refine WL.appS hE hS 0 (runs_plain rfl) rfl rfl (xs := x0) rfl rfl ap22 RI.one h55 (rfl) h0 hx57 rfl ?_; clear hE hS a w; intro a58 c59 cs60 a w h61 hE hS
    refine WL.vS hS hE (runs_plain rfl) (Gives.p hE rfl) rfl ?_; clear hE a; intro a hE
    refine WL.nil ?_
    refine W.ret ?_
    refine finG (fn := Try.f67) (rs := [.tmp 2]) (vs := [_]) hE rfl ⟨rfl, trivial⟩ ?_
    obtain rfl := Option.some.inj hr
    exact ⟨a58, c59, x56.length, cs60, rfl, h61, (rfl), hS⟩
set_option maxHeartbeats 8000000 in
theorem MendRoundmean_1_v1_ok : ∀ {fu : Nat} {w : World} {s : Sg} {R : List HP} {pb0 : Nat} {pb1 : Nat} {pb2 : Nat} {pb3 : Nat} {pb4 : Nat} {x0 : Int} {x1 : Int} {x2 : List Bool} {a_v0 : Option Addr} {c_v0 n_v0 : Nat} {cs_v0 : List Value} {x3 : List Int} {a_v1 : Option Addr} {c_v1 n_v1 : Nat} {cs_v1 : List Value} {x4 : Int} {x5 : Int} {y0 : MendRound} {a_y0_1 : Option Addr} {c_y0_1 : Nat} {a_y0_2 : Option Addr} {c_y0_2 : Nat} {y1 : List Int} {a_y1_0 : Option Addr} {c_y1_0 : Nat} {y2 : Int} {y3 : Int} (_hS : St w s (pt pb0 (.cells #[.int .i64 y0.Period, .slice a_y0_1 y0.Plan.length c_y0_1, .slice a_y0_2 y0.Links.length c_y0_2] 25 (0, 0)) :: pt pb1 (.cells #[.slice a_y1_0 y1.length c_y1_0] 22 (0, 0)) :: pt pb2 (.cells #[.int .i64 y2] 3 (0, 0)) :: pt pb3 (.cells #[.int .i64 y3] 3 (0, 0)) :: pt pb4 (.cells #[.func (.func 83) #[] #[.pointer (some ⟨pb0, 0, none⟩), .pointer (some ⟨pb1, 0, none⟩), .pointer (some ⟨pb2, 0, none⟩), .pointer (some ⟨pb3, 0, none⟩), .pointer (some ⟨pb4, 0, none⟩)]] 121 (0, 0)) :: vecC 4 1 a_v0 c_v0 n_v0 cs_v0 :: vecC 3 1 a_v1 c_v1 n_v1 cs_v1 :: R)) (_h_v0 : Ev 1 RB s cs_v0 x2) (_hn_v0 : x2.length = n_v0) (_h_v1 : Ev 1 (RI .i64) s cs_v1 x3) (_hn_v1 : x3.length = n_v1) (_h_y0_1 : Sl 1 (RI .i64) s a_y0_1 c_y0_1 y0.Plan) (_h_y0_2 : Sl 4 RMendLink s a_y0_2 c_y0_2 y0.Links) (_h_y1_0 : Sl 1 (RI .i64) s a_y1_0 c_y1_0 y1) (_hz_y1_0 : y1 = [] → a_y1_0 = none) {r : (List Bool) × (List Int) × Int × Int} (_hr : MendRoundmean_1_v1 fu x0 x1 x2 x3 x4 x5 y0 y1 y2 y3 = some r),
    Calls Try.prog 83 [.int .i64 x0, .int .i64 x1, .slice a_v0 n_v0 c_v0, .slice a_v1 n_v1 c_v1, .int .i64 x4, .int .i64 x5, .pointer (some ⟨pb0, 0, none⟩), .pointer (some ⟨pb1, 0, none⟩), .pointer (some ⟨pb2, 0, none⟩), .pointer (some ⟨pb3, 0, none⟩), .pointer (some ⟨pb4, 0, none⟩)].toArray w (fun e w => ∃ (cs68 : List Value) (a71 : Option Addr) (c72 : Nat) (t : Sg), e = .returned (.tuple #[]) ∧ s.Le t ∧ Ev 1 RB t cs68 r.1 ∧ r.1.length = n_v0 ∧ Sl 1 (RI .i64) t a71 c72 r.2.1 ∧ (r.2.1 = [] → a71 = none) ∧ St w t (pt pb0 (.cells #[.int .i64 y0.Period, .slice a_y0_1 y0.Plan.length c_y0_1, .slice a_y0_2 y0.Links.length c_y0_2] 25 (0, 0)) :: pt pb1 (.cells #[.slice a71 r.2.1.length c72] 22 (0, 0)) :: pt pb2 (.cells #[.int .i64 r.2.2.1] 3 (0, 0)) :: pt pb3 (.cells #[.int .i64 r.2.2.2] 3 (0, 0)) :: pt pb4 (.cells #[.func (.func 83) #[] #[.pointer (some ⟨pb0, 0, none⟩), .pointer (some ⟨pb1, 0, none⟩), .pointer (some ⟨pb2, 0, none⟩), .pointer (some ⟨pb3, 0, none⟩), .pointer (some ⟨pb4, 0, none⟩)]] 121 (0, 0)) :: vecC 4 1 a_v0 c_v0 n_v0 cs68 :: vecC 3 1 a_v1 c_v1 n_v1 cs_v1 :: R)) := by
  intro fu
  induction fu with
  | zero => intro w s R pb0 pb1 pb2 pb3 pb4 x0 x1 x2 a_v0 c_v0 n_v0 cs_v0 x3 a_v1 c_v1 n_v1 cs_v1 x4 x5 y0 a_y0_1 c_y0_1 a_y0_2 c_y0_2 y1 a_y1_0 c_y1_0 y2 y3 hS h_v0 hn_v0 h_v1 hn_v1 h_y0_1 h_y0_2 h_y1_0 hz_y1_0 r hr; rw [MendRoundmean_1_v1] at hr; exact absurd hr (by simp)
  | succ fu ih_MendRoundmean_1_v1 =>
    intro w s R pb0 pb1 pb2 pb3 pb4 x0 x1 x2 a_v0 c_v0 n_v0 cs_v0 x3 a_v1 c_v1 n_v1 cs_v1 x4 x5 y0 a_y0_1 c_y0_1 a_y0_2 c_y0_2 y1 a_y1_0 c_y1_0 y2 y3 hS h_v0 hn_v0 h_v1 hn_v1 h_y0_1 h_y0_2 h_y1_0 hz_y1_0 r hr
    rw [MendRoundmean_1_v1] at hr
    generalize MendRoundmean_1_v1 fu = self_MendRoundmean_1_v1 at hr ih_MendRoundmean_1_v1
    refine enter Try.func83 rfl rfl rfl fun a hE => ?_
    subst hn_v0
    subst hn_v1
    refine W.seq ?_
    refine W.region ?_
    refine WL.vS hS hE (runs_plain rfl) (Gives.fld hE rfl fl25_2) rfl ?_; clear hE a; intro a hE
    refine WL.vS hS hE (runs_plain rfl) (Gives.loadB hE 0 rfl rfl rfl ty23) rfl ?_; clear hE a; intro a hE
    refine WL.vS hS hE (runs_plain rfl) (Gives.len hE rfl sl23) rfl ?_; clear hE a; intro a hE
    refine WL.vS hS hE (runs_plain rfl) (Gives.p hE rfl) rfl ?_; clear hE a; intro a hE
    refine WL.nil ?_
    obtain ⟨q78, hq77, hr⟩ := bindS hr
    refine W.cut (fun a w => ∃ (q88 : List Bool), ∃ (q94 : List Int), ∃ (q99 : Int), ∃ (q100 : Int), ∃ (cs92 : List Value), ∃ (a95 : Option Addr), ∃ (c96 : Nat), ∃ (s86 : Sg), s.Le s86 ∧ (q88, q94, q99, q100) = q78 ∧ Ev 1 RB s86 cs92 q88 ∧ q88.length = x2.length ∧ Sl 1 (RI .i64) s86 a95 c96 q94 ∧ (q94 = [] → a95 = none) ∧ Rep a 102 [] ∧ St w s86 (pt pb0 (.cells #[.int .i64 y0.Period, .slice a_y0_1 y0.Plan.length c_y0_1, .slice a_y0_2 y0.Links.length c_y0_2] 25 (0, 0)) :: pt pb1 (.cells #[.slice a95 q94.length c96] 22 (0, 0)) :: pt pb2 (.cells #[.int .i64 q99] 3 (0, 0)) :: pt pb3 (.cells #[.int .i64 q100] 3 (0, 0)) :: pt pb4 (.cells #[.func (.func 83) #[] #[.pointer (some ⟨pb0, 0, none⟩), .pointer (some ⟨pb1, 0, none⟩), .pointer (some ⟨pb2, 0, none⟩), .pointer (some ⟨pb3, 0, none⟩), .pointer (some ⟨pb4, 0, none⟩)]] 121 (0, 0)) :: vecC 4 1 a_v0 c_v0 x2.length cs92 :: vecC 3 1 a_v1 c_v1 x3.length cs_v1 :: R)) ?_ ?_
    · refine W.block ?_
      refine W.loop (fun m a w => ∃ (rest81 : List MendLink) (k79 : Nat), ∃ (q88 : List Bool), ∃ (q94 : List Int), ∃ (q99 : Int), ∃ (q100 : Int), ∃ (cs92 : List Value), ∃ (a95 : Option Addr), ∃ (c96 : Nat), ∃ (s86 : Sg), rest81.length = m ∧ y0.Links.drop k79 = rest81 ∧ s.Le s86 ∧ MendRoundmean_1_v1.loop1 x0 x1 x3 x4 x5 y0 self_MendRoundmean_1_v1 rest81 k79 q88 q94 q99 q100 = some q78 ∧ Ev 1 RB s86 cs92 q88 ∧ q88.length = x2.length ∧ Sl 1 (RI .i64) s86 a95 c96 q94 ∧ (q94 = [] → a95 = none) ∧ Rep a 102 [(0, .int .i64 x0), (1, .int .i64 x1), (2, .slice a_v0 x2.length c_v0), (3, .slice a_v1 x3.length c_v1), (4, .int .i64 x4), (5, .int .i64 x5), (7, .pointer (some ⟨pb1, 0, none⟩)), (8, .pointer (some ⟨pb2, 0, none⟩)), (9, .pointer (some ⟨pb3, 0, none⟩)), (10, .pointer (some ⟨pb4, 0, none⟩)), (22, .slice a_y0_2 y0.Links.length c_y0_2), (23, .int .i64 ((y0.Links).length : Int)), (24, .int .i64 ((k79 : Nat) : Int))] ∧ St w s86 (pt pb0 (.cells #[.int .i64 y0.Period, .slice a_y0_1 y0.Plan.length c_y0_1, .slice a_y0_2 y0.Links.length c_y0_2] 25 (0, 0)) :: pt pb1 (.cells #[.slice a95 q94.length c96] 22 (0, 0)) :: pt pb2 (.cells #[.int .i64 q99] 3 (0, 0)) :: pt pb3 (.cells #[.int .i64 q100] 3 (0, 0)) :: pt pb4 (.cells #[.func (.func 83) #[] #[.pointer (some ⟨pb0, 0, none⟩), .pointer (some ⟨pb1, 0, none⟩), .pointer (some ⟨pb2, 0, none⟩), .pointer (some ⟨pb3, 0, none⟩), .pointer (some ⟨pb4, 0, none⟩)]] 121 (0, 0)) :: vecC 4 1 a_v0 c_v0 x2.length cs92 :: vecC 3 1 a_v1 c_v1 x3.length cs_v1 :: R)) (m := y0.Links.length) ⟨y0.Links, 0, x2, y1, y2, y3, cs_v0, a_y1_0, c_y1_0, s, rfl, rfl, (Sg.Le.refl _), hq77, h_v0, (rfl), h_y1_0, hz_y1_0, hE.pick _ ⟨rfl, rfl, rfl, rfl, rfl, rfl, rfl, rfl, rfl, rfl, rfl, rfl, rfl, trivial⟩, hS⟩ ?_
      clear hE hS a w hq77; rintro m85 a w ⟨rest81, k79, q88, q94, q99, q100, cs92, a95, c96, s86, rfl, hd82, hle87, hq77, h91, hn93, h97, hz98, hE, hS⟩
      refine W.gen fun K101 hK101 => ?_
      replace h_y0_2 := Sl.mono RMendLink.mono hle87 h_y0_2
      replace h_y0_1 := Sl.mono RI.mono hle87 h_y0_1
      replace h_y1_0 := Sl.mono RI.mono hle87 h_y1_0
      replace h_v0 := Ev.mono RB.mono hle87 h_v0
      replace h_v1 := Ev.mono RI.mono hle87 h_v1
      rcases rest81 with _ | ⟨x80, rest81⟩
      · have hlt83 := drop_nil hd82
        refine W.seq ?_
        refine W.region ?_
        refine WL.vS hS hE (runs_plain rfl) (Gives.p hE rfl) rfl ?_; clear hE a; intro a hE
        refine WL.nil ?_
        refine W.seq ?_
        refine W.condF hE rfl (decide_eq_false (by omega)) ?_
        subst hK101
        refine W.exit rfl ?_
        exact ⟨q88, q94, q99, q100, cs92, a95, c96, s86, hle87, Option.some.inj hq77, h91, hn93, h97, hz98, hE.pick _ trivial, hS⟩
      · obtain ⟨hlt83, hx84, hd82⟩ := drop_cons hd82
        rw [MendRoundmean_1_v1.loop1] at hq77
        refine W.seq ?_
        refine W.region ?_
        refine WL.vS hS hE (runs_plain rfl) (Gives.p hE rfl) rfl ?_; clear hE a; intro a hE
        refine WL.nil ?_
        refine W.seq ?_
        refine W.condT hE rfl (decide_eq_true (by omega)) ?_
        refine W.skip ?_
        refine W.seq ?_
        refine W.block ?_
        refine W.seq ?_
        refine W.region ?_
        refine WL.vS hS hE (runs_plain rfl) (Gives.p hE rfl) rfl ?_; clear hE a; intro a hE
        obtain ⟨cs102, hl103, hR104, hat105⟩ := h_y0_2.at hx84
        subst hR104
        refine WL.vS hS hE (runs_plain rfl) (Gives.idx hE k79 rfl rfl sl23 rfl hlt83 (h_y0_2.aok hlt83)) rfl ?_; clear hE a; intro a hE
        refine WL.vS hS hE (runs_plain rfl) (Gives.loadA hE rfl (fun w h => hat105 w _ h) ty36) rfl ?_; clear hE a; intro a hE
        refine WL.alloc hE hS (runs_plain rfl) zr36 rfl ?_; clear hE hS a w; intro b106 a w hE hS
        refine WL.vS hS hE (runs_plain rfl) (Gives.p hE rfl) rfl ?_; clear hE a; intro a hE
        refine WL.storeI hE hS 0 rfl (MendLink.cells x80) (runs_plain rfl) rfl rfl rfl ty36 rfl rfl rfl rfl ?_; clear hE hS a w; intro a w hE hS
        refine WL.nil ?_
        refine W.seq ?_
        refine W.seq ?_
        obtain ⟨q108, hq107, hq77⟩ := bndS hq77
        refine W.cut (fun a w => ∃ (q111 : Bool), q111 = q108 ∧ Rep a 102 [(0, .int .i64 x0), (1, .int .i64 x1), (2, .slice a_v0 x2.length c_v0), (3, .slice a_v1 x3.length c_v1), (4, .int .i64 x4), (5, .int .i64 x5), (7, .pointer (some ⟨pb1, 0, none⟩)), (8, .pointer (some ⟨pb2, 0, none⟩)), (9, .pointer (some ⟨pb3, 0, none⟩)), (10, .pointer (some ⟨pb4, 0, none⟩)), (17, .int .i64 ((k79 : Nat) : Int)), (18, .pointer (some ⟨b106, 0, none⟩)), (22, .slice a_y0_2 y0.Links.length c_y0_2), (23, .int .i64 ((y0.Links).length : Int)), (24, .int .i64 ((k79 : Nat) : Int)), (38, .bool q111)] ∧ St w s86 (pt b106 (.cells (MendLink.cells x80).toArray 36 (0, 0)) :: pt pb0 (.cells #[.int .i64 y0.Period, .slice a_y0_1 y0.Plan.length c_y0_1, .slice a_y0_2 y0.Links.length c_y0_2] 25 (0, 0)) :: pt pb1 (.cells #[.slice a95 q94.length c96] 22 (0, 0)) :: pt pb2 (.cells #[.int .i64 q99] 3 (0, 0)) :: pt pb3 (.cells #[.int .i64 q100] 3 (0, 0)) :: pt pb4 (.cells #[.func (.func 83) #[] #[.pointer (some ⟨pb0, 0, none⟩), .pointer (some ⟨pb1, 0, none⟩), .pointer (some ⟨pb2, 0, none⟩), .pointer (some ⟨pb3, 0, none⟩), .pointer (some ⟨pb4, 0, none⟩)]] 121 (0, 0)) :: vecC 4 1 a_v0 c_v0 x2.length cs92 :: vecC 3 1 a_v1 c_v1 x3.length cs_v1 :: R)) ?_ ?_
        · refine W.gen fun K112 hK112 => ?_
          refine W.region ?_
          refine WL.vS hS hE (runs_plain rfl) (Gives.fld hE rfl fl36_0) rfl ?_; clear hE a; intro a hE
          refine WL.vS hS hE (runs_plain rfl) (Gives.loadB hE 0 rfl rfl rfl ty3) rfl ?_; clear hE a; intro a hE
          refine WL.vS hS hE (runs_plain rfl) (Gives.p hE rfl) rfl ?_; clear hE a; intro a hE
          refine WL.vS hS hE (runs_plain rfl) (Gives.p hE rfl) rfl ?_; clear hE a; intro a hE
          refine WL.vS hS hE (runs_plain rfl) (Gives.p hE rfl) rfl ?_; clear hE a; intro a hE
          rcases Bool.eq_false_or_eq_true (x80.From != x1) with hg113 | hg113
          · replace hq107 := iteT hg113 hq107
            refine WL.no hE (runs_not hE rfl rfl rfl (by rw [hg113]; decide)) rfl ?_; clear hE a; intro a hE
            refine WL.no hE (runs_not hE rfl rfl rfl (by rw [hg113]; decide)) rfl ?_; clear hE a; intro a hE
            refine WL.no hE (runs_not hE rfl rfl rfl (by rw [hg113]; decide)) rfl ?_; clear hE a; intro a hE
            refine WL.no hE (runs_not hE rfl rfl rfl (by rw [hg113]; decide)) rfl ?_; clear hE a; intro a hE
            refine WL.vS hS hE (runs_plain rfl) (Gives.pickT hE rfl hg113 rfl) rfl ?_; clear hE a; intro a hE
            refine WL.nil ?_
            subst hK112
            exact ⟨true, hq107, hE.pick _ ⟨rfl, rfl, rfl, rfl, rfl, rfl, rfl, rfl, rfl, rfl, rfl, rfl, rfl, rfl, rfl, rfl, trivial⟩, hS⟩
          · replace hq107 := iteF hg113 hq107
            refine WL.vS hS hE (runs_if hE rfl rfl rfl hg113) (Gives.fld hE rfl fl36_1) rfl ?_; clear hE a; intro a hE
            refine WL.vS hS hE (runs_if hE rfl rfl rfl hg113) (Gives.loadB hE 0 rfl rfl rfl ty3) rfl ?_; clear hE a; intro a hE
            refine WL.vS hS hE (runs_if hE rfl rfl rfl hg113) (Gives.p hE rfl) rfl ?_; clear hE a; intro a hE
            refine WL.vS hS hE (runs_if hE rfl rfl rfl hg113) (Gives.p hE rfl) rfl ?_; clear hE a; intro a hE
            refine WL.vS hS hE (runs_plain rfl) (Gives.pickF hE rfl hg113 rfl) rfl ?_; clear hE a; intro a hE
            refine WL.nil ?_
            subst hK112
            exact ⟨decide (x80.To < x0), hq107, hE.pick _ ⟨rfl, rfl, rfl, rfl, rfl, rfl, rfl, rfl, rfl, rfl, rfl, rfl, rfl, rfl, rfl, rfl, trivial⟩, hS⟩
        · clear hE hS a w; rintro a w ⟨q111, rfl, hE, hS⟩
          refine W.cond hE rfl (fun hc114 => ?_) (fun hc114 => ?_)
          · replace hq77 := iteT hc114 hq77
            refine W.exit rfl ?_
            refine W.region ?_
            refine WL.vS hS hE (runs_plain rfl) (Gives.inc hE rfl (by have := h_y0_2.small; omega)) rfl ?_; clear hE a; intro a hE
            refine WL.vS hS hE (runs_plain rfl) (Gives.p hE rfl) rfl ?_; clear hE a; intro a hE
            refine WL.nil ?_
            replace hS := hS.tail
            subst hK101
            exact ⟨rest81.length, Nat.lt_succ_self _, rest81, k79 + 1, q88, q94, q99, q100, cs92, a95, c96, s86, rfl, hd82, hle87, hq77, h91, hn93, h97, hz98, hE.pick _ ⟨rfl, rfl, rfl, rfl, rfl, rfl, rfl, rfl, rfl, rfl, rfl, rfl, rfl, trivial⟩, hS⟩
          · replace hq77 := iteF hc114 hq77
            refine W.skip ?_
            refine W.seq ?_
            refine W.region ?_
            refine WL.vS hS hE (runs_plain rfl) (Gives.fld hE rfl fl36_1) rfl ?_; clear hE a; intro a hE
            refine WL.vS hS hE (runs_plain rfl) (Gives.loadB hE 0 rfl rfl rfl ty3) rfl ?_; clear hE a; intro a hE
            refine WL.vS hS hE (runs_plain rfl) (Gives.p hE rfl) rfl ?_; clear hE a; intro a hE
            refine WL.vS hS hE (runs_plain rfl) (Gives.p hE rfl) rfl ?_; clear hE a; intro a hE
            refine WL.nil ?_
            obtain ⟨q116, hq115, hq77⟩ := bindS hq77
            refine W.cut (fun a w => ∃ (q119 : List Bool), ∃ (q125 : List Int), ∃ (q130 : Int), ∃ (q131 : Int), ∃ (cs123 : List Value), ∃ (a126 : Option Addr), ∃ (c127 : Nat), ∃ (s117 : Sg), s86.Le s117 ∧ (q119, q125, q130, q131) = q116 ∧ Ev 1 RB s117 cs123 q119 ∧ q119.length = x2.length ∧ Sl 1 (RI .i64) s117 a126 c127 q125 ∧ (q125 = [] → a126 = none) ∧ Rep a 102 [(0, .int .i64 x0), (1, .int .i64 x1), (2, .slice a_v0 x2.length c_v0), (3, .slice a_v1 x3.length c_v1), (4, .int .i64 x4), (5, .int .i64 x5), (7, .pointer (some ⟨pb1, 0, none⟩)), (8, .pointer (some ⟨pb2, 0, none⟩)), (9, .pointer (some ⟨pb3, 0, none⟩)), (10, .pointer (some ⟨pb4, 0, none⟩)), (22, .slice a_y0_2 y0.Links.length c_y0_2), (23, .int .i64 ((y0.Links).length : Int)), (24, .int .i64 ((k79 : Nat) : Int))] ∧ St w s117 (pt b106 (.cells (MendLink.cells x80).toArray 36 (0, 0)) :: pt pb0 (.cells #[.int .i64 y0.Period, .slice a_y0_1 y0.Plan.length c_y0_1, .slice a_y0_2 y0.Links.length c_y0_2] 25 (0, 0)) :: pt pb1 (.cells #[.slice a126 q125.length c127] 22 (0, 0)) :: pt pb2 (.cells #[.int .i64 q130] 3 (0, 0)) :: pt pb3 (.cells #[.int .i64 q131] 3 (0, 0)) :: pt pb4 (.cells #[.func (.func 83) #[] #[.pointer (some ⟨pb0, 0, none⟩), .pointer (some ⟨pb1, 0, none⟩), .pointer (some ⟨pb2, 0, none⟩), .pointer (some ⟨pb3, 0, none⟩), .pointer (some ⟨pb4, 0, none⟩)]] 121 (0, 0)) :: vecC 4 1 a_v0 c_v0 x2.length cs123 :: vecC 3 1 a_v1 c_v1 x3.length cs_v1 :: R)) ?_ ?_
            · refine W.gen fun K132 hK132 => ?_
              refine W.cond hE rfl (fun hc133 => ?_) (fun hc133 => ?_)
              · replace hq115 := iteT hc133 hq115
                refine W.seq ?_
                refine W.regionQ (C := fun w => St w s86 (pt b106 (.cells (MendLink.cells x80).toArray 36 (0, 0)) :: pt pb0 (.cells #[.int .i64 y0.Period, .slice a_y0_1 y0.Plan.length c_y0_1, .slice a_y0_2 y0.Links.length c_y0_2] 25 (0, 0)) :: pt pb1 (.cells #[.slice a95 q94.length c96] 22 (0, 0)) :: pt pb2 (.cells #[.int .i64 q99] 3 (0, 0)) :: pt pb3 (.cells #[.int .i64 q100] 3 (0, 0)) :: pt pb4 (.cells #[.func (.func 83) #[] #[.pointer (some ⟨pb0, 0, none⟩), .pointer (some ⟨pb1, 0, none⟩), .pointer (some ⟨pb2, 0, none⟩), .pointer (some ⟨pb3, 0, none⟩), .pointer (some ⟨pb4, 0, none⟩)]] 121 (0, 0)) :: vecC 4 1 a_v0 c_v0 x2.length cs92 :: vecC 3 1 a_v1 c_v1 x3.length cs_v1 :: R)) mixed (by kernel_rfl) hS.drew ?_
                refine QL.v hE (runs_plain rfl) (Gives.p hE rfl) rfl ?_; clear hE a; intro a hE
                refine QL.v hE (runs_plain rfl) (Gives.fld hE rfl fl36_2) rfl ?_; clear hE a; intro a hE
                refine QL.v hE (runs_plain rfl) (Gives.loadB hE 0 rfl rfl rfl ty3) rfl ?_; clear hE a; intro a hE
                refine QL.v hE (runs_plain rfl) (Gives.p hE rfl) rfl ?_; clear hE a; intro a hE
                refine QL.v hE (runs_plain rfl) (Gives.p hE rfl) rfl ?_; clear hE a; intro a hE
                refine QL.v hE (runs_plain rfl) (Gives.fld hE rfl fl36_3) rfl ?_; clear hE a; intro a hE
                refine QL.v hE (runs_plain rfl) (Gives.loadB hE 0 rfl rfl rfl ty3) rfl ?_; clear hE a; intro a hE
                refine QL.v hE (runs_plain rfl) (Gives.p hE rfl) rfl ?_; clear hE a; intro a hE
                refine QL.v hE (runs_plain rfl) (Gives.p hE rfl) rfl ?_; clear hE a; intro a hE
                refine QL.v hE (runs_plain rfl) (Gives.p hE rfl) rfl ?_; clear hE a; intro a hE
                refine QL.nil ?_; clear hS w; intro w hS
                refine W.seq ?_
                obtain ⟨q135, hq134, hq115⟩ := bndS hq115
                refine W.cut (fun a w => ∃ (q138 : Bool), q138 = q135 ∧ Rep a 102 [(0, .int .i64 x0), (1, .int .i64 x1), (2, .slice a_v0 x2.length c_v0), (3, .slice a_v1 x3.length c_v1), (4, .int .i64 x4), (5, .int .i64 x5), (7, .pointer (some ⟨pb1, 0, none⟩)), (8, .pointer (some ⟨pb2, 0, none⟩)), (9, .pointer (some ⟨pb3, 0, none⟩)), (10, .pointer (some ⟨pb4, 0, none⟩)), (17, .int .i64 ((k79 : Nat) : Int)), (19, .int .i64 (w64 (x4 + x80.Len))), (20, .int .i64 (w64 (x5 + x80.Back))), (22, .slice a_y0_2 y0.Links.length c_y0_2), (23, .int .i64 ((y0.Links).length : Int)), (24, .int .i64 ((k79 : Nat) : Int)), (61, .bool q138)] ∧ St w s86 (pt b106 (.cells (MendLink.cells x80).toArray 36 (0, 0)) :: pt pb0 (.cells #[.int .i64 y0.Period, .slice a_y0_1 y0.Plan.length c_y0_1, .slice a_y0_2 y0.Links.length c_y0_2] 25 (0, 0)) :: pt pb1 (.cells #[.slice a95 q94.length c96] 22 (0, 0)) :: pt pb2 (.cells #[.int .i64 q99] 3 (0, 0)) :: pt pb3 (.cells #[.int .i64 q100] 3 (0, 0)) :: pt pb4 (.cells #[.func (.func 83) #[] #[.pointer (some ⟨pb0, 0, none⟩), .pointer (some ⟨pb1, 0, none⟩), .pointer (some ⟨pb2, 0, none⟩), .pointer (some ⟨pb3, 0, none⟩), .pointer (some ⟨pb4, 0, none⟩)]] 121 (0, 0)) :: vecC 4 1 a_v0 c_v0 x2.length cs92 :: vecC 3 1 a_v1 c_v1 x3.length cs_v1 :: R)) ?_ ?_
                · refine W.gen fun K139 hK139 => ?_
                  refine W.region ?_
                  refine WL.vS hS hE (runs_plain rfl) (Gives.loadB hE 2 rfl rfl rfl ty22) rfl ?_; clear hE a; intro a hE
                  refine WL.vS hS hE (runs_plain rfl) (Gives.isNilZ hE (isNone_eq h97 hz98) rfl rfl isl22) rfl ?_; clear hE a; intro a hE
                  refine WL.vS hS hE (runs_plain rfl) (Gives.p hE rfl) rfl ?_; clear hE a; intro a hE
                  rcases Bool.eq_false_or_eq_true q94.isEmpty with hg140 | hg140
                  · replace hq134 := iteT hg140 hq134
                    refine WL.no hE (runs_not hE rfl rfl rfl (by rw [hg140]; decide)) rfl ?_; clear hE a; intro a hE
                    refine WL.no hE (runs_not hE rfl rfl rfl (by rw [hg140]; decide)) rfl ?_; clear hE a; intro a hE
                    refine WL.no hE (runs_not hE rfl rfl rfl (by rw [hg140]; decide)) rfl ?_; clear hE a; intro a hE
                    refine WL.no hE (runs_not hE rfl rfl rfl (by rw [hg140]; decide)) rfl ?_; clear hE a; intro a hE
                    refine WL.no hE (runs_not hE rfl rfl rfl (by rw [hg140]; decide)) rfl ?_; clear hE a; intro a hE
                    refine WL.no hE (runs_not hE rfl rfl rfl (by rw [hg140]; decide)) rfl ?_; clear hE a; intro a hE
                    refine WL.no hE (runs_not hE rfl rfl rfl (by rw [hg140]; decide)) rfl ?_; clear hE a; intro a hE
                    refine WL.vS hS hE (runs_plain rfl) (Gives.pickT hE rfl hg140 rfl) rfl ?_; clear hE a; intro a hE
                    refine WL.nil ?_
                    subst hK139
                    exact ⟨true, hq134, hE.pick _ ⟨rfl, rfl, rfl, rfl, rfl, rfl, rfl, rfl, rfl, rfl, rfl, rfl, rfl, rfl, rfl, rfl, rfl, trivial⟩, hS⟩
                  · replace hq134 := iteF hg140 hq134
                    refine WL.vS hS hE (runs_if hE rfl rfl rfl hg140) (Gives.p hE rfl) rfl ?_; clear hE a; intro a hE
                    refine WL.vS hS hE (runs_if hE rfl rfl rfl hg140) (Gives.loadB hE 3 rfl rfl rfl ty3) rfl ?_; clear hE a; intro a hE
                    refine WL.vS hS hE (runs_if hE rfl rfl rfl hg140) (Gives.p hE rfl) rfl ?_; clear hE a; intro a hE
                    refine WL.vS hS hE (runs_if hE rfl rfl rfl hg140) (Gives.loadB hE 4 rfl rfl rfl ty3) rfl ?_; clear hE a; intro a hE
                    refine WL.vS hS hE (runs_if hE rfl rfl rfl hg140) (Gives.p hE rfl) rfl ?_; clear hE a; intro a hE
                    refine WL.vS hS hE (runs_if hE rfl rfl rfl hg140) (Gives.p hE rfl) rfl ?_; clear hE a; intro a hE
                    refine WL.vS hS hE (runs_if hE rfl rfl rfl hg140) (Gives.p hE rfl) rfl ?_; clear hE a; intro a hE
                    refine WL.vS hS hE (runs_plain rfl) (Gives.pickF hE rfl hg140 rfl) rfl ?_; clear hE a; intro a hE
                    refine WL.nil ?_
                    subst hK139
                    exact ⟨decide ((w64 ((w64 (x4 + x80.Len)) * q99)) > (w64 (q100 * (w64 (x5 + x80.Back))))), hq134, hE.pick _ ⟨rfl, rfl, rfl, rfl, rfl, rfl, rfl, rfl, rfl, rfl, rfl, rfl, rfl, rfl, rfl, rfl, rfl, trivial⟩, hS⟩
                · clear hE hS a w; rintro a w ⟨q138, rfl, hE, hS⟩
                  obtain ⟨q142, hq141, hq115⟩ := bindS hq115
                  refine W.cut (fun a w => ∃ (q145 : List Int), ∃ (q150 : Int), ∃ (q151 : Int), ∃ (a146 : Option Addr), ∃ (c147 : Nat), ∃ (s143 : Sg), s86.Le s143 ∧ (q145, q150, q151) = q142 ∧ Sl 1 (RI .i64) s143 a146 c147 q145 ∧ (q145 = [] → a146 = none) ∧ Rep a 102 [(0, .int .i64 x0), (1, .int .i64 x1), (2, .slice a_v0 x2.length c_v0), (3, .slice a_v1 x3.length c_v1), (4, .int .i64 x4), (5, .int .i64 x5), (7, .pointer (some ⟨pb1, 0, none⟩)), (8, .pointer (some ⟨pb2, 0, none⟩)), (9, .pointer (some ⟨pb3, 0, none⟩)), (10, .pointer (some ⟨pb4, 0, none⟩)), (22, .slice a_y0_2 y0.Links.length c_y0_2), (23, .int .i64 ((y0.Links).length : Int)), (24, .int .i64 ((k79 : Nat) : Int))] ∧ St w s143 (pt b106 (.cells (MendLink.cells x80).toArray 36 (0, 0)) :: pt pb0 (.cells #[.int .i64 y0.Period, .slice a_y0_1 y0.Plan.length c_y0_1, .slice a_y0_2 y0.Links.length c_y0_2] 25 (0, 0)) :: pt pb1 (.cells #[.slice a146 q145.length c147] 22 (0, 0)) :: pt pb2 (.cells #[.int .i64 q150] 3 (0, 0)) :: pt pb3 (.cells #[.int .i64 q151] 3 (0, 0)) :: pt pb4 (.cells #[.func (.func 83) #[] #[.pointer (some ⟨pb0, 0, none⟩), .pointer (some ⟨pb1, 0, none⟩), .pointer (some ⟨pb2, 0, none⟩), .pointer (some ⟨pb3, 0, none⟩), .pointer (some ⟨pb4, 0, none⟩)]] 121 (0, 0)) :: vecC 4 1 a_v0 c_v0 x2.length cs92 :: vecC 3 1 a_v1 c_v1 x3.length cs_v1 :: R)) ?_ ?_
                  · refine W.gen fun K152 hK152 => ?_
                    refine W.cond hE rfl (fun hc153 => ?_) (fun hc153 => ?_)
                    · replace hq141 := iteT hc153 hq141
                      refine W.region ?_
                      refine WL.vS hS hE (runs_plain rfl) (Gives.p hE rfl) rfl ?_; clear hE a; intro a hE
                      refine WL.vS hS hE (runs_plain rfl) (Gives.p hE rfl) rfl ?_; clear hE a; intro a hE
                      refine WL.vS hS hE (runs_plain rfl) (Gives.p hE rfl) rfl ?_; clear hE a; intro a hE
                      obtain ⟨q154, hq155, hq141⟩ := bindS hq141
                      have hF := hS.lendV RI.mono 7 rfl h_v1 (rfl); clear hS; obtain ⟨t162, hle163, hS, hs164, bk165⟩ := hF
                      have hc_ := SlicesCloneLint_ok hS hs164 hq155
                      refine WL.fnq hE (hc_) (runs_plain rfl) bd67 rfl rfl rfl ?_
                      clear hE hS hc_; rintro e w ⟨a156, c157, n158, cs159, rfl, h160, rfl, hS⟩; refine ⟨_, rfl, ?_⟩; clear a; intro a hE
                      replace hS := bk165 _ _ hS
                      replace h160 := Ev.flat (s2 := s86) (fun _ _ _ _ h => h) h160
                      refine WL.vS hS hE (runs_plain rfl) (Gives.p hE rfl) rfl ?_; clear hE a; intro a hE
                      refine WL.lit hE hS (e := 3) (es := 1) (vs := [(0, .int .i64 ((k79 : Nat) : Int))]) (cs := [.int .i64 ((k79 : Nat) : Int)]) (runs_plain rfl) rfl (by kernel_rfl) rfl ?_; clear hE hS a w; intro b166 a w hE hS
                      obtain ⟨x167, hx168, hq141⟩ := bindS hq141
                      refine WL.appD hE hS 1 (m := 1) (runs_plain rfl) rfl rfl rfl ap22 rfl h160 rfl (xs := [((k79 : Nat) : Int)]) (Ev.cons (c1 := [.int .i64 ((k79 : Nat) : Int)]) rfl rfl (Ev.nil)) rfl rfl hx168 rfl ?_; clear hE hS a w; intro a169 c170 cs171 a w h172 hE hS
                      refine WL.storeI hE hS 6 rfl [.int .i64 (w64 (x4 + x80.Len))] (runs_plain rfl) rfl rfl rfl ty3 rfl rfl rfl rfl ?_; clear hE hS a w; intro a w hE hS
                      refine WL.storeI hE hS 5 rfl [.int .i64 (w64 (x5 + x80.Back))] (runs_plain rfl) rfl rfl rfl ty3 rfl rfl rfl rfl ?_; clear hE hS a w; intro a w hE hS
                      have hF := hS.fixD RI.mono 1 rfl h172 (rfl); clear hS; obtain ⟨s173, hle174, hS, h175⟩ := hF
                      replace h_y0_2 := Sl.mono RMendLink.mono hle174 h_y0_2
                      replace h_v1 := Ev.mono RI.mono hle174 h_v1
                      replace h_y0_1 := Sl.mono RI.mono hle174 h_y0_1
                      replace h97 := Sl.mono RI.mono hle174 h97
                      replace h91 := Ev.mono RB.mono hle174 h91
                      obtain ⟨_, hx176, hq141⟩ := bindS hq141
                      refine WL.storeI hE hS 3 rfl [.slice a169 x167.length c170] (runs_plain rfl) rfl rfl rfl ty22 rfl rfl rfl rfl ?_; clear hE hS a w; intro a w hE hS
                      refine WL.nil ?_
                      replace hS := hS.front 7 rfl
                      replace hS := hS.front 7 rfl
                      replace hS := hS.front 7 rfl
                      replace hS := hS.front 7 rfl
                      replace hS := hS.front 7 rfl
                      replace hS := hS.front 7 rfl
                      replace hS := hS.front 7 rfl
                      subst hK152
                      exact ⟨x167, w64 (x5 + x80.Back), w64 (x4 + x80.Len), a169, c170, s173, hle174, Option.some.inj hq141, h175, (nz_some hx176), hE.pick _ ⟨rfl, rfl, rfl, rfl, rfl, rfl, rfl, rfl, rfl, rfl, rfl, rfl, rfl, trivial⟩, hS⟩
                    · replace hq141 := iteF hc153 hq141
                      refine W.skip ?_
                      subst hK152
                      exact ⟨q94, q99, q100, a95, c96, s86, (Sg.Le.refl _), Option.some.inj hq141, h97, hz98, hE.pick _ ⟨rfl, rfl, rfl, rfl, rfl, rfl, rfl, rfl, rfl, rfl, rfl, rfl, rfl, trivial⟩, hS⟩
                  · clear hE hS a w; rintro a w ⟨q145, q150, q151, a146, c147, s143, hle144, rfl, h148, hz149, hE, hS⟩
                    dsimp only at hq115
                    replace h_y0_2 := Sl.mono RMendLink.mono hle144 h_y0_2
                    replace h_y0_1 := Sl.mono RI.mono hle144 h_y0_1
                    replace h97 := Sl.mono RI.mono hle144 h97
                    replace h91 := Ev.mono RB.mono hle144 h91
                    replace h_v1 := Ev.mono RI.mono hle144 h_v1
                    subst hK132
                    exact ⟨q88, q145, q150, q151, cs92, a146, c147, s143, hle144, Option.some.inj hq115, h91, hn93, h148, hz149, hE.pick _ ⟨rfl, rfl, rfl, rfl, rfl, rfl, rfl, rfl, rfl, rfl, rfl, rfl, rfl, trivial⟩, hS⟩
              · replace hq115 := iteF hc133 hq115
                refine W.seq ?_
                refine W.region ?_
                refine WL.vS hS hE (runs_plain rfl) (Gives.p hE rfl) rfl ?_; clear hE a; intro a hE
                refine WL.vS hS hE (runs_plain rfl) (Gives.fld hE rfl fl36_1) rfl ?_; clear hE a; intro a hE
                refine WL.vS hS hE (runs_plain rfl) (Gives.loadB hE 0 rfl rfl rfl ty3) rfl ?_; clear hE a; intro a hE
                obtain ⟨x177, hx178, hq115⟩ := bindS hq115
                obtain ⟨hi179, hlt180, hy181⟩ := gx_some hx178
                obtain ⟨vs182, hl183, hR184, hd185, hget186⟩ := h91.at hy181
                subst hR184
                refine WL.vS hS hE (runs_plain rfl) (Gives.idx hE ((x80.To).toNat) rfl rfl sl82 hi179 (by have := hn93; omega) (hS.vecAok 6 rfl (by have := hn93; omega : (x80.To).toNat < x2.length))) rfl ?_; clear hE a; intro a hE
                refine WL.vS hS hE (runs_plain rfl) (Gives.load1 hE rfl (fun w h => St.vecSees h 6 rfl ((x80.To).toNat * 1) _ hget186) ty4) rfl ?_; clear hE a; intro a hE
                refine WL.vS hS hE (runs_plain rfl) (Gives.p hE rfl) rfl ?_; clear hE a; intro a hE
                refine WL.nil ?_
                obtain ⟨q188, hq187, hq115⟩ := bindS hq115
                refine W.cut (fun a w => ∃ (q191 : List Bool), ∃ (q197 : List Int), ∃ (q202 : Int), ∃ (q203 : Int), ∃ (cs195 : List Value), ∃ (a198 : Option Addr), ∃ (c199 : Nat), ∃ (s189 : Sg), s86.Le s189 ∧ (q191, q197, q202, q203) = q188 ∧ Ev 1 RB s189 cs195 q191 ∧ q191.length = x2.length ∧ Sl 1 (RI .i64) s189 a198 c199 q197 ∧ (q197 = [] → a198 = none) ∧ Rep a 102 [(0, .int .i64 x0), (1, .int .i64 x1), (2, .slice a_v0 x2.length c_v0), (3, .slice a_v1 x3.length c_v1), (4, .int .i64 x4), (5, .int .i64 x5), (7, .pointer (some ⟨pb1, 0, none⟩)), (8, .pointer (some ⟨pb2, 0, none⟩)), (9, .pointer (some ⟨pb3, 0, none⟩)), (10, .pointer (some ⟨pb4, 0, none⟩)), (22, .slice a_y0_2 y0.Links.length c_y0_2), (23, .int .i64 ((y0.Links).length : Int)), (24, .int .i64 ((k79 : Nat) : Int))] ∧ St w s189 (pt b106 (.cells (MendLink.cells x80).toArray 36 (0, 0)) :: pt pb0 (.cells #[.int .i64 y0.Period, .slice a_y0_1 y0.Plan.length c_y0_1, .slice a_y0_2 y0.Links.length c_y0_2] 25 (0, 0)) :: pt pb1 (.cells #[.slice a198 q197.length c199] 22 (0, 0)) :: pt pb2 (.cells #[.int .i64 q202] 3 (0, 0)) :: pt pb3 (.cells #[.int .i64 q203] 3 (0, 0)) :: pt pb4 (.cells #[.func (.func 83) #[] #[.pointer (some ⟨pb0, 0, none⟩), .pointer (some ⟨pb1, 0, none⟩), .pointer (some ⟨pb2, 0, none⟩), .pointer (some ⟨pb3, 0, none⟩), .pointer (some ⟨pb4, 0, none⟩)]] 121 (0, 0)) :: vecC 4 1 a_v0 c_v0 x2.length cs195 :: vecC 3 1 a_v1 c_v1 x3.length cs_v1 :: R)) ?_ ?_
                · refine W.gen fun K204 hK204 => ?_
                  refine W.cond hE rfl (fun hc205 => ?_) (fun hc205 => ?_)
                  · replace hq187 := iteT hc205 hq187
                    refine W.seq ?_
                    refine W.region ?_
                    refine WL.vS hS hE (runs_plain rfl) (Gives.p hE rfl) rfl ?_; clear hE a; intro a hE
                    refine WL.vS hS hE (runs_plain rfl) (Gives.fld hE rfl fl36_1) rfl ?_; clear hE a; intro a hE
                    refine WL.vS hS hE (runs_plain rfl) (Gives.loadB hE 0 rfl rfl rfl ty3) rfl ?_; clear hE a; intro a hE
                    obtain ⟨_, hx207, hq187⟩ := bindS hq187
                    obtain ⟨h208, h209⟩ := ix_some hx207
                    refine WL.vS hS hE (runs_plain rfl) (Gives.idx hE ((x80.To).toNat) rfl rfl sl82 h208 (by have := hn93; omega) (hS.vecAok 6 rfl (by have := hn93; omega : (x80.To).toNat < x2.length))) rfl ?_; clear hE a; intro a hE
                    obtain ⟨x211, hx212, hq187⟩ := bindS hq187
                    refine WL.setD hE hS 6 rfl (runs_plain rfl) rfl rfl (vs := [.bool true]) rfl ty4 rfl rfl rfl h91 hn93 (sx_some hx212).1 hx212 rfl rfl ?_; clear hE hS a w; intro cs213 a w h214 hn215 hE hS
                    refine WL.nil ?_
                    refine W.seq ?_
                    refine W.gen fun K216 hK216 => ?_
                    refine W.regionE (sel (fun w => St w s86 (pt b106 (.cells (MendLink.cells x80).toArray 36 (0, 0)) :: pt pb0 (.cells #[.int .i64 y0.Period, .slice a_y0_1 y0.Plan.length c_y0_1, .slice a_y0_2 y0.Links.length c_y0_2] 25 (0, 0)) :: pt pb1 (.cells #[.slice a95 q94.length c96] 22 (0, 0)) :: pt pb2 (.cells #[.int .i64 q99] 3 (0, 0)) :: pt pb3 (.cells #[.int .i64 q100] 3 (0, 0)) :: pt pb4 (.cells #[.func (.func 83) #[] #[.pointer (some ⟨pb0, 0, none⟩), .pointer (some ⟨pb1, 0, none⟩), .pointer (some ⟨pb2, 0, none⟩), .pointer (some ⟨pb3, 0, none⟩), .pointer (some ⟨pb4, 0, none⟩)]] 121 (0, 0)) :: vecC 4 1 a_v0 c_v0 x2.length cs213 :: vecC 3 1 a_v1 c_v1 x3.length cs_v1 :: R)) (fun w => St w s86 (pt b106 (.cells (MendLink.cells x80).toArray 36 (0, 0)) :: pt pb0 (.cells #[.int .i64 y0.Period, .slice a_y0_1 y0.Plan.length c_y0_1, .slice a_y0_2 y0.Links.length c_y0_2] 25 (0, 0)) :: pt pb4 (.cells #[.func (.func 83) #[] #[.pointer (some ⟨pb0, 0, none⟩), .pointer (some ⟨pb1, 0, none⟩), .pointer (some ⟨pb2, 0, none⟩), .pointer (some ⟨pb3, 0, none⟩), .pointer (some ⟨pb4, 0, none⟩)]] 121 (0, 0)) :: R))) (fun b i => cond b ([0, 1, 2, 3, 4, 5, 6, 7, 9, 10, 11, 12, 13, 14, 15, 16].contains i) ([0, 1, 2, 3, 4, 5, 6, 7, 8, 9, 10, 11, 12, 13, 14, 15, 16, 17].contains i)) mixed ?_
                    replace hS := hS.drew
                    have hT := tw_sel (A := fun w => St w s86 (pt b106 (.cells (MendLink.cells x80).toArray 36 (0, 0)) :: pt pb0 (.cells #[.int .i64 y0.Period, .slice a_y0_1 y0.Plan.length c_y0_1, .slice a_y0_2 y0.Links.length c_y0_2] 25 (0, 0)) :: pt pb1 (.cells #[.slice a95 q94.length c96] 22 (0, 0)) :: pt pb2 (.cells #[.int .i64 q99] 3 (0, 0)) :: pt pb3 (.cells #[.int .i64 q100] 3 (0, 0)) :: pt pb4 (.cells #[.func (.func 83) #[] #[.pointer (some ⟨pb0, 0, none⟩), .pointer (some ⟨pb1, 0, none⟩), .pointer (some ⟨pb2, 0, none⟩), .pointer (some ⟨pb3, 0, none⟩), .pointer (some ⟨pb4, 0, none⟩)]] 121 (0, 0)) :: vecC 4 1 a_v0 c_v0 x2.length cs213 :: vecC 3 1 a_v1 c_v1 x3.length cs_v1 :: R)) (B := fun w => St w s86 (pt b106 (.cells (MendLink.cells x80).toArray 36 (0, 0)) :: pt pb0 (.cells #[.int .i64 y0.Period, .slice a_y0_1 y0.Plan.length c_y0_1, .slice a_y0_2 y0.Links.length c_y0_2] 25 (0, 0)) :: pt pb4 (.cells #[.func (.func 83) #[] #[.pointer (some ⟨pb0, 0, none⟩), .pointer (some ⟨pb1, 0, none⟩), .pointer (some ⟨pb2, 0, none⟩), .pointer (some ⟨pb3, 0, none⟩), .pointer (some ⟨pb4, 0, none⟩)]] 121 (0, 0)) :: R)) (w := _) (x := true) (y := true) (fun _ => hS) (fun _ => (((((hS.dropAt 2).dropAt 2).dropAt 2).dropAt 3).dropAt 3))
                    have hF := hS; replace hS := (((((hS.dropAt 2).dropAt 2).dropAt 2).dropAt 3).dropAt 3)
                    refine Rg.take (i := 0) false rfl hE rfl (by kernel_rfl) (runs_plain rfl) (Gives.loadB hE 2 rfl rfl rfl ty121) rfl hT ?_; clear hE a; intro a hE
                    replace hS := hF; clear hF hT
                    refine Rg.takeP (i := 1) hE rfl (by kernel_rfl) (runs_plain rfl) (Gives.p hE rfl) rfl (tw_sel (fun _ => hS) (fun _ => (((((hS.dropAt 2).dropAt 2).dropAt 2).dropAt 3).dropAt 3))) ?_; clear hE a; intro a hE
                    refine Rg.takeP (i := 2) hE rfl (by kernel_rfl) (runs_plain rfl) (Gives.fld hE rfl fl36_1) rfl (tw_sel (fun _ => hS) (fun _ => (((((hS.dropAt 2).dropAt 2).dropAt 2).dropAt 3).dropAt 3))) ?_; clear hE a; intro a hE
                    have hT := tw_sel (A := fun w => St w s86 (pt b106 (.cells (MendLink.cells x80).toArray 36 (0, 0)) :: pt pb0 (.cells #[.int .i64 y0.Period, .slice a_y0_1 y0.Plan.length c_y0_1, .slice a_y0_2 y0.Links.length c_y0_2] 25 (0, 0)) :: pt pb1 (.cells #[.slice a95 q94.length c96] 22 (0, 0)) :: pt pb2 (.cells #[.int .i64 q99] 3 (0, 0)) :: pt pb3 (.cells #[.int .i64 q100] 3 (0, 0)) :: pt pb4 (.cells #[.func (.func 83) #[] #[.pointer (some ⟨pb0, 0, none⟩), .pointer (some ⟨pb1, 0, none⟩), .pointer (some ⟨pb2, 0, none⟩), .pointer (some ⟨pb3, 0, none⟩), .pointer (some ⟨pb4, 0, none⟩)]] 121 (0, 0)) :: vecC 4 1 a_v0 c_v0 x2.length cs213 :: vecC 3 1 a_v1 c_v1 x3.length cs_v1 :: R)) (B := fun w => St w s86 (pt b106 (.cells (MendLink.cells x80).toArray 36 (0, 0)) :: pt pb0 (.cells #[.int .i64 y0.Period, .slice a_y0_1 y0.Plan.length c_y0_1, .slice a_y0_2 y0.Links.length c_y0_2] 25 (0, 0)) :: pt pb4 (.cells #[.func (.func 83) #[] #[.pointer (some ⟨pb0, 0, none⟩), .pointer (some ⟨pb1, 0, none⟩), .pointer (some ⟨pb2, 0, none⟩), .pointer (some ⟨pb3, 0, none⟩), .pointer (some ⟨pb4, 0, none⟩)]] 121 (0, 0)) :: R)) (w := _) (x := true) (y := true) (fun _ => hS) (fun _ => (((((hS.dropAt 2).dropAt 2).dropAt 2).dropAt 3).dropAt 3))
                    have hF := hS; replace hS := (((((hS.dropAt 2).dropAt 2).dropAt 2).dropAt 3).dropAt 3)
                    refine Rg.take (i := 3) false rfl hE rfl (by kernel_rfl) (runs_plain rfl) (Gives.loadB hE 0 rfl rfl rfl ty3) rfl hT ?_; clear hE a; intro a hE
                    replace hS := hF; clear hF hT
                    refine Rg.takeP (i := 4) hE rfl (by kernel_rfl) (runs_plain rfl) (Gives.p hE rfl) rfl (tw_sel (fun _ => hS) (fun _ => (((((hS.dropAt 2).dropAt 2).dropAt 2).dropAt 3).dropAt 3))) ?_; clear hE a; intro a hE
                    refine Rg.takeP (i := 5) hE rfl (by kernel_rfl) (runs_plain rfl) (Gives.p hE rfl) rfl (tw_sel (fun _ => hS) (fun _ => (((((hS.dropAt 2).dropAt 2).dropAt 2).dropAt 3).dropAt 3))) ?_; clear hE a; intro a hE
                    refine Rg.takeP (i := 6) hE rfl (by kernel_rfl) (runs_plain rfl) (Gives.p hE rfl) rfl (tw_sel (fun _ => hS) (fun _ => (((((hS.dropAt 2).dropAt 2).dropAt 2).dropAt 3).dropAt 3))) ?_; clear hE a; intro a hE
                    refine Rg.takeP (i := 9) hE rfl (by kernel_rfl) (runs_plain rfl) (Gives.p hE rfl) rfl (tw_sel (fun _ => hS) (fun _ => (((((hS.dropAt 2).dropAt 2).dropAt 2).dropAt 3).dropAt 3))) ?_; clear hE a; intro a hE
                    refine Rg.takeP (i := 10) hE rfl (by kernel_rfl) (runs_plain rfl) (Gives.fld hE rfl fl36_2) rfl (tw_sel (fun _ => hS) (fun _ => (((((hS.dropAt 2).dropAt 2).dropAt 2).dropAt 3).dropAt 3))) ?_; clear hE a; intro a hE
                    have hT := tw_sel (A := fun w => St w s86 (pt b106 (.cells (MendLink.cells x80).toArray 36 (0, 0)) :: pt pb0 (.cells #[.int .i64 y0.Period, .slice a_y0_1 y0.Plan.length c_y0_1, .slice a_y0_2 y0.Links.length c_y0_2] 25 (0, 0)) :: pt pb1 (.cells #[.slice a95 q94.length c96] 22 (0, 0)) :: pt pb2 (.cells #[.int .i64 q99] 3 (0, 0)) :: pt pb3 (.cells #[.int .i64 q100] 3 (0, 0)) :: pt pb4 (.cells #[.func (.func 83) #[] #[.pointer (some ⟨pb0, 0, none⟩), .pointer (some ⟨pb1, 0, none⟩), .pointer (some ⟨pb2, 0, none⟩), .pointer (some ⟨pb3, 0, none⟩), .pointer (some ⟨pb4, 0, none⟩)]] 121 (0, 0)) :: vecC 4 1 a_v0 c_v0 x2.length cs213 :: vecC 3 1 a_v1 c_v1 x3.length cs_v1 :: R)) (B := fun w => St w s86 (pt b106 (.cells (MendLink.cells x80).toArray 36 (0, 0)) :: pt pb0 (.cells #[.int .i64 y0.Period, .slice a_y0_1 y0.Plan.length c_y0_1, .slice a_y0_2 y0.Links.length c_y0_2] 25 (0, 0)) :: pt pb4 (.cells #[.func (.func 83) #[] #[.pointer (some ⟨pb0, 0, none⟩), .pointer (some ⟨pb1, 0, none⟩), .pointer (some ⟨pb2, 0, none⟩), .pointer (some ⟨pb3, 0, none⟩), .pointer (some ⟨pb4, 0, none⟩)]] 121 (0, 0)) :: R)) (w := _) (x := true) (y := true) (fun _ => hS) (fun _ => (((((hS.dropAt 2).dropAt 2).dropAt 2).dropAt 3).dropAt 3))
                    have hF := hS; replace hS := (((((hS.dropAt 2).dropAt 2).dropAt 2).dropAt 3).dropAt 3)
                    refine Rg.take (i := 11) false rfl hE rfl (by kernel_rfl) (runs_plain rfl) (Gives.loadB hE 0 rfl rfl rfl ty3) rfl hT ?_; clear hE a; intro a hE
                    replace hS := hF; clear hF hT
                    refine Rg.takeP (i := 12) hE rfl (by kernel_rfl) (runs_plain rfl) (Gives.p hE rfl) rfl (tw_sel (fun _ => hS) (fun _ => (((((hS.dropAt 2).dropAt 2).dropAt 2).dropAt 3).dropAt 3))) ?_; clear hE a; intro a hE
                    refine Rg.takeP (i := 13) hE rfl (by kernel_rfl) (runs_plain rfl) (Gives.p hE rfl) rfl (tw_sel (fun _ => hS) (fun _ => (((((hS.dropAt 2).dropAt 2).dropAt 2).dropAt 3).dropAt 3))) ?_; clear hE a; intro a hE
                    refine Rg.takeP (i := 14) hE rfl (by kernel_rfl) (runs_plain rfl) (Gives.fld hE rfl fl36_3) rfl (tw_sel (fun _ => hS) (fun _ => (((((hS.dropAt 2).dropAt 2).dropAt 2).dropAt 3).dropAt 3))) ?_; clear hE a; intro a hE
                    have hT := tw_sel (A := fun w => St w s86 (pt b106 (.cells (MendLink.cells x80).toArray 36 (0, 0)) :: pt pb0 (.cells #[.int .i64 y0.Period, .slice a_y0_1 y0.Plan.length c_y0_1, .slice a_y0_2 y0.Links.length c_y0_2] 25 (0, 0)) :: pt pb1 (.cells #[.slice a95 q94.length c96] 22 (0, 0)) :: pt pb2 (.cells #[.int .i64 q99] 3 (0, 0)) :: pt pb3 (.cells #[.int .i64 q100] 3 (0, 0)) :: pt pb4 (.cells #[.func (.func 83) #[] #[.pointer (some ⟨pb0, 0, none⟩), .pointer (some ⟨pb1, 0, none⟩), .pointer (some ⟨pb2, 0, none⟩), .pointer (some ⟨pb3, 0, none⟩), .pointer (some ⟨pb4, 0, none⟩)]] 121 (0, 0)) :: vecC 4 1 a_v0 c_v0 x2.length cs213 :: vecC 3 1 a_v1 c_v1 x3.length cs_v1 :: R)) (B := fun w => St w s86 (pt b106 (.cells (MendLink.cells x80).toArray 36 (0, 0)) :: pt pb0 (.cells #[.int .i64 y0.Period, .slice a_y0_1 y0.Plan.length c_y0_1, .slice a_y0_2 y0.Links.length c_y0_2] 25 (0, 0)) :: pt pb4 (.cells #[.func (.func 83) #[] #[.pointer (some ⟨pb0, 0, none⟩), .pointer (some ⟨pb1, 0, none⟩), .pointer (some ⟨pb2, 0, none⟩), .pointer (some ⟨pb3, 0, none⟩), .pointer (some ⟨pb4, 0, none⟩)]] 121 (0, 0)) :: R)) (w := _) (x := true) (y := true) (fun _ => hS) (fun _ => (((((hS.dropAt 2).dropAt 2).dropAt 2).dropAt 3).dropAt 3))
                    have hF := hS; replace hS := (((((hS.dropAt 2).dropAt 2).dropAt 2).dropAt 3).dropAt 3)
                    refine Rg.take (i := 15) false rfl hE rfl (by kernel_rfl) (runs_plain rfl) (Gives.loadB hE 0 rfl rfl rfl ty3) rfl hT ?_; clear hE a; intro a hE
                    replace hS := hF; clear hF hT
                    refine Rg.takeP (i := 16) hE rfl (by kernel_rfl) (runs_plain rfl) (Gives.p hE rfl) rfl (tw_sel (fun _ => hS) (fun _ => (((((hS.dropAt 2).dropAt 2).dropAt 2).dropAt 3).dropAt 3))) ?_; clear hE a; intro a hE
                    refine Rg.one (i := 7) true true rfl (by kernel_rfl) (by kernel_rfl) (by kernel_rfl) ?_
                    refine WL.lit hE hS (e := 3) (es := 1) (vs := [(0, .int .i64 ((k79 : Nat) : Int))]) (cs := [.int .i64 ((k79 : Nat) : Int)]) (runs_plain rfl) rfl (by kernel_rfl) rfl ?_; clear hE hS a w; intro b217 a w hE hS
                    refine WL.nil ?_
                    refine ⟨⟨fun _ => (hS.tail), fun _ => ((((((hS.tail).dropAt 2).dropAt 2).dropAt 2).dropAt 3).dropAt 3)⟩, ?_⟩
                    refine Rg.one (i := 8) false true rfl (by kernel_rfl) (by kernel_rfl) (by kernel_rfl) ?_
                    obtain ⟨x218, hx219, hq187⟩ := bindS hq187
                    refine WL.appB hE hS 7 (m := 1) (runs_plain rfl) rfl rfl rfl ap22 rfl h_v1 (rfl) (xs := [((k79 : Nat) : Int)]) (Ev.cons (c1 := [.int .i64 ((k79 : Nat) : Int)]) rfl rfl (Ev.nil)) rfl rfl hx219 rfl ?_; clear hE hS a w; intro a220 c221 cs222 F224 a w h223 hb225 hE hS
                    refine WL.nil ?_
                    refine ⟨⟨fun h => absurd h (by decide), fun _ => ((((((hS.tail).tail).dropAt 2).dropAt 2).dropAt 2).dropAt 3)⟩, ?_⟩
                    refine Rg.one (i := 17) false true rfl (by kernel_rfl) (by kernel_rfl) (by kernel_rfl) ?_
                    obtain ⟨q227, hq228, hq187⟩ := bindS hq187
                    replace hS := hS.front 0 rfl
                    replace hS := hS.front 8 rfl
                    replace hS := hS.front 8 rfl
                    replace hS := hS.front 8 rfl
                    replace hS := hS.front 8 rfl
                    replace hS := hS.front 8 rfl
                    replace hS := hS.front 8 rfl
                    have hc_ := ih_MendRoundmean_1_v1 (y0 := y0) hS h214 hn215 h223 (rfl) h_y0_1 h_y0_2 h97 hz98 hq228
                    refine WL.fnw hE (hc_) rfl (runs_plain rfl) bd83 rfl rfl rfl ?_
                    clear hE hS hc_; rintro e w ⟨cs229, a232, c233, s236, rfl, hle237, h230, hn231, h234, hz235, hS⟩; refine ⟨_, rfl, ?_⟩; clear a; intro a hE
                    replace h_y0_2 := Sl.mono RMendLink.mono hle237 h_y0_2
                    replace h_y0_1 := Sl.mono RI.mono hle237 h_y0_1
                    replace h97 := Sl.mono RI.mono hle237 h97
                    replace h214 := Ev.mono RB.mono hle237 h214
                    replace h_v1 := Ev.mono RI.mono hle237 h_v1
                    replace h223 := Ev.mono RI.mono hle237 h223
                    replace hS := hS.front 7 rfl
                    replace hS := hS.front 7 rfl
                    replace hS := hb225 _ _ _ hS
                    refine WL.nil ?_
                    refine ⟨⟨fun h => absurd h (by decide), fun _ => (St.down hle237 (St.front (St.front (St.front (((((hS.tail).dropAt 1).dropAt 1).dropAt 1).dropAt 2) 1 rfl) 1 rfl) 2 rfl))⟩, ?_⟩
                    refine Rg.done (by kernel_rfl) ?_
                    subst hK216
                    refine W.region ?_
                    refine WL.vS hS hE (runs_plain rfl) (Gives.p hE rfl) rfl ?_; clear hE a; intro a hE
                    refine WL.vS hS hE (runs_plain rfl) (Gives.fld hE rfl fl36_1) rfl ?_; clear hE a; intro a hE
                    refine WL.vS hS hE (runs_plain rfl) (Gives.loadB hE 7 rfl rfl rfl ty3) rfl ?_; clear hE a; intro a hE
                    obtain ⟨_, hx239, hq187⟩ := bindS hq187
                    obtain ⟨h240, h241⟩ := ix_some hx239
                    refine WL.vS hS hE (runs_plain rfl) (Gives.idx hE ((x80.To).toNat) rfl rfl sl82 h240 (by have := hn231; omega) (hS.vecAok 6 rfl (by have := hn231; omega : (x80.To).toNat < x2.length))) rfl ?_; clear hE a; intro a hE
                    obtain ⟨x243, hx244, hq187⟩ := bindS hq187
                    refine WL.setD hE hS 6 rfl (runs_plain rfl) rfl rfl (vs := [.bool false]) rfl ty4 rfl rfl rfl h230 hn231 (sx_some hx244).1 hx244 rfl rfl ?_; clear hE hS a w; intro cs245 a w h246 hn247 hE hS
                    refine WL.nil ?_
                    replace hS := hS.front 6 rfl
                    replace hS := hS.front 6 rfl
                    replace hS := hS.front 6 rfl
                    replace hS := hS.front 6 rfl
                    replace hS := hS.front 6 rfl
                    replace hS := hS.front 6 rfl
                    replace hS := hS.front 7 rfl
                    subst hK204
                    exact ⟨x243, q227.2.1, q227.2.2.1, q227.2.2.2, cs245, a232, c233, s236, hle237, Option.some.inj hq187, h246, hn247, h234, hz235, hE.pick _ ⟨rfl, rfl, rfl, rfl, rfl, rfl, rfl, rfl, rfl, rfl, rfl, rfl, rfl, trivial⟩, hS⟩
                  · replace hq187 := iteF hc205 hq187
                    refine W.skip ?_
                    subst hK204
                    exact ⟨q88, q94, q99, q100, cs92, a95, c96, s86, (Sg.Le.refl _), Option.some.inj hq187, h91, hn93, h97, hz98, hE.pick _ ⟨rfl, rfl, rfl, rfl, rfl, rfl, rfl, rfl, rfl, rfl, rfl, rfl, rfl, trivial⟩, hS⟩
                · clear hE hS a w; rintro a w ⟨q191, q197, q202, q203, cs195, a198, c199, s189, hle190, rfl, h194, hn196, h200, hz201, hE, hS⟩
                  dsimp only at hq115
                  replace h_y0_2 := Sl.mono RMendLink.mono hle190 h_y0_2
                  replace h_y0_1 := Sl.mono RI.mono hle190 h_y0_1
                  replace h97 := Sl.mono RI.mono hle190 h97
                  replace h91 := Ev.mono RB.mono hle190 h91
                  replace h_v1 := Ev.mono RI.mono hle190 h_v1
                  subst hK132
                  exact ⟨q191, q197, q202, q203, cs195, a198, c199, s189, hle190, Option.some.inj hq115, h194, hn196, h200, hz201, hE.pick _ ⟨rfl, rfl, rfl, rfl, rfl, rfl, rfl, rfl, rfl, rfl, rfl, rfl, rfl, trivial⟩, hS⟩
            · clear hE hS a w; rintro a w ⟨q119, q125, q130, q131, cs123, a126, c127, s117, hle118, rfl, h122, hn124, h128, hz129, hE, hS⟩
              dsimp only at hq77
              replace h_y0_2 := Sl.mono RMendLink.mono hle118 h_y0_2
              replace h_y0_1 := Sl.mono RI.mono hle118 h_y0_1
              replace h97 := Sl.mono RI.mono hle118 h97
              replace h91 := Ev.mono RB.mono hle118 h91
              replace h_v1 := Ev.mono RI.mono hle118 h_v1
              refine W.region ?_
              refine WL.vS hS hE (runs_plain rfl) (Gives.inc hE rfl (by have := h_y0_2.small; omega)) rfl ?_; clear hE a; intro a hE
              refine WL.vS hS hE (runs_plain rfl) (Gives.p hE rfl) rfl ?_; clear hE a; intro a hE
              refine WL.nil ?_
              replace hS := hS.tail
              subst hK101
              exact ⟨rest81.length, Nat.lt_succ_self _, rest81, k79 + 1, q119, q125, q130, q131, cs123, a126, c127, s117, rfl, hd82, (Sg.Le.trans hle87 hle118), hq77, h122, hn124, h128, hz129, hE.pick _ ⟨rfl, rfl, rfl, rfl, rfl, rfl, rfl, rfl, rfl, rfl, rfl, rfl, rfl, trivial⟩, hS⟩
    · clear hE hS a w; rintro a w ⟨q88, q94, q99, q100, cs92, a95, c96, s86, hle87, rfl, h91, hn93, h97, hz98, hE, hS⟩
      dsimp only at hr
      replace h_y0_2 := Sl.mono RMendLink.mono hle87 h_y0_2
      replace h_y0_1 := Sl.mono RI.mono hle87 h_y0_1
      replace h_y1_0 := Sl.mono RI.mono hle87 h_y1_0
      replace h_v0 := Ev.mono RB.mono hle87 h_v0
      replace h_v1 := Ev.mono RI.mono hle87 h_v1
      refine finG (fn := Try.f83) (rs := []) (vs := []) hE rfl trivial ?_
      obtain rfl := Option.some.inj hr
      exact ⟨cs92, a95, c96, s86, rfl, hle87, h91, hn93, h97, hz98, hS⟩
set_option maxHeartbeats 8000000 in
theorem MendRoundmean_ok {fu : Nat}  {w : World} {s : Sg} {R : List HP} {x0 : MendRound} {a0_0 : Option Addr} {c0_0 : Nat} {a0_1 : Option Addr} {c0_1 : Nat} (hS : St w s (R)) (h0_0 : Sl 1 (RI .i64) s a0_0 c0_0 x0.Plan) (h0_1 : Sl 4 RMendLink s a0_1 c0_1 x0.Links) {r : Int × Int × (List Int)} (hr : MendRoundmean fu x0 = some r) :
    Calls Try.prog 49 [.agg [.int .i64 x0.Period, .slice a0_0 x0.Plan.length c0_0, .slice a0_1 x0.Links.length c0_1].toArray].toArray w (fun e w => ∃ (a2 : Option Addr) (c2 : Nat) (t : Sg), e = .returned (.tuple #[.int .i64 r.1, .int .i64 r.2.1, .slice a2 r.2.2.length c2]) ∧ s.Le t ∧ Sl 1 (RI .i64) t a2 c2 r.2.2 ∧ (r.2.2 = [] → a2 = none) ∧ St w t (R)) := by
  refine enter Try.func49 rfl rfl rfl fun a hE => ?_
  rw [MendRoundmean] at hr
  refine W.seq ?_
  refine W.region ?_
  refine WL.box hE hS (runs_plain rfl) rfl rfl rfl ?_; clear hE hS a w; intro b51 a w hE hS
  refine WL.alloc hE hS (runs_plain rfl) zr3 rfl ?_; clear hE hS a w; intro b52 a w hE hS
  refine WL.alloc hE hS (runs_plain rfl) zr3 rfl ?_; clear hE hS a w; intro b53 a w hE hS
  refine WL.alloc hE hS (runs_plain rfl) zr22 rfl ?_; clear hE hS a w; intro b54 a w hE hS
  refine WL.nil ?_
  refine W.seq ?_
  refine W.region ?_
  refine WL.alloc hE hS (runs_plain rfl) zr121 rfl ?_; clear hE hS a w; intro b55 a w hE hS
  refine WL.nil ?_
  refine W.seq ?_
  refine W.region ?_
  refine WL.vS hS hE (runs_plain rfl) (Gives.mkfn hE (vs := [.pointer (some ⟨b51, 0, none⟩), .pointer (some ⟨b54, 0, none⟩), .pointer (some ⟨b53, 0, none⟩), .pointer (some ⟨b52, 0, none⟩), .pointer (some ⟨b55, 0, none⟩)]) rfl) rfl ?_; clear hE a; intro a hE
  refine WL.storeI hE hS 0 rfl [.func (.func 83) #[] #[.pointer (some ⟨b51, 0, none⟩), .pointer (some ⟨b54, 0, none⟩), .pointer (some ⟨b53, 0, none⟩), .pointer (some ⟨b52, 0, none⟩), .pointer (some ⟨b55, 0, none⟩)]] (runs_plain rfl) rfl rfl rfl ty121 rfl rfl rfl rfl ?_; clear hE hS a w; intro a w hE hS
  refine WL.nil ?_
  refine W.seq ?_
  refine W.seq ?_
  refine W.region ?_
  refine WL.vS hS hE (runs_plain rfl) (Gives.fld hE rfl fl25_1) rfl ?_; clear hE a; intro a hE
  refine WL.vS hS hE (runs_plain rfl) (Gives.loadB hE 4 rfl rfl rfl ty22) rfl ?_; clear hE a; intro a hE
  refine WL.vS hS hE (runs_plain rfl) (Gives.len hE rfl sl22) rfl ?_; clear hE a; intro a hE
  refine WL.vS hS hE (runs_plain rfl) (Gives.p hE rfl) rfl ?_; clear hE a; intro a hE
  refine WL.nil ?_
  obtain ⟨q57, hq56, hr⟩ := bindS hr
  refine W.cut (fun a w => ∃ (q67 : Int), ∃ (q68 : Int), ∃ (q69 : List Int), ∃ (a70 : Option Addr), ∃ (c71 : Nat), ∃ (s65 : Sg), s.Le s65 ∧ (q67, q68, q69) = q57 ∧ Sl 1 (RI .i64) s65 a70 c71 q69 ∧ (q69 = [] → a70 = none) ∧ Rep a 28 [(2, .pointer (some ⟨b52, 0, none⟩)), (3, .pointer (some ⟨b53, 0, none⟩)), (4, .pointer (some ⟨b54, 0, none⟩))] ∧ St w s65 (pt b55 (.cells #[.func (.func 83) #[] #[.pointer (some ⟨b51, 0, none⟩), .pointer (some ⟨b54, 0, none⟩), .pointer (some ⟨b53, 0, none⟩), .pointer (some ⟨b52, 0, none⟩), .pointer (some ⟨b55, 0, none⟩)]] 121 (0, 0)) :: pt b54 (.cells #[.slice a70 q69.length c71] 22 (0, 0)) :: pt b53 (.cells #[.int .i64 q68] 3 (0, 0)) :: pt b52 (.cells #[.int .i64 q67] 3 (0, 0)) :: pt b51 (.cells #[.int .i64 x0.Period, .slice a0_0 x0.Plan.length c0_0, .slice a0_1 x0.Links.length c0_1] 25 (0, 0)) :: R)) ?_ ?_
  · refine W.block ?_
    refine W.loop (fun m a w => ∃ (rest60 : List Int) (k58 : Nat), ∃ (q67 : Int), ∃ (q68 : Int), ∃ (q69 : List Int), ∃ (a70 : Option Addr), ∃ (c71 : Nat), ∃ (s65 : Sg), rest60.length = m ∧ x0.Plan.drop k58 = rest60 ∧ s.Le s65 ∧ MendRoundmean.loop1 x0 fu rest60 k58 q67 q68 q69 = some q57 ∧ Sl 1 (RI .i64) s65 a70 c71 q69 ∧ (q69 = [] → a70 = none) ∧ Rep a 28 [(1, .pointer (some ⟨b51, 0, none⟩)), (2, .pointer (some ⟨b52, 0, none⟩)), (3, .pointer (some ⟨b53, 0, none⟩)), (4, .pointer (some ⟨b54, 0, none⟩)), (5, .pointer (some ⟨b55, 0, none⟩)), (11, .int .i64 ((x0.Plan).length : Int)), (12, .int .i64 ((k58 : Nat) : Int))] ∧ St w s65 (pt b55 (.cells #[.func (.func 83) #[] #[.pointer (some ⟨b51, 0, none⟩), .pointer (some ⟨b54, 0, none⟩), .pointer (some ⟨b53, 0, none⟩), .pointer (some ⟨b52, 0, none⟩), .pointer (some ⟨b55, 0, none⟩)]] 121 (0, 0)) :: pt b54 (.cells #[.slice a70 q69.length c71] 22 (0, 0)) :: pt b53 (.cells #[.int .i64 q68] 3 (0, 0)) :: pt b52 (.cells #[.int .i64 q67] 3 (0, 0)) :: pt b51 (.cells #[.int .i64 x0.Period, .slice a0_0 x0.Plan.length c0_0, .slice a0_1 x0.Links.length c0_1] 25 (0, 0)) :: R)) (m := x0.Plan.length) ⟨x0.Plan, 0, 0, 0, [], none, 0, s, rfl, rfl, (Sg.Le.refl _), hq56, Sl.nil, (fun _ => rfl), hE.pick _ ⟨rfl, rfl, rfl, rfl, rfl, rfl, rfl, trivial⟩, hS⟩ ?_
    clear hE hS a w hq56; rintro m64 a w ⟨rest60, k58, q67, q68, q69, a70, c71, s65, rfl, hd61, hle66, hq56, h72, hz73, hE, hS⟩
    refine W.gen fun K74 hK74 => ?_
    replace h0_0 := Sl.mono RI.mono hle66 h0_0
    replace h0_1 := Sl.mono RMendLink.mono hle66 h0_1
    rcases rest60 with _ | ⟨x59, rest60⟩
    · have hlt62 := drop_nil hd61
      refine W.seq ?_
      refine W.region ?_
      refine WL.vS hS hE (runs_plain rfl) (Gives.p hE rfl) rfl ?_; clear hE a; intro a hE
      refine WL.nil ?_
      refine W.seq ?_
      refine W.condF hE rfl (decide_eq_false (by omega)) ?_
      subst hK74
      refine W.exit rfl ?_
      exact ⟨q67, q68, q69, a70, c71, s65, hle66, Option.some.inj hq56, h72, hz73, hE.pick _ ⟨rfl, rfl, rfl, trivial⟩, hS⟩
    · obtain ⟨hlt62, hx63, hd61⟩ := drop_cons hd61
      rw [MendRoundmean.loop1] at hq56
      refine W.seq ?_
      refine W.region ?_
      refine WL.vS hS hE (runs_plain rfl) (Gives.p hE rfl) rfl ?_; clear hE a; intro a hE
      refine WL.nil ?_
      refine W.seq ?_
      refine W.condT hE rfl (decide_eq_true (by omega)) ?_
      refine W.skip ?_
      refine W.seq ?_
      refine W.block ?_
      refine W.seq ?_
      refine W.region ?_
      refine WL.vS hS hE (runs_plain rfl) (Gives.p hE rfl) rfl ?_; clear hE a; intro a hE
      refine WL.vS hS hE (runs_plain rfl) (Gives.p hE rfl) rfl ?_; clear hE a; intro a hE
      refine WL.nil ?_
      refine W.seq ?_
      refine W.region ?_
      refine WL.vS hS hE (runs_plain rfl) (Gives.fld hE rfl fl25_1) rfl ?_; clear hE a; intro a hE
      refine WL.vS hS hE (runs_plain rfl) (Gives.loadB hE 4 rfl rfl rfl ty22) rfl ?_; clear hE a; intro a hE
      refine WL.vS hS hE (runs_plain rfl) (Gives.len hE rfl sl22) rfl ?_; clear hE a; intro a hE
      obtain ⟨x75, hx76, hq56⟩ := bindS hq56
      refine WL.mkD (Rr := RB) hE hS (runs_plain rfl) rfl rfl ap82 zr4 rfl hx76 rfl ?_; clear hE hS a w; intro b77 cs78 a w h79 hE hS
      refine WL.vS hS hE (runs_plain rfl) (Gives.p hE rfl) rfl ?_; clear hE a; intro a hE
      refine WL.nil ?_
      refine W.region ?_
      refine WL.vS hS hE (runs_plain rfl) (Gives.loadB hE 1 rfl rfl rfl ty121) rfl ?_; clear hE a; intro a hE
      refine WL.vS hS hE (runs_plain rfl) (Gives.p hE rfl) rfl ?_; clear hE a; intro a hE
      refine WL.vS hS hE (runs_plain rfl) (Gives.p hE rfl) rfl ?_; clear hE a; intro a hE
      refine WL.vS hS hE (runs_plain rfl) (Gives.p hE rfl) rfl ?_; clear hE a; intro a hE
      replace hS := hS.vecNil 3 1
      obtain ⟨q82, hq83, hq56⟩ := bindS hq56
      replace hS := hS.front 0 rfl
      replace hS := hS.front 1 rfl
      replace hS := hS.front 2 rfl
      replace hS := hS.front 5 rfl
      replace hS := hS.front 5 rfl
      replace hS := hS.front 5 rfl
      replace hS := hS.front 6 rfl
      have hc_ := MendRoundmean_1_v1_ok (y0 := x0) hS h79 (rfl) (Ev.nil) (rfl) h0_0 h0_1 h72 hz73 hq83
      refine WL.fnw hE (hc_) rfl (runs_plain rfl) bd83 rfl rfl rfl ?_
      clear hE hS hc_; rintro e w ⟨cs84, a87, c88, s91, rfl, hle92, h85, hn86, h89, hz90, hS⟩; refine ⟨_, rfl, ?_⟩; clear a; intro a hE
      replace h0_0 := Sl.mono RI.mono hle92 h0_0
      replace h0_1 := Sl.mono RMendLink.mono hle92 h0_1
      replace h72 := Sl.mono RI.mono hle92 h72
      replace h79 := Ev.mono RB.mono hle92 h79
      refine WL.nil ?_
      refine W.region ?_
      refine WL.vS hS hE (runs_plain rfl) (Gives.inc hE rfl (by have := h0_0.small; omega)) rfl ?_; clear hE a; intro a hE
      refine WL.vS hS hE (runs_plain rfl) (Gives.p hE rfl) rfl ?_; clear hE a; intro a hE
      refine WL.nil ?_
      replace hS := hS.dropAt 5
      replace hS := hS.dropAt 5
      replace hS := hS.front 3 rfl
      replace hS := hS.front 3 rfl
      replace hS := hS.front 3 rfl
      replace hS := hS.front 4 rfl
      subst hK74
      exact ⟨rest60.length, Nat.lt_succ_self _, rest60, k58 + 1, q82.2.2.2, q82.2.2.1, q82.2.1, a87, c88, s91, rfl, hd61, (Sg.Le.trans hle66 hle92), hq56, h89, hz90, hE.pick _ ⟨rfl, rfl, rfl, rfl, rfl, rfl, rfl, trivial⟩, hS⟩
  · clear hE hS a w; rintro a w ⟨q67, q68, q69, a70, c71, s65, hle66, rfl, h72, hz73, hE, hS⟩
    dsimp only at hr
    replace h0_0 := Sl.mono RI.mono hle66 h0_0
    replace h0_1 := Sl.mono RMendLink.mono hle66 h0_1
    refine W.seq ?_
    refine W.gen fun K93 hK93 => ?_
    refine W.regionE (sel (fun w => St w s65 (pt b55 (.cells #[.func (.func 83) #[] #[.pointer (some ⟨b51, 0, none⟩), .pointer (some ⟨b54, 0, none⟩), .pointer (some ⟨b53, 0, none⟩), .pointer (some ⟨b52, 0, none⟩), .pointer (some ⟨b55, 0, none⟩)]] 121 (0, 0)) :: pt b54 (.cells #[.slice a70 q69.length c71] 22 (0, 0)) :: pt b53 (.cells #[.int .i64 q68] 3 (0, 0)) :: pt b52 (.cells #[.int .i64 q67] 3 (0, 0)) :: pt b51 (.cells #[.int .i64 x0.Period, .slice a0_0 x0.Plan.length c0_0, .slice a0_1 x0.Links.length c0_1] 25 (0, 0)) :: R)) (fun w => St w s65 (pt b55 (.cells #[.func (.func 83) #[] #[.pointer (some ⟨b51, 0, none⟩), .pointer (some ⟨b54, 0, none⟩), .pointer (some ⟨b53, 0, none⟩), .pointer (some ⟨b52, 0, none⟩), .pointer (some ⟨b55, 0, none⟩)]] 121 (0, 0)) :: pt b51 (.cells #[.int .i64 x0.Period, .slice a0_0 x0.Plan.length c0_0, .slice a0_1 x0.Links.length c0_1] 25 (0, 0)) :: R))) (fun b i => cond b ([0, 1, 2].contains i) ([0, 1, 2, 3, 4, 5].contains i)) mixed ?_
    replace hS := hS.drew
    have hT := tw_sel (A := fun w => St w s65 (pt b55 (.cells #[.func (.func 83) #[] #[.pointer (some ⟨b51, 0, none⟩), .pointer (some ⟨b54, 0, none⟩), .pointer (some ⟨b53, 0, none⟩), .pointer (some ⟨b52, 0, none⟩), .pointer (some ⟨b55, 0, none⟩)]] 121 (0, 0)) :: pt b54 (.cells #[.slice a70 q69.length c71] 22 (0, 0)) :: pt b53 (.cells #[.int .i64 q68] 3 (0, 0)) :: pt b52 (.cells #[.int .i64 q67] 3 (0, 0)) :: pt b51 (.cells #[.int .i64 x0.Period, .slice a0_0 x0.Plan.length c0_0, .slice a0_1 x0.Links.length c0_1] 25 (0, 0)) :: R)) (B := fun w => St w s65 (pt b55 (.cells #[.func (.func 83) #[] #[.pointer (some ⟨b51, 0, none⟩), .pointer (some ⟨b54, 0, none⟩), .pointer (some ⟨b53, 0, none⟩), .pointer (some ⟨b52, 0, none⟩), .pointer (some ⟨b55, 0, none⟩)]] 121 (0, 0)) :: pt b51 (.cells #[.int .i64 x0.Period, .slice a0_0 x0.Plan.length c0_0, .slice a0_1 x0.Links.length c0_1] 25 (0, 0)) :: R)) (w := _) (x := true) (y := true) (fun _ => hS) (fun _ => (((hS.dropAt 1).dropAt 1).dropAt 1))
    have hF := hS; replace hS := hS
    refine Rg.take (i := 0) true rfl hE rfl (by kernel_rfl) (runs_plain rfl) (Gives.loadB hE 3 rfl rfl rfl ty3) rfl hT ?_; clear hE a; intro a hE
    replace hS := hF; clear hF hT
    suffices key : ∀ (a : Act) (w : World), Sl 1 (RI .i64) s65 a70 c71 q69 → (q69 = [] → a70 = none) → Sl 1 (RI .i64) s65 a0_0 c0_0 x0.Plan → Sl 4 RMendLink s65 a0_1 c0_1 x0.Links → Rep a 28 [(2, .pointer (some ⟨b52, 0, none⟩)), (3, .pointer (some ⟨b53, 0, none⟩)), (4, .pointer (some ⟨b54, 0, none⟩))] → St w s65 (pt b55 (.cells #[.func (.func 83) #[] #[.pointer (some ⟨b51, 0, none⟩), .pointer (some ⟨b54, 0, none⟩), .pointer (some ⟨b53, 0, none⟩), .pointer (some ⟨b52, 0, none⟩), .pointer (some ⟨b55, 0, none⟩)]] 121 (0, 0)) :: pt b54 (.cells #[.slice a70 q69.length c71] 22 (0, 0)) :: pt b53 (.cells #[.int .i64 q68] 3 (0, 0)) :: pt b52 (.cells #[.int .i64 q67] 3 (0, 0)) :: pt b51 (.cells #[.int .i64 x0.Period, .slice a0_0 x0.Plan.length c0_0, .slice a0_1 x0.Links.length c0_1] 25 (0, 0)) :: R) → K93.nor a w by
      refine Rg.many 1 [2, 3] (by kernel_rfl) ⟨?_, ?_, ?_, trivial⟩
      · refine Br.mk (i := 1) true true rfl (by kernel_rfl) (by kernel_rfl) ?_
        refine WL.vS hS hE (runs_plain rfl) (Gives.loadB hE 2 rfl rfl rfl ty3) rfl ?_; clear hE a; intro a hE
        refine WL.nil ?_
        refine ⟨⟨fun _ => hS, fun _ => (((hS.dropAt 1).dropAt 1).dropAt 1)⟩, ?_⟩
        refine Rg.many 2 [3] (by kernel_rfl) ⟨?_, ?_, trivial⟩
        · refine Br.mk (i := 2) true true rfl (by kernel_rfl) (by kernel_rfl) ?_
          refine WL.vS hS hE (runs_plain rfl) (Gives.loadB hE 1 rfl rfl rfl ty22) rfl ?_; clear hE a; intro a hE
          refine WL.nil ?_
          refine ⟨⟨fun _ => hS, fun _ => (((hS.dropAt 1).dropAt 1).dropAt 1)⟩, ?_⟩
          refine Rg.one (i := 3) false true rfl (by kernel_rfl) (by kernel_rfl) (by kernel_rfl) ?_
          refine WL.storeI hE hS 3 rfl [.int .i64 q67] (runs_plain rfl) rfl rfl rfl ty3 rfl rfl rfl rfl ?_; clear hE hS a w; intro a w hE hS
          refine WL.nil ?_
          refine ⟨⟨fun h => absurd h (by decide), fun _ => (((hS.dropAt 1).dropAt 1).dropAt 1)⟩, ?_⟩
          refine Rg.one (i := 4) false true rfl (by kernel_rfl) (by kernel_rfl) (by kernel_rfl) ?_
          refine WL.storeI hE hS 2 rfl [.int .i64 q68] (runs_plain rfl) rfl rfl rfl ty3 rfl rfl rfl rfl ?_; clear hE hS a w; intro a w hE hS
          refine WL.nil ?_
          refine ⟨⟨fun h => absurd h (by decide), fun _ => (((hS.dropAt 1).dropAt 1).dropAt 1)⟩, ?_⟩
          refine Rg.one (i := 5) false true rfl (by kernel_rfl) (by kernel_rfl) (by kernel_rfl) ?_
          refine WL.storeI hE hS 1 rfl [.slice a70 q69.length c71] (runs_plain rfl) rfl rfl rfl ty22 rfl rfl rfl rfl ?_; clear hE hS a w; intro a w hE hS
          refine WL.nil ?_
          refine ⟨⟨fun h => absurd h (by decide), fun _ => (((hS.dropAt 1).dropAt 1).dropAt 1)⟩, ?_⟩
          refine Rg.done (by kernel_rfl) ?_
          exact key  _ _ h72 hz73 h0_0 h0_1 (hE.pick _ ⟨rfl, rfl, rfl, trivial⟩) hS
        · refine Br.mk (i := 3) false true rfl (by kernel_rfl) (by kernel_rfl) ?_
          refine WL.storeI hE hS 3 rfl [.int .i64 q67] (runs_plain rfl) rfl rfl rfl ty3 rfl rfl rfl rfl ?_; clear hE hS a w; intro a w hE hS
          refine WL.nil ?_
          refine ⟨⟨fun h => absurd h (by decide), fun _ => (((hS.dropAt 1).dropAt 1).dropAt 1)⟩, ?_⟩
          refine Rg.many 2 [4] (by kernel_rfl) ⟨?_, ?_, trivial⟩
          · refine Br.mk (i := 2) false true rfl (by kernel_rfl) (by kernel_rfl) ?_
            refine WL.vS hS hE (runs_plain rfl) (Gives.loadB hE 1 rfl rfl rfl ty22) rfl ?_; clear hE a; intro a hE
            refine WL.nil ?_
            refine ⟨⟨fun h => absurd h (by decide), fun _ => (((hS.dropAt 1).dropAt 1).dropAt 1)⟩, ?_⟩
            refine Rg.one (i := 4) false true rfl (by kernel_rfl) (by kernel_rfl) (by kernel_rfl) ?_
            refine WL.storeI hE hS 2 rfl [.int .i64 q68] (runs_plain rfl) rfl rfl rfl ty3 rfl rfl rfl rfl ?_; clear hE hS a w; intro a w hE hS
            refine WL.nil ?_
            refine ⟨⟨fun h => absurd h (by decide), fun _ => (((hS.dropAt 1).dropAt 1).dropAt 1)⟩, ?_⟩
            refine Rg.one (i := 5) false true rfl (by kernel_rfl) (by kernel_rfl) (by kernel_rfl) ?_
            refine WL.storeI hE hS 1 rfl [.slice a70 q69.length c71] (runs_plain rfl) rfl rfl rfl ty22 rfl rfl rfl rfl ?_; clear hE hS a w; intro a w hE hS
            refine WL.nil ?_
            refine ⟨⟨fun h => absurd h (by decide), fun _ => (((hS.dropAt 1).dropAt 1).dropAt 1)⟩, ?_⟩
            refine Rg.done (by kernel_rfl) ?_
            exact key  _ _ h72 hz73 h0_0 h0_1 (hE.pick _ ⟨rfl, rfl, rfl, trivial⟩) hS
          · refine Br.mk (i := 4) false true rfl (by kernel_rfl) (by kernel_rfl) ?_
            refine WL.storeI hE hS 2 rfl [.int .i64 q68] (runs_plain rfl) rfl rfl rfl ty3 rfl rfl rfl rfl ?_; clear hE hS a w; intro a w hE hS
            refine WL.nil ?_
            refine ⟨⟨fun h => absurd h (by decide), fun _ => (((hS.dropAt 1).dropAt 1).dropAt 1)⟩, ?_⟩
            refine Rg.one (i := 2) false true rfl (by kernel_rfl) (by kernel_rfl) (by kernel_rfl) ?_
            refine WL.vS hS hE (runs_plain rfl) (Gives.loadB hE 1 rfl rfl rfl ty22) rfl ?_; clear hE a; intro a hE
            refine WL.nil ?_
            refine ⟨⟨fun h => absurd h (by decide), fun _ => (((hS.dropAt 1).dropAt 1).dropAt 1)⟩, ?_⟩
            refine Rg.one (i := 5) false true rfl (by kernel_rfl) (by kernel_rfl) (by kernel_rfl) ?_
            refine WL.storeI hE hS 1 rfl [.slice a70 q69.length c71] (runs_plain rfl) rfl rfl rfl ty22 rfl rfl rfl rfl ?_; clear hE hS a w; intro a w hE hS
            refine WL.nil ?_
            refine ⟨⟨fun h => absurd h (by decide), fun _ => (((hS.dropAt 1).dropAt 1).dropAt 1)⟩, ?_⟩
            refine Rg.done (by kernel_rfl) ?_
            exact key  _ _ h72 hz73 h0_0 h0_1 (hE.pick _ ⟨rfl, rfl, rfl, trivial⟩) hS
      · refine Br.mk (i := 2) true true rfl (by kernel_rfl) (by kernel_rfl) ?_
        refine WL.vS hS hE (runs_plain rfl) (Gives.loadB hE 1 rfl rfl rfl ty22) rfl ?_; clear hE a; intro a hE
        refine WL.nil ?_
        refine ⟨⟨fun _ => hS, fun _ => (((hS.dropAt 1).dropAt 1).dropAt 1)⟩, ?_⟩
        refine Rg.many 1 [3] (by kernel_rfl) ⟨?_, ?_, trivial⟩
        · refine Br.mk (i := 1) true true rfl (by kernel_rfl) (by kernel_rfl) ?_
          refine WL.vS hS hE (runs_plain rfl) (Gives.loadB hE 2 rfl rfl rfl ty3) rfl ?_; clear hE a; intro a hE
          refine WL.nil ?_
          refine ⟨⟨fun _ => hS, fun _ => (((hS.dropAt 1).dropAt 1).dropAt 1)⟩, ?_⟩
          refine Rg.one (i := 3) false true rfl (by kernel_rfl) (by kernel_rfl) (by kernel_rfl) ?_
          refine WL.storeI hE hS 3 rfl [.int .i64 q67] (runs_plain rfl) rfl rfl rfl ty3 rfl rfl rfl rfl ?_; clear hE hS a w; intro a w hE hS
          refine WL.nil ?_
          refine ⟨⟨fun h => absurd h (by decide), fun _ => (((hS.dropAt 1).dropAt 1).dropAt 1)⟩, ?_⟩
          refine Rg.one (i := 4) false true rfl (by kernel_rfl) (by kernel_rfl) (by kernel_rfl) ?_
          refine WL.storeI hE hS 2 rfl [.int .i64 q68] (runs_plain rfl) rfl rfl rfl ty3 rfl rfl rfl rfl ?_; clear hE hS a w; intro a w hE hS
          refine WL.nil ?_
          refine ⟨⟨fun h => absurd h (by decide), fun _ => (((hS.dropAt 1).dropAt 1).dropAt 1)⟩, ?_⟩
          refine Rg.one (i := 5) false true rfl (by kernel_rfl) (by kernel_rfl) (by kernel_rfl) ?_
          refine WL.storeI hE hS 1 rfl [.slice a70 q69.length c71] (runs_plain rfl) rfl rfl rfl ty22 rfl rfl rfl rfl ?_; clear hE hS a w; intro a w hE hS
          refine WL.nil ?_
          refine ⟨⟨fun h => absurd h (by decide), fun _ => (((hS.dropAt 1).dropAt 1).dropAt 1)⟩, ?_⟩
          refine Rg.done (by kernel_rfl) ?_
          exact key  _ _ h72 hz73 h0_0 h0_1 (hE.pick _ ⟨rfl, rfl, rfl, trivial⟩) hS
        · refine Br.mk (i := 3) false true rfl (by kernel_rfl) (by kernel_rfl) ?_
          refine WL.storeI hE hS 3 rfl [.int .i64 q67] (runs_plain rfl) rfl rfl rfl ty3 rfl rfl rfl rfl ?_; clear hE hS a w; intro a w hE hS
          refine WL.nil ?_
          refine ⟨⟨fun h => absurd h (by decide), fun _ => (((hS.dropAt 1).dropAt 1).dropAt 1)⟩, ?_⟩
          refine Rg.one (i := 1) false true rfl (by kernel_rfl) (by kernel_rfl) (by kernel_rfl) ?_
          refine WL.vS hS hE (runs_plain rfl) (Gives.loadB hE 2 rfl rfl rfl ty3) rfl ?_; clear hE a; intro a hE
          refine WL.nil ?_
          refine ⟨⟨fun h => absurd h (by decide), fun _ => (((hS.dropAt 1).dropAt 1).dropAt 1)⟩, ?_⟩
          refine Rg.one (i := 4) false true rfl (by kernel_rfl) (by kernel_rfl) (by kernel_rfl) ?_
          refine WL.storeI hE hS 2 rfl [.int .i64 q68] (runs_plain rfl) rfl rfl rfl ty3 rfl rfl rfl rfl ?_; clear hE hS a w; intro a w hE hS
          refine WL.nil ?_
          refine ⟨⟨fun h => absurd h (by decide), fun _ => (((hS.dropAt 1).dropAt 1).dropAt 1)⟩, ?_⟩
          refine Rg.one (i := 5) false true rfl (by kernel_rfl) (by kernel_rfl) (by kernel_rfl) ?_
          refine WL.storeI hE hS 1 rfl [.slice a70 q69.length c71] (runs_plain rfl) rfl rfl rfl ty22 rfl rfl rfl rfl ?_; clear hE hS a w; intro a w hE hS
          refine WL.nil ?_
          refine ⟨⟨fun h => absurd h (by decide), fun _ => (((hS.dropAt 1).dropAt 1).dropAt 1)⟩, ?_⟩
          refine Rg.done (by kernel_rfl) ?_
          exact key  _ _ h72 hz73 h0_0 h0_1 (hE.pick _ ⟨rfl, rfl, rfl, trivial⟩) hS
      · refine Br.mk (i := 3) false true rfl (by kernel_rfl) (by kernel_rfl) ?_
        refine WL.storeI hE hS 3 rfl [.int .i64 q67] (runs_plain rfl) rfl rfl rfl ty3 rfl rfl rfl rfl ?_; clear hE hS a w; intro a w hE hS
        refine WL.nil ?_
        refine ⟨⟨fun h => absurd h (by decide), fun _ => (((hS.dropAt 1).dropAt 1).dropAt 1)⟩, ?_⟩
        refine Rg.many 1 [2] (by kernel_rfl) ⟨?_, ?_, trivial⟩
        · refine Br.mk (i := 1) false true rfl (by kernel_rfl) (by kernel_rfl) ?_
          refine WL.vS hS hE (runs_plain rfl) (Gives.loadB hE 2 rfl rfl rfl ty3) rfl ?_; clear hE a; intro a hE
          refine WL.nil ?_
          refine ⟨⟨fun h => absurd h (by decide), fun _ => (((hS.dropAt 1).dropAt 1).dropAt 1)⟩, ?_⟩
          refine Rg.many 2 [4] (by kernel_rfl) ⟨?_, ?_, trivial⟩
          · refine Br.mk (i := 2) false true rfl (by kernel_rfl) (by kernel_rfl) ?_
            refine WL.vS hS hE (runs_plain rfl) (Gives.loadB hE 1 rfl rfl rfl ty22) rfl ?_; clear hE a; intro a hE
            refine WL.nil ?_
            refine ⟨⟨fun h => absurd h (by decide), fun _ => (((hS.dropAt 1).dropAt 1).dropAt 1)⟩, ?_⟩
            refine Rg.one (i := 4) false true rfl (by kernel_rfl) (by kernel_rfl) (by kernel_rfl) ?_
            refine WL.storeI hE hS 2 rfl [.int .i64 q68] (runs_plain rfl) rfl rfl rfl ty3 rfl rfl rfl rfl ?_; clear hE hS a w; intro a w hE hS
            refine WL.nil ?_
            refine ⟨⟨fun h => absurd h (by decide), fun _ => (((hS.dropAt 1).dropAt 1).dropAt 1)⟩, ?_⟩
            refine Rg.one (i := 5) false true rfl (by kernel_rfl) (by kernel_rfl) (by kernel_rfl) ?_
            refine WL.storeI hE hS 1 rfl [.slice a70 q69.length c71] (runs_plain rfl) rfl rfl rfl ty22 rfl rfl rfl rfl ?_; clear hE hS a w; intro a w hE hS
            refine WL.nil ?_
            refine ⟨⟨fun h => absurd h (by decide), fun _ => (((hS.dropAt 1).dropAt 1).dropAt 1)⟩, ?_⟩
            refine Rg.done (by kernel_rfl) ?_
            exact key  _ _ h72 hz73 h0_0 h0_1 (hE.pick _ ⟨rfl, rfl, rfl, trivial⟩) hS
          · refine Br.mk (i := 4) false true rfl (by kernel_rfl) (by kernel_rfl) ?_
            refine WL.storeI hE hS 2 rfl [.int .i64 q68] (runs_plain rfl) rfl rfl rfl ty3 rfl rfl rfl rfl ?_; clear hE hS a w; intro a w hE hS
            refine WL.nil ?_
            refine ⟨⟨fun h => absurd h (by decide), fun _ => (((hS.dropAt 1).dropAt 1).dropAt 1)⟩, ?_⟩
            refine Rg.one (i := 2) false true rfl (by kernel_rfl) (by kernel_rfl) (by kernel_rfl) ?_
            refine WL.vS hS hE (runs_plain rfl) (Gives.loadB hE 1 rfl rfl rfl ty22) rfl ?_; clear hE a; intro a hE
            refine WL.nil ?_
            refine ⟨⟨fun h => absurd h (by decide), fun _ => (((hS.dropAt 1).dropAt 1).dropAt 1)⟩, ?_⟩
            refine Rg.one (i := 5) false true rfl (by kernel_rfl) (by kernel_rfl) (by kernel_rfl) ?_
            refine WL.storeI hE hS 1 rfl [.slice a70 q69.length c71] (runs_plain rfl) rfl rfl rfl ty22 rfl rfl rfl rfl ?_; clear hE hS a w; intro a w hE hS
            refine WL.nil ?_
            refine ⟨⟨fun h => absurd h (by decide), fun _ => (((hS.dropAt 1).dropAt 1).dropAt 1)⟩, ?_⟩
            refine Rg.done (by kernel_rfl) ?_
            exact key  _ _ h72 hz73 h0_0 h0_1 (hE.pick _ ⟨rfl, rfl, rfl, trivial⟩) hS
        · refine Br.mk (i := 2) false true rfl (by kernel_rfl) (by kernel_rfl) ?_
          refine WL.vS hS hE (runs_plain rfl) (Gives.loadB hE 1 rfl rfl rfl ty22) rfl ?_; clear hE a; intro a hE
          refine WL.nil ?_
          refine ⟨⟨fun h => absurd h (by decide), fun _ => (((hS.dropAt 1).dropAt 1).dropAt 1)⟩, ?_⟩
          refine Rg.one (i := 1) false true rfl (by kernel_rfl) (by kernel_rfl) (by kernel_rfl) ?_
          refine WL.vS hS hE (runs_plain rfl) (Gives.loadB hE 2 rfl rfl rfl ty3) rfl ?_; clear hE a; intro a hE
          refine WL.nil ?_
          refine ⟨⟨fun h => absurd h (by decide), fun _ => (((hS.dropAt 1).dropAt 1).dropAt 1)⟩, ?_⟩
          refine Rg.one (i := 4) false true rfl (by kernel_rfl) (by kernel_rfl) (by kernel_rfl) ?_
          refine WL.storeI hE hS 2 rfl [.int .i64 q68] (runs_plain rfl) rfl rfl rfl ty3 rfl rfl rfl rfl ?_; clear hE hS a w; intro a w hE hS
          refine WL.nil ?_
          refine ⟨⟨fun h => absurd h (by decide), fun _ => (((hS.dropAt 1).dropAt 1).dropAt 1)⟩, ?_⟩
          refine Rg.one (i := 5) false true rfl (by kernel_rfl) (by kernel_rfl) (by kernel_rfl) ?_
          refine WL.storeI hE hS 1 rfl [.slice a70 q69.length c71] (runs_plain rfl) rfl rfl rfl ty22 rfl rfl rfl rfl ?_; clear hE hS a w; intro a w hE hS
          refine WL.nil ?_
          refine ⟨⟨fun h => absurd h (by decide), fun _ => (((hS.dropAt 1).dropAt 1).dropAt 1)⟩, ?_⟩
          refine Rg.done (by kernel_rfl) ?_
          exact key  _ _ h72 hz73 h0_0 h0_1 (hE.pick _ ⟨rfl, rfl, rfl, trivial⟩) hS
    clear hE hS a w; intro a w h72 hz73 h0_0 h0_1 hE hS
    subst hK93
    refine W.ret ?_
    refine finG (fn := Try.f49) (rs := [.cell 2 3, .cell 3 3, .cell 4 22]) (vs := [_, _, _]) hE rfl ⟨⟨_, rfl, .inr ⟨hS.seesAt 3 rfl, ty3⟩⟩, ⟨_, rfl, .inr ⟨hS.seesAt 2 rfl, ty3⟩⟩, ⟨_, rfl, .inr ⟨hS.seesAt 1 rfl, ty22⟩⟩, trivial⟩ ?_
    obtain rfl := Option.some.inj hr
    replace hS := hS.tail
    replace hS := hS.tail
    replace hS := hS.tail
    replace hS := hS.tail
    replace hS := hS.tail
    exact ⟨a70, c71, s65, rfl, hle66, h72, hz73, hS⟩
set_option maxHeartbeats 8000000 in
theorem MendMean_ok {fu : Nat}  {w : World} {s : Sg} {R : List HP} {x0 : MendRound} {a0_0 : Option Addr} {c0_0 : Nat} {a0_1 : Option Addr} {c0_1 : Nat} (hS : St w s (R)) (h0_0 : Sl 1 (RI .i64) s a0_0 c0_0 x0.Plan) (h0_1 : Sl 4 RMendLink s a0_1 c0_1 x0.Links) {r : Int × Int × (List Int) × Int} (hr : MendMean fu x0 = some r) :
    Calls Try.prog 12 [.agg [.int .i64 x0.Period, .slice a0_0 x0.Plan.length c0_0, .slice a0_1 x0.Links.length c0_1].toArray].toArray w (fun e w => ∃ (a2 : Option Addr) (c2 : Nat) (t : Sg), e = .returned (.tuple #[.int .i64 r.1, .int .i64 r.2.1, .slice a2 r.2.2.1.length c2, .int .i64 r.2.2.2]) ∧ s.Le t ∧ Sl 1 (RI .i64) t a2 c2 r.2.2.1 ∧ St w t (R)) := by
  refine enter Try.func12 rfl rfl rfl fun a hE => ?_
  rw [MendMean] at hr
  refine W.seq ?_
  refine W.region ?_
  refine WL.box hE hS (runs_plain rfl) rfl rfl rfl ?_; clear hE hS a w; intro b51 a w hE hS
  refine WL.vS hS hE (runs_plain rfl) (Gives.p hE rfl) rfl ?_; clear hE a; intro a hE
  refine WL.vS hS hE (runs_plain rfl) (Gives.p hE rfl) rfl ?_; clear hE a; intro a hE
  refine WL.vS hS hE (runs_plain rfl) (Gives.p hE rfl) rfl ?_; clear hE a; intro a hE
  refine WL.vS hS hE (runs_plain rfl) (Gives.p hE rfl) rfl ?_; clear hE a; intro a hE
  refine WL.nil ?_
  refine W.seq ?_
  refine W.seq ?_
  refine W.region ?_
  refine WL.vS hS hE (runs_plain rfl) (Gives.loadBA hE 0 rfl rfl ty25) rfl ?_; clear hE a; intro a hE
  obtain ⟨q52, hq53, hr⟩ := bindS hr
  have hc_ := MendCheckRound_ok hS h0_0 h0_1 hq53
  refine WL.fnq hE (hc_) (runs_plain rfl) bd16 rfl rfl rfl ?_
  clear hE hS hc_; rintro e w ⟨rfl, hS⟩; refine ⟨_, rfl, ?_⟩; clear a; intro a hE
  refine WL.vS hS hE (runs_plain rfl) (Gives.p hE rfl) rfl ?_; clear hE a; intro a hE
  refine WL.nil ?_
  refine W.seq ?_
  refine W.region ?_
  refine WL.vS hS hE (runs_plain rfl) (Gives.p hE rfl) rfl ?_; clear hE a; intro a hE
  refine WL.vS hS hE (runs_plain rfl) (Gives.p hE rfl) rfl ?_; clear hE a; intro a hE
  refine WL.nil ?_
  refine W.cond hE rfl (fun hc54 => ?_) (fun hc54 => ?_)
  · replace hr := iteT hc54 hr
    refine W.seq ?_
    refine W.region ?_
    refine WL.vS hS hE (runs_plain rfl) (Gives.p hE rfl) rfl ?_; clear hE a; intro a hE
    refine WL.vS hS hE (runs_plain rfl) (Gives.p hE rfl) rfl ?_; clear hE a; intro a hE
    refine WL.vS hS hE (runs_plain rfl) (Gives.p hE rfl) rfl ?_; clear hE a; intro a hE
    refine WL.vS hS hE (runs_plain rfl) (Gives.p hE rfl) rfl ?_; clear hE a; intro a hE
    refine WL.vS hS hE (runs_plain rfl) (Gives.p hE rfl) rfl ?_; clear hE a; intro a hE
    refine WL.nil ?_
    refine W.ret ?_
    refine finG (fn := Try.f12) (rs := [.tmp 2, .tmp 3, .tmp 4, .tmp 5]) (vs := [_, _, _, _]) hE rfl ⟨rfl, rfl, rfl, rfl, trivial⟩ ?_
    obtain rfl := Option.some.inj hr
    replace hS := hS.tail
    exact ⟨none, 0, s, rfl, (Sg.Le.refl _), Sl.nil, hS⟩
  · replace hr := iteF hc54 hr
    refine W.skip ?_
    refine W.seq ?_
    refine W.region ?_
    refine WL.vS hS hE (runs_plain rfl) (Gives.loadBA hE 0 rfl rfl ty25) rfl ?_; clear hE a; intro a hE
    obtain ⟨q55, hq56, hr⟩ := bindS hr
    have hc_ := MendRoundmean_ok hS h0_0 h0_1 hq56
    refine WL.fnq hE (hc_) (runs_plain rfl) bd49 rfl rfl rfl ?_
    clear hE hS hc_; rintro e w ⟨a57, c58, s61, rfl, hle62, h59, hz60, hS⟩; refine ⟨_, rfl, ?_⟩; clear a; intro a hE
    replace h0_0 := Sl.mono RI.mono hle62 h0_0
    replace h0_1 := Sl.mono RMendLink.mono hle62 h0_1
    refine WL.vS hS hE (runs_plain rfl) (Gives.p hE rfl) rfl ?_; clear hE a; intro a hE
    refine WL.vS hS hE (runs_plain rfl) (Gives.p hE rfl) rfl ?_; clear hE a; intro a hE
    refine WL.vS hS hE (runs_plain rfl) (Gives.p hE rfl) rfl ?_; clear hE a; intro a hE
    refine WL.vS hS hE (runs_plain rfl) (Gives.p hE rfl) rfl ?_; clear hE a; intro a hE
    refine WL.vS hS hE (runs_plain rfl) (Gives.p hE rfl) rfl ?_; clear hE a; intro a hE
    refine WL.vS hS hE (runs_plain rfl) (Gives.p hE rfl) rfl ?_; clear hE a; intro a hE
    refine WL.vS hS hE (runs_plain rfl) (Gives.p hE rfl) rfl ?_; clear hE a; intro a hE
    refine WL.nil ?_
    refine W.seq ?_
    refine W.seq ?_
    refine W.region ?_
    refine WL.vS hS hE (runs_plain rfl) (Gives.p hE rfl) rfl ?_; clear hE a; intro a hE
    refine WL.vS hS hE (runs_plain rfl) (Gives.isNilZ hE (isNone_eq h59 hz60) rfl rfl isl22) rfl ?_; clear hE a; intro a hE
    refine WL.nil ?_
    refine W.cond hE rfl (fun hc63 => ?_) (fun hc63 => ?_)
    · replace hr := iteT hc63 hr
      refine W.seq ?_
      refine W.region ?_
      refine WL.vS hS hE (runs_plain rfl) (Gives.p hE rfl) rfl ?_; clear hE a; intro a hE
      refine WL.vS hS hE (runs_plain rfl) (Gives.p hE rfl) rfl ?_; clear hE a; intro a hE
      refine WL.vS hS hE (runs_plain rfl) (Gives.p hE rfl) rfl ?_; clear hE a; intro a hE
      refine WL.vS hS hE (runs_plain rfl) (Gives.p hE rfl) rfl ?_; clear hE a; intro a hE
      refine WL.nil ?_
      refine W.ret ?_
      refine finG (fn := Try.f12) (rs := [.tmp 2, .tmp 3, .tmp 4, .tmp 5]) (vs := [_, _, _, _]) hE rfl ⟨rfl, rfl, rfl, rfl, trivial⟩ ?_
      obtain rfl := Option.some.inj hr
      replace hS := hS.tail
      exact ⟨none, 0, s61, rfl, hle62, Sl.nil, hS⟩
    · replace hr := iteF hc63 hr
      refine W.skip ?_
      refine W.seq ?_
      refine W.region ?_
      refine WL.vS hS hE (runs_plain rfl) (Gives.p hE rfl) rfl ?_; clear hE a; intro a hE
      refine WL.vS hS hE (runs_plain rfl) (Gives.p hE rfl) rfl ?_; clear hE a; intro a hE
      refine WL.vS hS hE (runs_plain rfl) (Gives.p hE rfl) rfl ?_; clear hE a; intro a hE
      refine WL.vS hS hE (runs_plain rfl) (Gives.p hE rfl) rfl ?_; clear hE a; intro a hE
      refine WL.nil ?_
      refine W.seq ?_
      obtain ⟨q65, hq64, hr⟩ := bindS hr
      refine W.cut (fun a w => ∃ (q70 : Int), ∃ (q71 : Int), (q70, q71) = q65 ∧ Rep a 40 [(7, .int .i64 q55.1), (8, .int .i64 q55.2.1), (9, .slice a57 q55.2.2.length c58), (10, .int .i64 q70)] ∧ St w s61 (pt b51 (.cells #[.int .i64 x0.Period, .slice a0_0 x0.Plan.length c0_0, .slice a0_1 x0.Links.length c0_1] 25 (0, 0)) :: R)) ?_ ?_
      · refine W.block ?_
        refine W.loop (fun m a w => ∃ (n66 : Nat), ∃ (q70 : Int), ∃ (q71 : Int), n66 = m ∧ MendMean.loop1 n66 q70 q71 = some q65 ∧ Rep a 40 [(7, .int .i64 q55.1), (8, .int .i64 q55.2.1), (9, .slice a57 q55.2.2.length c58), (10, .int .i64 q70), (11, .int .i64 q71)] ∧ St w s61 (pt b51 (.cells #[.int .i64 x0.Period, .slice a0_0 x0.Plan.length c0_0, .slice a0_1 x0.Links.length c0_1] 25 (0, 0)) :: R)) (m := fu) ⟨fu, q55.1, q55.2.1, rfl, hq64, hE.pick _ ⟨rfl, rfl, rfl, rfl, rfl, trivial⟩, hS⟩ ?_
        clear hE hS a w hq64; rintro m67 a w ⟨n66, q70, q71, rfl, hq64, hE, hS⟩
        refine W.gen fun K72 hK72 => ?_
        rcases n66 with _ | n66
        · rw [MendMean.loop1] at hq64; exact absurd hq64 (by simp)
        rw [MendMean.loop1] at hq64
        refine W.seq ?_
        refine W.seq ?_
        refine W.region ?_
        refine WL.vS hS hE (runs_plain rfl) (Gives.p hE rfl) rfl ?_; clear hE a; intro a hE
        refine WL.vS hS hE (runs_plain rfl) (Gives.p hE rfl) rfl ?_; clear hE a; intro a hE
        refine WL.nil ?_
        refine W.cond hE rfl (fun hc73 => ?_) (fun hc73 => ?_)
        · replace hq64 := iteT hc73 hq64
          refine W.skip ?_
          refine W.block ?_
          refine W.regionQ (C := fun w => St w s61 (pt b51 (.cells #[.int .i64 x0.Period, .slice a0_0 x0.Plan.length c0_0, .slice a0_1 x0.Links.length c0_1] 25 (0, 0)) :: R)) mixed (by kernel_rfl) hS.drew ?_
          refine QL.v hE (runs_plain rfl) (Gives.p hE rfl) rfl ?_; clear hE a; intro a hE
          refine QL.v hE (runs_plain rfl) (Gives.p hE rfl) rfl ?_; clear hE a; intro a hE
          refine QL.v hE (runs_plain rfl) (Gives.p hE rfl) rfl ?_; clear hE a; intro a hE
          obtain ⟨x74, hx75, hq64⟩ := bindS hq64
          refine QL.v hE (runs_plain rfl) (Gives.rm hE rfl rfl hx75) rfl ?_; clear hE a; intro a hE
          refine QL.v hE (runs_plain rfl) (Gives.p hE rfl) rfl ?_; clear hE a; intro a hE
          refine QL.v hE (runs_plain rfl) (Gives.p hE rfl) rfl ?_; clear hE a; intro a hE
          refine QL.nil ?_; clear hS w; intro w hS
          subst hK72
          exact ⟨n66, Nat.lt_succ_self _, n66, q71, x74, rfl, hq64, hE.pick _ ⟨rfl, rfl, rfl, rfl, rfl, trivial⟩, hS⟩
        · replace hq64 := iteF hc73 hq64
          subst hK72
          refine W.exit rfl ?_
          exact ⟨q70, q71, Option.some.inj hq64, hE.pick _ ⟨rfl, rfl, rfl, rfl, trivial⟩, hS⟩
      · clear hE hS a w; rintro a w ⟨q70, q71, rfl, hE, hS⟩
        dsimp only at hr
        refine W.seq ?_
        refine W.regionQ (C := fun w => St w s61 (pt b51 (.cells #[.int .i64 x0.Period, .slice a0_0 x0.Plan.length c0_0, .slice a0_1 x0.Links.length c0_1] 25 (0, 0)) :: R)) mixed (by kernel_rfl) hS.drew ?_
        refine QL.v hE (runs_plain rfl) (Gives.p hE rfl) rfl ?_; clear hE a; intro a hE
        refine QL.v hE (runs_plain rfl) (Gives.p hE rfl) rfl ?_; clear hE a; intro a hE
        obtain ⟨x76, hx77, hr⟩ := bindS hr
        refine QL.v hE (runs_plain rfl) (Gives.dv hE rfl rfl hx77) rfl ?_; clear hE a; intro a hE
        refine QL.v hE (runs_plain rfl) (Gives.p hE rfl) rfl ?_; clear hE a; intro a hE
        refine QL.v hE (runs_plain rfl) (Gives.p hE rfl) rfl ?_; clear hE a; intro a hE
        obtain ⟨x78, hx79, hr⟩ := bindS hr
        refine QL.v hE (runs_plain rfl) (Gives.dv hE rfl rfl hx79) rfl ?_; clear hE a; intro a hE
        refine QL.v hE (runs_plain rfl) (Gives.p hE rfl) rfl ?_; clear hE a; intro a hE
        refine QL.v hE (runs_plain rfl) (Gives.p hE rfl) rfl ?_; clear hE a; intro a hE
        refine QL.v hE (runs_plain rfl) (Gives.p hE rfl) rfl ?_; clear hE a; intro a hE
        refine QL.v hE (runs_plain rfl) (Gives.p hE rfl) rfl ?_; clear hE a; intro a hE
        refine QL.v hE (runs_plain rfl) (Gives.p hE rfl) rfl ?_; clear hE a; intro a hE
        refine QL.nil ?_; clear hS w; intro w hS
        refine W.ret ?_
        refine finG (fn := Try.f12) (rs := [.tmp 2, .tmp 3, .tmp 4, .tmp 5]) (vs := [_, _, _, _]) hE rfl ⟨rfl, rfl, rfl, rfl, trivial⟩ ?_
        obtain rfl := Option.some.inj hr
        replace hS := hS.tail
        exact ⟨a57, c58, s61, rfl, hle62, h59, hS⟩
set_option maxHeartbeats 8000000 in
theorem MendRoundstable_ok {fu : Nat}  {w : World} {s : Sg} {R : List HP} {x0 : MendRound} {a0_0 : Option Addr} {c0_0 : Nat} {a0_1 : Option Addr} {c0_1 : Nat} (hS : St w s (R)) (h0_0 : Sl 1 (RI .i64) s a0_0 c0_0 x0.Plan) (h0_1 : Sl 4 RMendLink s a0_1 c0_1 x0.Links) {r : Bool} (hr : MendRoundstable fu x0 = some r) :
    Calls Try.prog 50 [.agg [.int .i64 x0.Period, .slice a0_0 x0.Plan.length c0_0, .slice a0_1 x0.Links.length c0_1].toArray].toArray w (fun e w => e = .returned (.bool r) ∧ St w s (R)) := by
  refine enter Try.func50 rfl rfl rfl fun a hE => ?_
  rw [MendRoundstable] at hr
  refine W.seq ?_
  refine W.region ?_
  refine WL.box hE hS (runs_plain rfl) rfl rfl rfl ?_; clear hE hS a w; intro b51 a w hE hS
  refine WL.vS hS hE (runs_plain rfl) (Gives.p hE rfl) rfl ?_; clear hE a; intro a hE
  refine WL.nil ?_
  refine W.seq ?_
  refine W.region ?_
  refine WL.vS hS hE (runs_plain rfl) (Gives.loadBA hE 0 rfl rfl ty25) rfl ?_; clear hE a; intro a hE
  obtain ⟨q52, hq53, hr⟩ := bindS hr
  have hc_ := MendRoundmean_ok hS h0_0 h0_1 hq53
  refine WL.fnq hE (hc_) (runs_plain rfl) bd49 rfl rfl rfl ?_
  clear hE hS hc_; rintro e w ⟨a54, c55, s58, rfl, hle59, h56, hz57, hS⟩; refine ⟨_, rfl, ?_⟩; clear a; intro a hE
  replace h0_0 := Sl.mono RI.mono hle59 h0_0
  replace h0_1 := Sl.mono RMendLink.mono hle59 h0_1
  refine WL.vS hS hE (runs_plain rfl) (Gives.p hE rfl) rfl ?_; clear hE a; intro a hE
  refine WL.vS hS hE (runs_plain rfl) (Gives.p hE rfl) rfl ?_; clear hE a; intro a hE
  refine WL.vS hS hE (runs_plain rfl) (Gives.p hE rfl) rfl ?_; clear hE a; intro a hE
  refine WL.vS hS hE (runs_plain rfl) (Gives.p hE rfl) rfl ?_; clear hE a; intro a hE
  refine WL.vS hS hE (runs_plain rfl) (Gives.p hE rfl) rfl ?_; clear hE a; intro a hE
  refine WL.vS hS hE (runs_plain rfl) (Gives.p hE rfl) rfl ?_; clear hE a; intro a hE
  refine WL.vS hS hE (runs_plain rfl) (Gives.p hE rfl) rfl ?_; clear hE a; intro a hE
  refine WL.nil ?_
  refine W.seq ?_
  obtain ⟨q61, hq60, hr⟩ := bndS hr
  refine W.cut (fun a w => ∃ (q64 : Bool), q64 = q61 ∧ Rep a 22 [(2, .bool q64)] ∧ St w s58 (pt b51 (.cells #[.int .i64 x0.Period, .slice a0_0 x0.Plan.length c0_0, .slice a0_1 x0.Links.length c0_1] 25 (0, 0)) :: R)) ?_ ?_
  · refine W.gen fun K65 hK65 => ?_
    refine W.region ?_
    refine WL.vS hS hE (runs_plain rfl) (Gives.p hE rfl) rfl ?_; clear hE a; intro a hE
    refine WL.vS hS hE (runs_plain rfl) (Gives.isNilZ hE (isNone_eq h56 hz57) rfl rfl isl22) rfl ?_; clear hE a; intro a hE
    refine WL.vS hS hE (runs_plain rfl) (Gives.p hE rfl) rfl ?_; clear hE a; intro a hE
    rcases Bool.eq_false_or_eq_true q52.2.2.isEmpty with hg66 | hg66
    · replace hq60 := iteT hg66 hq60
      refine WL.no hE (runs_not hE rfl rfl rfl (by rw [hg66]; decide)) rfl ?_; clear hE a; intro a hE
      refine WL.no hE (runs_not hE rfl rfl rfl (by rw [hg66]; decide)) rfl ?_; clear hE a; intro a hE
      refine WL.no hE (runs_not hE rfl rfl rfl (by rw [hg66]; decide)) rfl ?_; clear hE a; intro a hE
      refine WL.no hE (runs_not hE rfl rfl rfl (by rw [hg66]; decide)) rfl ?_; clear hE a; intro a hE
      refine WL.no hE (runs_not hE rfl rfl rfl (by rw [hg66]; decide)) rfl ?_; clear hE a; intro a hE
      refine WL.no hE (runs_not hE rfl rfl rfl (by rw [hg66]; decide)) rfl ?_; clear hE a; intro a hE
      refine WL.vS hS hE (runs_plain rfl) (Gives.pickT hE rfl hg66 rfl) rfl ?_; clear hE a; intro a hE
      refine WL.vS hS hE (runs_plain rfl) (Gives.p hE rfl) rfl ?_; clear hE a; intro a hE
      refine WL.nil ?_
      subst hK65
      exact ⟨true, hq60, hE.pick _ ⟨rfl, trivial⟩, hS⟩
    · replace hq60 := iteF hg66 hq60
      refine WL.vS hS hE (runs_if hE rfl rfl rfl hg66) (Gives.p hE rfl) rfl ?_; clear hE a; intro a hE
      refine WL.vS hS hE (runs_if hE rfl rfl rfl hg66) (Gives.p hE rfl) rfl ?_; clear hE a; intro a hE
      refine WL.vS hS hE (runs_if hE rfl rfl rfl hg66) (Gives.fld hE rfl fl25_0) rfl ?_; clear hE a; intro a hE
      refine WL.vS hS hE (runs_if hE rfl rfl rfl hg66) (Gives.loadB hE 0 rfl rfl rfl ty3) rfl ?_; clear hE a; intro a hE
      refine WL.vS hS hE (runs_if hE rfl rfl rfl hg66) (Gives.p hE rfl) rfl ?_; clear hE a; intro a hE
      refine WL.vS hS hE (runs_if hE rfl rfl rfl hg66) (Gives.p hE rfl) rfl ?_; clear hE a; intro a hE
      refine WL.vS hS hE (runs_plain rfl) (Gives.pickF hE rfl hg66 rfl) rfl ?_; clear hE a; intro a hE
      refine WL.vS hS hE (runs_plain rfl) (Gives.p hE rfl) rfl ?_; clear hE a; intro a hE
      refine WL.nil ?_
      subst hK65
      exact ⟨decide (q52.1 < (w64 (q52.2.1 * x0.Period))), hq60, hE.pick _ ⟨rfl, trivial⟩, hS⟩
  · clear hE hS a w; rintro a w ⟨q64, rfl, hE, hS⟩
    refine W.ret ?_
    refine finG (fn := Try.f50) (rs := [.tmp 2]) (vs := [_]) hE rfl ⟨rfl, trivial⟩ ?_
    obtain rfl := Option.some.inj hr
    replace hS := hS.tail
    exact ⟨rfl, (hS.down hle59)⟩
set_option maxHeartbeats 8000000 in
theorem MendStable_ok {fu : Nat}  {w : World} {s : Sg} {R : List HP} {x0 : MendRound} {a0_0 : Option Addr} {c0_0 : Nat} {a0_1 : Option Addr} {c0_1 : Nat} (hS : St w s (R)) (h0_0 : Sl 1 (RI .i64) s a0_0 c0_0 x0.Plan) (h0_1 : Sl 4 RMendLink s a0_1 c0_1 x0.Links) {r : Bool × Int} (hr : MendStable fu x0 = some r) :
    Calls Try.prog 13 [.agg [.int .i64 x0.Period, .slice a0_0 x0.Plan.length c0_0, .slice a0_1 x0.Links.length c0_1].toArray].toArray w (fun e w => e = .returned (.tuple #[.bool r.1, .int .i64 r.2]) ∧ St w s (R)) := by
  refine enter Try.func13 rfl rfl rfl fun a hE => ?_
  rw [MendStable] at hr
  refine W.seq ?_
  refine W.region ?_
  refine WL.box hE hS (runs_plain rfl) rfl rfl rfl ?_; clear hE hS a w; intro b51 a w hE hS
  refine WL.vS hS hE (runs_plain rfl) (Gives.p hE rfl) rfl ?_; clear hE a; intro a hE
  refine WL.vS hS hE (runs_plain rfl) (Gives.p hE rfl) rfl ?_; clear hE a; intro a hE
  refine WL.nil ?_
  refine W.seq ?_
  refine W.seq ?_
  refine W.region ?_
  refine WL.vS hS hE (runs_plain rfl) (Gives.loadBA hE 0 rfl rfl ty25) rfl ?_; clear hE a; intro a hE
  obtain ⟨q52, hq53, hr⟩ := bindS hr
  have hc_ := MendCheckRound_ok hS h0_0 h0_1 hq53
  refine WL.fnq hE (hc_) (runs_plain rfl) bd16 rfl rfl rfl ?_
  clear hE hS hc_; rintro e w ⟨rfl, hS⟩; refine ⟨_, rfl, ?_⟩; clear a; intro a hE
  refine WL.vS hS hE (runs_plain rfl) (Gives.p hE rfl) rfl ?_; clear hE a; intro a hE
  refine WL.nil ?_
  refine W.seq ?_
  refine W.region ?_
  refine WL.vS hS hE (runs_plain rfl) (Gives.p hE rfl) rfl ?_; clear hE a; intro a hE
  refine WL.vS hS hE (runs_plain rfl) (Gives.p hE rfl) rfl ?_; clear hE a; intro a hE
  refine WL.nil ?_
  refine W.cond hE rfl (fun hc54 => ?_) (fun hc54 => ?_)
  · replace hr := iteT hc54 hr
    refine W.seq ?_
    refine W.region ?_
    refine WL.vS hS hE (runs_plain rfl) (Gives.p hE rfl) rfl ?_; clear hE a; intro a hE
    refine WL.vS hS hE (runs_plain rfl) (Gives.p hE rfl) rfl ?_; clear hE a; intro a hE
    refine WL.vS hS hE (runs_plain rfl) (Gives.p hE rfl) rfl ?_; clear hE a; intro a hE
    refine WL.nil ?_
    refine W.ret ?_
    refine finG (fn := Try.f13) (rs := [.tmp 2, .tmp 3]) (vs := [_, _]) hE rfl ⟨rfl, rfl, trivial⟩ ?_
    obtain rfl := Option.some.inj hr
    replace hS := hS.tail
    exact ⟨rfl, hS⟩
  · replace hr := iteF hc54 hr
    refine W.skip ?_
    refine W.seq ?_
    refine W.region ?_
    refine WL.vS hS hE (runs_plain rfl) (Gives.loadBA hE 0 rfl rfl ty25) rfl ?_; clear hE a; intro a hE
    obtain ⟨q55, hq56, hr⟩ := bindS hr
    have hc_ := MendRoundstable_ok hS h0_0 h0_1 hq56
    refine WL.fnq hE (hc_) (runs_plain rfl) bd50 rfl rfl rfl ?_
    clear hE hS hc_; rintro e w ⟨rfl, hS⟩; refine ⟨_, rfl, ?_⟩; clear a; intro a hE
    refine WL.vS hS hE (runs_plain rfl) (Gives.p hE rfl) rfl ?_; clear hE a; intro a hE
    refine WL.vS hS hE (runs_plain rfl) (Gives.p hE rfl) rfl ?_; clear hE a; intro a hE
    refine WL.nil ?_
    refine W.ret ?_
    refine finG (fn := Try.f13) (rs := [.tmp 2, .tmp 3]) (vs := [_, _]) hE rfl ⟨rfl, rfl, trivial⟩ ?_
    obtain rfl := Option.some.inj hr
    replace hS := hS.tail
    exact ⟨rfl, hS⟩
set_option maxHeartbeats 8000000 in
theorem Fishref2within_ok  {w : World} {s : Sg} {R : List HP} {x0 : Int} {x1 : Int} {x2 : Int} (hS : St w s (R))  {r : Bool} (hr : Fishref2within x0 x1 x2 = r) :
    Calls Try.prog 51 [.int .i64 x0, .int .i64 x1, .int .i64 x2].toArray w (fun e w => e = .returned (.bool r) ∧ St w s (R)) := by
  refine enter Try.func51 rfl rfl rfl fun a hE => ?_
  rw [Fishref2within] at hr
  refine W.seq ?_
  refine W.region ?_
  refine WL.vS hS hE (runs_plain rfl) (Gives.p hE rfl) rfl ?_; clear hE a; intro a hE
  refine WL.nil ?_
  refine W.seq ?_
  obtain ⟨q52, hq51, hr⟩ := bndS hr
  refine W.cut (fun a w => ∃ (q55 : Bool), q55 = q52 ∧ Rep a 15 [(6, .bool q55)] ∧ St w s (R)) ?_ ?_
  · refine W.gen fun K56 hK56 => ?_
    refine W.region ?_
    refine WL.vS hS hE (runs_plain rfl) (Gives.p hE rfl) rfl ?_; clear hE a; intro a hE
    refine WL.vS hS hE (runs_plain rfl) (Gives.p hE rfl) rfl ?_; clear hE a; intro a hE
    refine WL.vS hS hE (runs_plain rfl) (Gives.p hE rfl) rfl ?_; clear hE a; intro a hE
    refine WL.vS hS hE (runs_plain rfl) (Gives.p hE rfl) rfl ?_; clear hE a; intro a hE
    rcases Bool.eq_false_or_eq_true (decide (x0 ≥ x1)) with hg57 | hg57
    · replace hq51 := iteT hg57 hq51
      refine WL.vS hS hE (runs_if hE rfl rfl rfl hg57) (Gives.p hE rfl) rfl ?_; clear hE a; intro a hE
      refine WL.vS hS hE (runs_if hE rfl rfl rfl hg57) (Gives.p hE rfl) rfl ?_; clear hE a; intro a hE
      refine WL.vS hS hE (runs_if hE rfl rfl rfl hg57) (Gives.p hE rfl) rfl ?_; clear hE a; intro a hE
      refine WL.vS hS hE (runs_plain rfl) (Gives.pickT hE rfl hg57 rfl) rfl ?_; clear hE a; intro a hE
      refine WL.vS hS hE (runs_plain rfl) (Gives.p hE rfl) rfl ?_; clear hE a; intro a hE
      refine WL.nil ?_
      subst hK56
      exact ⟨decide (x0 ≤ x2), hq51, hE.pick _ ⟨rfl, trivial⟩, hS⟩
    · replace hq51 := iteF hg57 hq51
      refine WL.no hE (runs_not hE rfl rfl rfl (by rw [hg57]; decide)) rfl ?_; clear hE a; intro a hE
      refine WL.no hE (runs_not hE rfl rfl rfl (by rw [hg57]; decide)) rfl ?_; clear hE a; intro a hE
      refine WL.no hE (runs_not hE rfl rfl rfl (by rw [hg57]; decide)) rfl ?_; clear hE a; intro a hE
      refine WL.vS hS hE (runs_plain rfl) (Gives.pickF hE rfl hg57 rfl) rfl ?_; clear hE a; intro a hE
      refine WL.vS hS hE (runs_plain rfl) (Gives.p hE rfl) rfl ?_; clear hE a; intro a hE
      refine WL.nil ?_
      subst hK56
      exact ⟨false, hq51, hE.pick _ ⟨rfl, trivial⟩, hS⟩
  · clear hE hS a w; rintro a w ⟨q55, rfl, hE, hS⟩
    refine W.ret ?_
    refine finG (fn := Try.f51) (rs := [.tmp 6]) (vs := [_]) hE rfl ⟨rfl, trivial⟩ ?_
    subst hr
    exact ⟨rfl, hS⟩
set_option maxHeartbeats 8000000 in
theorem Fishref2SlackOf_ok  {w : World} {s : Sg} {R : List HP} {x0 : MendRound} {a0_0 : Option Addr} {c0_0 : Nat} {a0_1 : Option Addr} {c0_1 : Nat} {x1 : MendLink} (hS : St w s (R)) (h0_0 : Sl 1 (RI .i64) s a0_0 c0_0 x0.Plan) (_h0_1 : Sl 4 RMendLink s a0_1 c0_1 x0.Links) {r : Int} (hr : Fishref2SlackOf x0 x1 = some r) :
    Calls Try.prog 52 [.agg [.int .i64 x0.Period, .slice a0_0 x0.Plan.length c0_0, .slice a0_1 x0.Links.length c0_1].toArray, .agg (MendLink.cells x1).toArray].toArray w (fun e w => e = .returned (.int .i64 r) ∧ St w s (R)) := by
  refine enter Try.func52 rfl rfl rfl fun a hE => ?_
  rw [Fishref2SlackOf] at hr
  refine W.seq ?_
  refine W.region ?_
  refine WL.box hE hS (runs_plain rfl) rfl rfl rfl ?_; clear hE hS a w; intro b51 a w hE hS
  refine WL.box hE hS (runs_plain rfl) rfl rfl rfl ?_; clear hE hS a w; intro b52 a w hE hS
  refine WL.vS hS hE (runs_plain rfl) (Gives.p hE rfl) rfl ?_; clear hE a; intro a hE
  refine WL.nil ?_
  refine W.seq ?_
  refine W.regionQ (C := fun w => St w s (pt b52 (.cells (MendLink.cells x1).toArray 36 (0, 0)) :: pt b51 (.cells #[.int .i64 x0.Period, .slice a0_0 x0.Plan.length c0_0, .slice a0_1 x0.Links.length c0_1] 25 (0, 0)) :: R)) mixed (by kernel_rfl) hS.drew ?_
  refine QL.v hE (runs_plain rfl) (Gives.fld hE rfl fl25_1) rfl ?_; clear hE a; intro a hE
  refine QL.v hE (runs_plain rfl) (Gives.loadB hE 1 rfl rfl rfl ty22) rfl ?_; clear hE a; intro a hE
  refine QL.v hE (runs_plain rfl) (Gives.fld hE rfl fl36_1) rfl ?_; clear hE a; intro a hE
  refine QL.v hE (runs_plain rfl) (Gives.loadB hE 0 rfl rfl rfl ty3) rfl ?_; clear hE a; intro a hE
  obtain ⟨x53, hx54, hr⟩ := bindS hr
  obtain ⟨hi55, hlt56, hy57⟩ := gx_some hx54
  obtain ⟨cs58, hl59, hR60, hat61⟩ := h0_0.at hy57
  subst hR60
  refine QL.v hE (runs_plain rfl) (Gives.idx hE (x1.To).toNat rfl rfl sl22 hi55 hlt56 (h0_0.aok hlt56)) rfl ?_; clear hE a; intro a hE
  refine QL.v hE (runs_plain rfl) (Gives.load1 hE rfl (fun w h => hat61 w _ h) ty3) rfl ?_; clear hE a; intro a hE
  refine QL.v hE (runs_plain rfl) (Gives.fld hE rfl fl25_1) rfl ?_; clear hE a; intro a hE
  refine QL.v hE (runs_plain rfl) (Gives.loadB hE 1 rfl rfl rfl ty22) rfl ?_; clear hE a; intro a hE
  refine QL.v hE (runs_plain rfl) (Gives.fld hE rfl fl36_0) rfl ?_; clear hE a; intro a hE
  refine QL.v hE (runs_plain rfl) (Gives.loadB hE 0 rfl rfl rfl ty3) rfl ?_; clear hE a; intro a hE
  obtain ⟨x62, hx63, hr⟩ := bindS hr
  obtain ⟨hi64, hlt65, hy66⟩ := gx_some hx63
  obtain ⟨cs67, hl68, hR69, hat70⟩ := h0_0.at hy66
  subst hR69
  refine QL.v hE (runs_plain rfl) (Gives.idx hE (x1.From).toNat rfl rfl sl22 hi64 hlt65 (h0_0.aok hlt65)) rfl ?_; clear hE a; intro a hE
  refine QL.v hE (runs_plain rfl) (Gives.load1 hE rfl (fun w h => hat70 w _ h) ty3) rfl ?_; clear hE a; intro a hE
  refine QL.v hE (runs_plain rfl) (Gives.p hE rfl) rfl ?_; clear hE a; intro a hE
  refine QL.v hE (runs_plain rfl) (Gives.fld hE rfl fl36_3) rfl ?_; clear hE a; intro a hE
  refine QL.v hE (runs_plain rfl) (Gives.loadB hE 0 rfl rfl rfl ty3) rfl ?_; clear hE a; intro a hE
  refine QL.v hE (runs_plain rfl) (Gives.fld hE rfl fl25_0) rfl ?_; clear hE a; intro a hE
  refine QL.v hE (runs_plain rfl) (Gives.loadB hE 1 rfl rfl rfl ty3) rfl ?_; clear hE a; intro a hE
  refine QL.v hE (runs_plain rfl) (Gives.p hE rfl) rfl ?_; clear hE a; intro a hE
  refine QL.v hE (runs_plain rfl) (Gives.p hE rfl) rfl ?_; clear hE a; intro a hE
  refine QL.v hE (runs_plain rfl) (Gives.fld hE rfl fl36_2) rfl ?_; clear hE a; intro a hE
  refine QL.v hE (runs_plain rfl) (Gives.loadB hE 0 rfl rfl rfl ty3) rfl ?_; clear hE a; intro a hE
  refine QL.v hE (runs_plain rfl) (Gives.p hE rfl) rfl ?_; clear hE a; intro a hE
  refine QL.v hE (runs_plain rfl) (Gives.p hE rfl) rfl ?_; clear hE a; intro a hE
  refine QL.nil ?_; clear hS w; intro w hS
  refine W.ret ?_
  refine finG (fn := Try.f52) (rs := [.tmp 4]) (vs := [_]) hE rfl ⟨rfl, trivial⟩ ?_
  obtain rfl := Option.some.inj hr
  replace hS := hS.tail
  replace hS := hS.tail
  exact ⟨rfl, hS⟩
set_option maxHeartbeats 8000000 in
theorem SlicesIndexLbool_ok  {w : World} {s : Sg} {R : List HP} {x0 : List Bool} {a0 : Option Addr} {c0 : Nat} {x1 : Bool} (hS : St w s (R)) (h0 : Sl 1 RB s a0 c0 x0) {r : Int} (hr : SlicesIndexLbool x0 x1 = r) :
    Calls Try.prog 84 [.slice a0 x0.length c0, .bool x1].toArray w (fun e w => e = .returned (.int .i64 r) ∧ St w s (R)) := by
  refine enter Try.func84 rfl rfl rfl fun a hE => ?_
  rw [SlicesIndexLbool] at hr
  refine W.seq ?_
  refine W.region ?_
  refine WL.vS hS hE (runs_plain rfl) (Gives.p hE rfl) rfl ?_; clear hE a; intro a hE
  refine WL.nil ?_
  refine W.seq ?_
  refine W.seq ?_
  refine W.region ?_
  refine WL.vS hS hE (runs_plain rfl) (Gives.p hE rfl) rfl ?_; clear hE a; intro a hE
  refine WL.vS hS hE (runs_plain rfl) (Gives.len hE rfl sl82) rfl ?_; clear hE a; intro a hE
  refine WL.vS hS hE (runs_plain rfl) (Gives.p hE rfl) rfl ?_; clear hE a; intro a hE
  refine WL.nil ?_
  obtain ⟨q52, hq51, hr⟩ := bndS hr
  refine W.cut (fun a w => (.next ()) = q52 ∧ Rep a 19 [] ∧ St w s (R)) ?_ ?_
  · refine W.block ?_
    refine W.loop (fun m a w => ∃ (rest55 : List Bool) (k53 : Nat), rest55.length = m ∧ x0.drop k53 = rest55 ∧ SlicesIndexLbool.loop1 x1 rest55 k53 = q52 ∧ Rep a 19 [(0, .slice a0 x0.length c0), (1, .bool x1), (7, .int .i64 ((x0).length : Int)), (8, .int .i64 ((k53 : Nat) : Int))] ∧ St w s (R)) (m := x0.length) ⟨x0, 0, rfl, rfl, hq51, hE.pick _ ⟨rfl, rfl, rfl, rfl, trivial⟩, hS⟩ ?_
    clear hE hS a w hq51; rintro m59 a w ⟨rest55, k53, rfl, hd56, hq51, hE, hS⟩
    refine W.gen fun K62 hK62 => ?_
    rcases rest55 with _ | ⟨x54, rest55⟩
    · have hlt57 := drop_nil hd56
      refine W.seq ?_
      refine W.region ?_
      refine WL.vS hS hE (runs_plain rfl) (Gives.p hE rfl) rfl ?_; clear hE a; intro a hE
      refine WL.nil ?_
      refine W.seq ?_
      refine W.condF hE rfl (decide_eq_false (by omega)) ?_
      subst hK62
      refine W.exit rfl ?_
      exact ⟨hq51, hE.pick _ trivial, hS⟩
    · obtain ⟨hlt57, hx58, hd56⟩ := drop_cons hd56
      rw [SlicesIndexLbool.loop1] at hq51
      refine W.seq ?_
      refine W.region ?_
      refine WL.vS hS hE (runs_plain rfl) (Gives.p hE rfl) rfl ?_; clear hE a; intro a hE
      refine WL.nil ?_
      refine W.seq ?_
      refine W.condT hE rfl (decide_eq_true (by omega)) ?_
      refine W.skip ?_
      refine W.seq ?_
      refine W.block ?_
      refine W.seq ?_
      refine W.region ?_
      refine WL.vS hS hE (runs_plain rfl) (Gives.p hE rfl) rfl ?_; clear hE a; intro a hE
      refine WL.vS hS hE (runs_plain rfl) (Gives.p hE rfl) rfl ?_; clear hE a; intro a hE
      refine WL.nil ?_
      refine W.seq ?_
      refine W.region ?_
      refine WL.vS hS hE (runs_plain rfl) (Gives.p hE rfl) rfl ?_; clear hE a; intro a hE
      refine WL.vS hS hE (runs_plain rfl) (Gives.p hE rfl) rfl ?_; clear hE a; intro a hE
      refine WL.vS hS hE (runs_plain rfl) (Gives.p hE rfl) rfl ?_; clear hE a; intro a hE
      obtain ⟨cs63, hl64, hR65, hat66⟩ := h0.at hx58
      subst hR65
      refine WL.vS hS hE (runs_plain rfl) (Gives.idx hE k53 rfl rfl sl82 rfl hlt57 (h0.aok hlt57)) rfl ?_; clear hE a; intro a hE
      refine WL.vS hS hE (runs_plain rfl) (Gives.load1 hE rfl (fun w h => hat66 w _ h) ty4) rfl ?_; clear hE a; intro a hE
      refine WL.vS hS hE (runs_plain rfl) (Gives.eqB hE rfl rfl bl4) rfl ?_; clear hE a; intro a hE
      refine WL.nil ?_
      refine W.cond hE rfl (fun hc67 => ?_) (fun hc67 => ?_)
      · replace hq51 := iteT hc67 hq51
        refine W.seq ?_
        refine W.region ?_
        refine WL.vS hS hE (runs_plain rfl) (Gives.p hE rfl) rfl ?_; clear hE a; intro a hE
        refine WL.vS hS hE (runs_plain rfl) (Gives.p hE rfl) rfl ?_; clear hE a; intro a hE
        refine WL.nil ?_
        refine W.ret ?_
        subst hK62
        rw [← hq51] at hr
        dsimp only at hr
        refine finG (fn := Try.f84) (rs := [.tmp 4]) (vs := [_]) hE rfl ⟨rfl, trivial⟩ ?_
        subst hr
        exact ⟨rfl, hS⟩
      · replace hq51 := iteF hc67 hq51
        refine W.skip ?_
        refine W.region ?_
        refine WL.vS hS hE (runs_plain rfl) (Gives.inc hE rfl (by have := h0.small; omega)) rfl ?_; clear hE a; intro a hE
        refine WL.vS hS hE (runs_plain rfl) (Gives.p hE rfl) rfl ?_; clear hE a; intro a hE
        refine WL.nil ?_
        subst hK62
        exact ⟨rest55.length, Nat.lt_succ_self _, rest55, k53 + 1, rfl, hd56, hq51, hE.pick _ ⟨rfl, rfl, rfl, rfl, trivial⟩, hS⟩
  · clear hE hS a w; rintro a w ⟨rfl, hE, hS⟩
    dsimp only at hr
    refine W.seq ?_
    refine W.region ?_
    refine WL.vS hS hE (runs_plain rfl) (Gives.p hE rfl) rfl ?_; clear hE a; intro a hE
    refine WL.nil ?_
    refine W.ret ?_
    refine finG (fn := Try.f84) (rs := [.tmp 4]) (vs := [_]) hE rfl ⟨rfl, trivial⟩ ?_
    subst hr
    exact ⟨rfl, hS⟩
set_option maxHeartbeats 8000000 in
theorem SlicesContainsLbool_ok  {w : World} {s : Sg} {R : List HP} {x0 : List Bool} {a0 : Option Addr} {c0 : Nat} {x1 : Bool} (hS : St w s (R)) (h0 : Sl 1 RB s a0 c0 x0) {r : Bool} (hr : SlicesContainsLbool x0 x1 = r) :
    Calls Try.prog 53 [.slice a0 x0.length c0, .bool x1].toArray w (fun e w => e = .returned (.bool r) ∧ St w s (R)) := by
  refine enter Try.func53 rfl rfl rfl fun a hE => ?_
  rw [SlicesContainsLbool] at hr
  refine W.seq ?_
  refine W.region ?_
  refine WL.vS hS hE (runs_plain rfl) (Gives.p hE rfl) rfl ?_; clear hE a; intro a hE
  refine WL.nil ?_
  refine W.seq ?_
  refine W.region ?_
  refine WL.vS hS hE (runs_plain rfl) (Gives.p hE rfl) rfl ?_; clear hE a; intro a hE
  refine WL.vS hS hE (runs_plain rfl) (Gives.p hE rfl) rfl ?_; clear hE a; intro a hE
  refine WL.fnq hE (SlicesIndexLbool_ok hS h0 rfl (r := SlicesIndexLbool x0 x1)) (runs_plain rfl) bd84 rfl rfl rfl ?_
  clear hE hS; rintro e w ⟨rfl, hS⟩; refine ⟨_, rfl, ?_⟩; clear a; intro a hE
  refine WL.vS hS hE (runs_plain rfl) (Gives.p hE rfl) rfl ?_; clear hE a; intro a hE
  refine WL.vS hS hE (runs_plain rfl) (Gives.p hE rfl) rfl ?_; clear hE a; intro a hE
  refine WL.nil ?_
  refine W.ret ?_
  refine finG (fn := Try.f53) (rs := [.tmp 4]) (vs := [_]) hE rfl ⟨rfl, trivial⟩ ?_
  subst hr
  exact ⟨rfl, hS⟩
set_option maxHeartbeats 8000000 in
theorem Fishref2RoundFault_ok  {w : World} {s : Sg} {R : List HP} {x0 : MendRound} {a0_0 : Option Addr} {c0_0 : Nat} {a0_1 : Option Addr} {c0_1 : Nat} (hS : St w s (R)) (h0_0 : Sl 1 (RI .i64) s a0_0 c0_0 x0.Plan) (h0_1 : Sl 4 RMendLink s a0_1 c0_1 x0.Links) {r : Int} (hr : Fishref2RoundFault x0 = some r) :
    Calls Try.prog 14 [.agg [.int .i64 x0.Period, .slice a0_0 x0.Plan.length c0_0, .slice a0_1 x0.Links.length c0_1].toArray].toArray w (fun e w => e = .returned (.int .i64 r) ∧ St w s (R)) := by
  refine enter Try.func14 rfl rfl rfl fun a hE => ?_
  rw [Fishref2RoundFault] at hr
  refine W.seq ?_
  refine W.region ?_
  refine WL.box hE hS (runs_plain rfl) rfl rfl rfl ?_; clear hE hS a w; intro b51 a w hE hS
  refine WL.vS hS hE (runs_plain rfl) (Gives.p hE rfl) rfl ?_; clear hE a; intro a hE
  refine WL.nil ?_
  refine W.seq ?_
  refine W.seq ?_
  refine W.region ?_
  refine WL.vS hS hE (runs_plain rfl) (Gives.fld hE rfl fl25_0) rfl ?_; clear hE a; intro a hE
  refine WL.vS hS hE (runs_plain rfl) (Gives.loadB hE 0 rfl rfl rfl ty3) rfl ?_; clear hE a; intro a hE
  refine WL.fnq hE (Fishref2within_ok hS  rfl (r := Fishref2within x0.Period 1 3600)) (runs_plain rfl) bd51 rfl rfl rfl ?_
  clear hE hS; rintro e w ⟨rfl, hS⟩; refine ⟨_, rfl, ?_⟩; clear a; intro a hE
  refine WL.vS hS hE (runs_plain rfl) (Gives.p hE rfl) rfl ?_; clear hE a; intro a hE
  refine WL.nil ?_
  refine W.cond hE rfl (fun hc52 => ?_) (fun hc52 => ?_)
  · replace hr := iteT hc52 hr
    refine W.seq ?_
    refine W.region ?_
    refine WL.vS hS hE (runs_plain rfl) (Gives.p hE rfl) rfl ?_; clear hE a; intro a hE
    refine WL.nil ?_
    refine W.ret ?_
    refine finG (fn := Try.f14) (rs := [.tmp 2]) (vs := [_]) hE rfl ⟨rfl, trivial⟩ ?_
    obtain rfl := Option.some.inj hr
    replace hS := hS.tail
    exact ⟨rfl, hS⟩
  · replace hr := iteF hc52 hr
    refine W.skip ?_
    refine W.seq ?_
    refine W.region ?_
    refine WL.vS hS hE (runs_plain rfl) (Gives.fld hE rfl fl25_1) rfl ?_; clear hE a; intro a hE
    refine WL.vS hS hE (runs_plain rfl) (Gives.loadB hE 0 rfl rfl rfl ty22) rfl ?_; clear hE a; intro a hE
    refine WL.vS hS hE (runs_plain rfl) (Gives.len hE rfl sl22) rfl ?_; clear hE a; intro a hE
    refine WL.vS hS hE (runs_plain rfl) (Gives.p hE rfl) rfl ?_; clear hE a; intro a hE
    refine WL.nil ?_
    refine W.seq ?_
    refine W.seq ?_
    obtain ⟨q54, hq53, hr⟩ := bndS hr
    refine W.cut (fun a w => ∃ (q57 : Bool), q57 = q54 ∧ Rep a 138 [(1, .pointer (some ⟨b51, 0, none⟩)), (3, .int .i64 ((x0.Plan).length : Int)), (28, .bool q57)] ∧ St w s (pt b51 (.cells #[.int .i64 x0.Period, .slice a0_0 x0.Plan.length c0_0, .slice a0_1 x0.Links.length c0_1] 25 (0, 0)) :: R)) ?_ ?_
    · refine W.gen fun K58 hK58 => ?_
      refine W.region ?_
      refine WL.vS hS hE (runs_plain rfl) (Gives.p hE rfl) rfl ?_; clear hE a; intro a hE
      refine WL.fnq hE (Fishref2within_ok hS  rfl (r := Fishref2within ((x0.Plan).length : Int) 1 8)) (runs_plain rfl) bd51 rfl rfl rfl ?_
      clear hE hS; rintro e w ⟨rfl, hS⟩; refine ⟨_, rfl, ?_⟩; clear a; intro a hE
      refine WL.vS hS hE (runs_plain rfl) (Gives.p hE rfl) rfl ?_; clear hE a; intro a hE
      refine WL.vS hS hE (runs_plain rfl) (Gives.p hE rfl) rfl ?_; clear hE a; intro a hE
      rcases Bool.eq_false_or_eq_true (!(Fishref2within ((x0.Plan).length : Int) 1 8)) with hg59 | hg59
      · replace hq53 := iteT hg59 hq53
        refine WL.no hE (runs_not hE rfl rfl rfl (by rw [hg59]; decide)) rfl ?_; clear hE a; intro a hE
        refine WL.no hE (runs_not hE rfl rfl rfl (by rw [hg59]; decide)) rfl ?_; clear hE a; intro a hE
        refine WL.no hE (runs_not hE rfl rfl rfl (by rw [hg59]; decide)) rfl ?_; clear hE a; intro a hE
        refine WL.no hE (runs_not hE rfl rfl rfl (by rw [hg59]; decide)) rfl ?_; clear hE a; intro a hE
        refine WL.vS hS hE (runs_plain rfl) (Gives.pickT hE rfl hg59 rfl) rfl ?_; clear hE a; intro a hE
        refine WL.nil ?_
        subst hK58
        exact ⟨true, hq53, hE.pick _ ⟨rfl, rfl, rfl, trivial⟩, hS⟩
      · replace hq53 := iteF hg59 hq53
        refine WL.vS hS hE (runs_if hE rfl rfl rfl hg59) (Gives.fld hE rfl fl25_2) rfl ?_; clear hE a; intro a hE
        refine WL.vS hS hE (runs_if hE rfl rfl rfl hg59) (Gives.loadB hE 0 rfl rfl rfl ty23) rfl ?_; clear hE a; intro a hE
        refine WL.vS hS hE (runs_if hE rfl rfl rfl hg59) (Gives.len hE rfl sl23) rfl ?_; clear hE a; intro a hE
        refine WL.vS hS hE (runs_if hE rfl rfl rfl hg59) (Gives.p hE rfl) rfl ?_; clear hE a; intro a hE
        refine WL.vS hS hE (runs_plain rfl) (Gives.pickF hE rfl hg59 rfl) rfl ?_; clear hE a; intro a hE
        refine WL.nil ?_
        subst hK58
        exact ⟨decide (((x0.Links).length : Int) > 24), hq53, hE.pick _ ⟨rfl, rfl, rfl, trivial⟩, hS⟩
    · clear hE hS a w; rintro a w ⟨q57, rfl, hE, hS⟩
      refine W.cond hE rfl (fun hc60 => ?_) (fun hc60 => ?_)
      · replace hr := iteT hc60 hr
        refine W.seq ?_
        refine W.region ?_
        refine WL.vS hS hE (runs_plain rfl) (Gives.p hE rfl) rfl ?_; clear hE a; intro a hE
        refine WL.nil ?_
        refine W.ret ?_
        refine finG (fn := Try.f14) (rs := [.tmp 2]) (vs := [_]) hE rfl ⟨rfl, trivial⟩ ?_
        obtain rfl := Option.some.inj hr
        replace hS := hS.tail
        exact ⟨rfl, hS⟩
      · replace hr := iteF hc60 hr
        refine W.skip ?_
        refine W.seq ?_
        refine W.seq ?_
        refine W.region ?_
        refine WL.vS hS hE (runs_plain rfl) (Gives.fld hE rfl fl25_1) rfl ?_; clear hE a; intro a hE
        refine WL.vS hS hE (runs_plain rfl) (Gives.loadB hE 0 rfl rfl rfl ty22) rfl ?_; clear hE a; intro a hE
        refine WL.vS hS hE (runs_plain rfl) (Gives.len hE rfl sl22) rfl ?_; clear hE a; intro a hE
        refine WL.vS hS hE (runs_plain rfl) (Gives.p hE rfl) rfl ?_; clear hE a; intro a hE
        refine WL.nil ?_
        obtain ⟨q62, hq61, hr⟩ := bndS hr
        refine W.cut (fun a w => (.next ()) = q62 ∧ Rep a 138 [(1, .pointer (some ⟨b51, 0, none⟩)), (3, .int .i64 ((x0.Plan).length : Int))] ∧ St w s (pt b51 (.cells #[.int .i64 x0.Period, .slice a0_0 x0.Plan.length c0_0, .slice a0_1 x0.Links.length c0_1] 25 (0, 0)) :: R)) ?_ ?_
        · refine W.block ?_
          refine W.loop (fun m a w => ∃ (rest65 : List Int) (k63 : Nat), rest65.length = m ∧ x0.Plan.drop k63 = rest65 ∧ Fishref2RoundFault.loop1 x0 rest65 = q62 ∧ Rep a 138 [(1, .pointer (some ⟨b51, 0, none⟩)), (3, .int .i64 ((x0.Plan).length : Int)), (30, .slice a0_0 x0.Plan.length c0_0), (31, .int .i64 ((x0.Plan).length : Int)), (32, .int .i64 ((k63 : Nat) : Int))] ∧ St w s (pt b51 (.cells #[.int .i64 x0.Period, .slice a0_0 x0.Plan.length c0_0, .slice a0_1 x0.Links.length c0_1] 25 (0, 0)) :: R)) (m := x0.Plan.length) ⟨x0.Plan, 0, rfl, rfl, hq61, hE.pick _ ⟨rfl, rfl, rfl, rfl, rfl, trivial⟩, hS⟩ ?_
          clear hE hS a w hq61; rintro m69 a w ⟨rest65, k63, rfl, hd66, hq61, hE, hS⟩
          refine W.gen fun K72 hK72 => ?_
          rcases rest65 with _ | ⟨x64, rest65⟩
          · have hlt67 := drop_nil hd66
            refine W.seq ?_
            refine W.region ?_
            refine WL.vS hS hE (runs_plain rfl) (Gives.p hE rfl) rfl ?_; clear hE a; intro a hE
            refine WL.nil ?_
            refine W.seq ?_
            refine W.condF hE rfl (decide_eq_false (by omega)) ?_
            subst hK72
            refine W.exit rfl ?_
            exact ⟨hq61, hE.pick _ ⟨rfl, rfl, trivial⟩, hS⟩
          · obtain ⟨hlt67, hx68, hd66⟩ := drop_cons hd66
            rw [Fishref2RoundFault.loop1] at hq61
            refine W.seq ?_
            refine W.region ?_
            refine WL.vS hS hE (runs_plain rfl) (Gives.p hE rfl) rfl ?_; clear hE a; intro a hE
            refine WL.nil ?_
            refine W.seq ?_
            refine W.condT hE rfl (decide_eq_true (by omega)) ?_
            refine W.skip ?_
            refine W.seq ?_
            refine W.block ?_
            refine W.seq ?_
            refine W.region ?_
            obtain ⟨cs73, hl74, hR75, hat76⟩ := h0_0.at hx68
            subst hR75
            refine WL.vS hS hE (runs_plain rfl) (Gives.idx hE k63 rfl rfl sl22 rfl hlt67 (h0_0.aok hlt67)) rfl ?_; clear hE a; intro a hE
            refine WL.vS hS hE (runs_plain rfl) (Gives.load1 hE rfl (fun w h => hat76 w _ h) ty3) rfl ?_; clear hE a; intro a hE
            refine WL.vS hS hE (runs_plain rfl) (Gives.p hE rfl) rfl ?_; clear hE a; intro a hE
            refine WL.nil ?_
            refine W.seq ?_
            refine W.region ?_
            refine WL.vS hS hE (runs_plain rfl) (Gives.p hE rfl) rfl ?_; clear hE a; intro a hE
            refine WL.vS hS hE (runs_plain rfl) (Gives.fld hE rfl fl25_0) rfl ?_; clear hE a; intro a hE
            refine WL.vS hS hE (runs_plain rfl) (Gives.loadB hE 0 rfl rfl rfl ty3) rfl ?_; clear hE a; intro a hE
            refine WL.vS hS hE (runs_plain rfl) (Gives.p hE rfl) rfl ?_; clear hE a; intro a hE
            refine WL.fnq hE (Fishref2within_ok hS  rfl (r := Fishref2within x64 0 (w64 (x0.Period - 1)))) (runs_plain rfl) bd51 rfl rfl rfl ?_
            clear hE hS; rintro e w ⟨rfl, hS⟩; refine ⟨_, rfl, ?_⟩; clear a; intro a hE
            refine WL.vS hS hE (runs_plain rfl) (Gives.p hE rfl) rfl ?_; clear hE a; intro a hE
            refine WL.nil ?_
            refine W.cond hE rfl (fun hc77 => ?_) (fun hc77 => ?_)
            · replace hq61 := iteT hc77 hq61
              refine W.seq ?_
              refine W.region ?_
              refine WL.vS hS hE (runs_plain rfl) (Gives.p hE rfl) rfl ?_; clear hE a; intro a hE
              refine WL.nil ?_
              refine W.ret ?_
              subst hK72
              rw [← hq61] at hr
              dsimp only at hr
              refine finG (fn := Try.f14) (rs := [.tmp 2]) (vs := [_]) hE rfl ⟨rfl, trivial⟩ ?_
              obtain rfl := Option.some.inj hr
              replace hS := hS.tail
              exact ⟨rfl, hS⟩
            · replace hq61 := iteF hc77 hq61
              refine W.skip ?_
              refine W.region ?_
              refine WL.vS hS hE (runs_plain rfl) (Gives.inc hE rfl (by have := h0_0.small; omega)) rfl ?_; clear hE a; intro a hE
              refine WL.vS hS hE (runs_plain rfl) (Gives.p hE rfl) rfl ?_; clear hE a; intro a hE
              refine WL.nil ?_
              subst hK72
              exact ⟨rest65.length, Nat.lt_succ_self _, rest65, k63 + 1, rfl, hd66, hq61, hE.pick _ ⟨rfl, rfl, rfl, rfl, rfl, trivial⟩, hS⟩
        · clear hE hS a w; rintro a w ⟨rfl, hE, hS⟩
          dsimp only at hr
          refine W.seq ?_
          refine W.seq ?_
          refine W.region ?_
          refine WL.vS hS hE (runs_plain rfl) (Gives.fld hE rfl fl25_2) rfl ?_; clear hE a; intro a hE
          refine WL.vS hS hE (runs_plain rfl) (Gives.loadB hE 0 rfl rfl rfl ty23) rfl ?_; clear hE a; intro a hE
          refine WL.vS hS hE (runs_plain rfl) (Gives.len hE rfl sl23) rfl ?_; clear hE a; intro a hE
          refine WL.vS hS hE (runs_plain rfl) (Gives.p hE rfl) rfl ?_; clear hE a; intro a hE
          refine WL.nil ?_
          obtain ⟨q79, hq78, hr⟩ := bindS hr
          refine W.cut (fun a w => (.next ()) = q79 ∧ Rep a 138 [(1, .pointer (some ⟨b51, 0, none⟩)), (3, .int .i64 ((x0.Plan).length : Int))] ∧ St w s (pt b51 (.cells #[.int .i64 x0.Period, .slice a0_0 x0.Plan.length c0_0, .slice a0_1 x0.Links.length c0_1] 25 (0, 0)) :: R)) ?_ ?_
          · refine W.block ?_
            refine W.loop (fun m a w => ∃ (rest82 : List MendLink) (k80 : Nat), rest82.length = m ∧ x0.Links.drop k80 = rest82 ∧ Fishref2RoundFault.loop2 x0 rest82 = some q79 ∧ Rep a 138 [(1, .pointer (some ⟨b51, 0, none⟩)), (3, .int .i64 ((x0.Plan).length : Int)), (44, .slice a0_1 x0.Links.length c0_1), (45, .int .i64 ((x0.Links).length : Int)), (46, .int .i64 ((k80 : Nat) : Int))] ∧ St w s (pt b51 (.cells #[.int .i64 x0.Period, .slice a0_0 x0.Plan.length c0_0, .slice a0_1 x0.Links.length c0_1] 25 (0, 0)) :: R)) (m := x0.Links.length) ⟨x0.Links, 0, rfl, rfl, hq78, hE.pick _ ⟨rfl, rfl, rfl, rfl, rfl, trivial⟩, hS⟩ ?_
            clear hE hS a w hq78; rintro m86 a w ⟨rest82, k80, rfl, hd83, hq78, hE, hS⟩
            refine W.gen fun K89 hK89 => ?_
            rcases rest82 with _ | ⟨x81, rest82⟩
            · have hlt84 := drop_nil hd83
              refine W.seq ?_
              refine W.region ?_
              refine WL.vS hS hE (runs_plain rfl) (Gives.p hE rfl) rfl ?_; clear hE a; intro a hE
              refine WL.nil ?_
              refine W.seq ?_
              refine W.condF hE rfl (decide_eq_false (by omega)) ?_
              subst hK89
              refine W.exit rfl ?_
              exact ⟨Option.some.inj hq78, hE.pick _ ⟨rfl, rfl, trivial⟩, hS⟩
            · obtain ⟨hlt84, hx85, hd83⟩ := drop_cons hd83
              rw [Fishref2RoundFault.loop2] at hq78
              refine W.seq ?_
              refine W.region ?_
              refine WL.vS hS hE (runs_plain rfl) (Gives.p hE rfl) rfl ?_; clear hE a; intro a hE
              refine WL.nil ?_
              refine W.seq ?_
              refine W.condT hE rfl (decide_eq_true (by omega)) ?_
              refine W.skip ?_
              refine W.seq ?_
              refine W.block ?_
              refine W.seq ?_
              refine W.region ?_
              obtain ⟨cs90, hl91, hR92, hat93⟩ := h0_1.at hx85
              subst hR92
              refine WL.vS hS hE (runs_plain rfl) (Gives.idx hE k80 rfl rfl sl23 rfl hlt84 (h0_1.aok hlt84)) rfl ?_; clear hE a; intro a hE
              refine WL.vS hS hE (runs_plain rfl) (Gives.loadA hE rfl (fun w h => hat93 w _ h) ty36) rfl ?_; clear hE a; intro a hE
              refine WL.alloc hE hS (runs_plain rfl) zr36 rfl ?_; clear hE hS a w; intro b94 a w hE hS
              refine WL.storeI hE hS 0 rfl (MendLink.cells x81) (runs_plain rfl) rfl rfl rfl ty36 rfl rfl rfl rfl ?_; clear hE hS a w; intro a w hE hS
              refine WL.nil ?_
              refine W.block ?_
              refine W.seq ?_
              obtain ⟨q96, hq95, hq78⟩ := bndS hq78
              refine W.cut (fun a w => ∃ (q99 : Bool), q99 = q96 ∧ Rep a 138 [(1, .pointer (some ⟨b51, 0, none⟩)), (3, .int .i64 ((x0.Plan).length : Int)), (7, .pointer (some ⟨b94, 0, none⟩)), (44, .slice a0_1 x0.Links.length c0_1), (45, .int .i64 ((x0.Links).length : Int)), (46, .int .i64 ((k80 : Nat) : Int)), (50, .bool q99)] ∧ St w s (pt b94 (.cells (MendLink.cells x81).toArray 36 (0, 0)) :: pt b51 (.cells #[.int .i64 x0.Period, .slice a0_0 x0.Plan.length c0_0, .slice a0_1 x0.Links.length c0_1] 25 (0, 0)) :: R)) ?_ ?_
              · refine W.gen fun K100 hK100 => ?_
                refine W.region ?_
                refine WL.vS hS hE (runs_plain rfl) (Gives.fld hE rfl fl36_0) rfl ?_; clear hE a; intro a hE
                refine WL.vS hS hE (runs_plain rfl) (Gives.loadB hE 0 rfl rfl rfl ty3) rfl ?_; clear hE a; intro a hE
                refine WL.vS hS hE (runs_plain rfl) (Gives.p hE rfl) rfl ?_; clear hE a; intro a hE
                refine WL.vS hS hE (runs_plain rfl) (Gives.p hE rfl) rfl ?_; clear hE a; intro a hE
                rcases Bool.eq_false_or_eq_true (decide (x81.From < 0)) with hg101 | hg101
                · replace hq95 := iteT hg101 hq95
                  refine WL.no hE (runs_not hE rfl rfl rfl (by rw [hg101]; decide)) rfl ?_; clear hE a; intro a hE
                  refine WL.no hE (runs_not hE rfl rfl rfl (by rw [hg101]; decide)) rfl ?_; clear hE a; intro a hE
                  refine WL.no hE (runs_not hE rfl rfl rfl (by rw [hg101]; decide)) rfl ?_; clear hE a; intro a hE
                  refine WL.no hE (runs_not hE rfl rfl rfl (by rw [hg101]; decide)) rfl ?_; clear hE a; intro a hE
                  refine WL.vS hS hE (runs_plain rfl) (Gives.pickT hE rfl hg101 rfl) rfl ?_; clear hE a; intro a hE
                  refine WL.vS hS hE (runs_plain rfl) (Gives.p hE rfl) rfl ?_; clear hE a; intro a hE
                  refine WL.no hE (runs_not hE rfl rfl rfl (by decide)) rfl ?_; clear hE a; intro a hE
                  refine WL.no hE (runs_not hE rfl rfl rfl (by decide)) rfl ?_; clear hE a; intro a hE
                  refine WL.no hE (runs_not hE rfl rfl rfl (by decide)) rfl ?_; clear hE a; intro a hE
                  refine WL.vS hS hE (runs_plain rfl) (Gives.pickT hE rfl rfl rfl) rfl ?_; clear hE a; intro a hE
                  refine WL.vS hS hE (runs_plain rfl) (Gives.p hE rfl) rfl ?_; clear hE a; intro a hE
                  refine WL.no hE (runs_not hE rfl rfl rfl (by decide)) rfl ?_; clear hE a; intro a hE
                  refine WL.no hE (runs_not hE rfl rfl rfl (by decide)) rfl ?_; clear hE a; intro a hE
                  refine WL.no hE (runs_not hE rfl rfl rfl (by decide)) rfl ?_; clear hE a; intro a hE
                  refine WL.no hE (runs_not hE rfl rfl rfl (by decide)) rfl ?_; clear hE a; intro a hE
                  refine WL.vS hS hE (runs_plain rfl) (Gives.pickT hE rfl rfl rfl) rfl ?_; clear hE a; intro a hE
                  refine WL.vS hS hE (runs_plain rfl) (Gives.p hE rfl) rfl ?_; clear hE a; intro a hE
                  refine WL.nil ?_
                  subst hK100
                  exact ⟨true, hq95, hE.pick _ ⟨rfl, rfl, rfl, rfl, rfl, rfl, rfl, trivial⟩, hS⟩
                · replace hq95 := iteF hg101 hq95
                  refine WL.vS hS hE (runs_if hE rfl rfl rfl hg101) (Gives.fld hE rfl fl36_0) rfl ?_; clear hE a; intro a hE
                  refine WL.vS hS hE (runs_if hE rfl rfl rfl hg101) (Gives.loadB hE 0 rfl rfl rfl ty3) rfl ?_; clear hE a; intro a hE
                  refine WL.vS hS hE (runs_if hE rfl rfl rfl hg101) (Gives.p hE rfl) rfl ?_; clear hE a; intro a hE
                  refine WL.vS hS hE (runs_if hE rfl rfl rfl hg101) (Gives.p hE rfl) rfl ?_; clear hE a; intro a hE
                  refine WL.vS hS hE (runs_plain rfl) (Gives.pickF hE rfl hg101 rfl) rfl ?_; clear hE a; intro a hE
                  refine WL.vS hS hE (runs_plain rfl) (Gives.p hE rfl) rfl ?_; clear hE a; intro a hE
                  rcases Bool.eq_false_or_eq_true (decide (x81.From ≥ ((x0.Plan).length : Int))) with hg102 | hg102
                  · replace hq95 := iteT hg102 hq95
                    refine WL.no hE (runs_not hE rfl rfl rfl (by rw [hg102]; decide)) rfl ?_; clear hE a; intro a hE
                    refine WL.no hE (runs_not hE rfl rfl rfl (by rw [hg102]; decide)) rfl ?_; clear hE a; intro a hE
                    refine WL.no hE (runs_not hE rfl rfl rfl (by rw [hg102]; decide)) rfl ?_; clear hE a; intro a hE
                    refine WL.vS hS hE (runs_plain rfl) (Gives.pickT hE rfl hg102 rfl) rfl ?_; clear hE a; intro a hE
                    refine WL.vS hS hE (runs_plain rfl) (Gives.p hE rfl) rfl ?_; clear hE a; intro a hE
                    refine WL.no hE (runs_not hE rfl rfl rfl (by decide)) rfl ?_; clear hE a; intro a hE
                    refine WL.no hE (runs_not hE rfl rfl rfl (by decide)) rfl ?_; clear hE a; intro a hE
                    refine WL.no hE (runs_not hE rfl rfl rfl (by decide)) rfl ?_; clear hE a; intro a hE
                    refine WL.no hE (runs_not hE rfl rfl rfl (by decide)) rfl ?_; clear hE a; intro a hE
                    refine WL.vS hS hE (runs_plain rfl) (Gives.pickT hE rfl rfl rfl) rfl ?_; clear hE a; intro a hE
                    refine WL.vS hS hE (runs_plain rfl) (Gives.p hE rfl) rfl ?_; clear hE a; intro a hE
                    refine WL.nil ?_
                    subst hK100
                    exact ⟨true, hq95, hE.pick _ ⟨rfl, rfl, rfl, rfl, rfl, rfl, rfl, trivial⟩, hS⟩
                  · replace hq95 := iteF hg102 hq95
                    refine WL.vS hS hE (runs_if hE rfl rfl rfl hg102) (Gives.fld hE rfl fl36_1) rfl ?_; clear hE a; intro a hE
                    refine WL.vS hS hE (runs_if hE rfl rfl rfl hg102) (Gives.loadB hE 0 rfl rfl rfl ty3) rfl ?_; clear hE a; intro a hE
                    refine WL.vS hS hE (runs_if hE rfl rfl rfl hg102) (Gives.p hE rfl) rfl ?_; clear hE a; intro a hE
                    refine WL.vS hS hE (runs_plain rfl) (Gives.pickF hE rfl hg102 rfl) rfl ?_; clear hE a; intro a hE
                    refine WL.vS hS hE (runs_plain rfl) (Gives.p hE rfl) rfl ?_; clear hE a; intro a hE
                    rcases Bool.eq_false_or_eq_true (decide (x81.To < 0)) with hg103 | hg103
                    · replace hq95 := iteT hg103 hq95
                      refine WL.no hE (runs_not hE rfl rfl rfl (by rw [hg103]; decide)) rfl ?_; clear hE a; intro a hE
                      refine WL.no hE (runs_not hE rfl rfl rfl (by rw [hg103]; decide)) rfl ?_; clear hE a; intro a hE
                      refine WL.no hE (runs_not hE rfl rfl rfl (by rw [hg103]; decide)) rfl ?_; clear hE a; intro a hE
                      refine WL.no hE (runs_not hE rfl rfl rfl (by rw [hg103]; decide)) rfl ?_; clear hE a; intro a hE
                      refine WL.vS hS hE (runs_plain rfl) (Gives.pickT hE rfl hg103 rfl) rfl ?_; clear hE a; intro a hE
                      refine WL.vS hS hE (runs_plain rfl) (Gives.p hE rfl) rfl ?_; clear hE a; intro a hE
                      refine WL.nil ?_
                      subst hK100
                      exact ⟨true, hq95, hE.pick _ ⟨rfl, rfl, rfl, rfl, rfl, rfl, rfl, trivial⟩, hS⟩
                    · replace hq95 := iteF hg103 hq95
                      refine WL.vS hS hE (runs_if hE rfl rfl rfl hg103) (Gives.fld hE rfl fl36_1) rfl ?_; clear hE a; intro a hE
                      refine WL.vS hS hE (runs_if hE rfl rfl rfl hg103) (Gives.loadB hE 0 rfl rfl rfl ty3) rfl ?_; clear hE a; intro a hE
                      refine WL.vS hS hE (runs_if hE rfl rfl rfl hg103) (Gives.p hE rfl) rfl ?_; clear hE a; intro a hE
                      refine WL.vS hS hE (runs_if hE rfl rfl rfl hg103) (Gives.p hE rfl) rfl ?_; clear hE a; intro a hE
                      refine WL.vS hS hE (runs_plain rfl) (Gives.pickF hE rfl hg103 rfl) rfl ?_; clear hE a; intro a hE
                      refine WL.vS hS hE (runs_plain rfl) (Gives.p hE rfl) rfl ?_; clear hE a; intro a hE
                      refine WL.nil ?_
                      subst hK100
                      exact ⟨decide (x81.To ≥ ((x0.Plan).length : Int)), hq95, hE.pick _ ⟨rfl, rfl, rfl, rfl, rfl, rfl, rfl, trivial⟩, hS⟩
              · clear hE hS a w; rintro a w ⟨q99, rfl, hE, hS⟩
                refine W.cond hE rfl (fun hc104 => ?_) (fun hc104 => ?_)
                · replace hq78 := iteT hc104 hq78
                  refine W.seq ?_
                  refine W.region ?_
                  refine WL.vS hS hE (runs_plain rfl) (Gives.p hE rfl) rfl ?_; clear hE a; intro a hE
                  refine WL.nil ?_
                  refine W.ret ?_
                  subst hK89
                  rw [← Option.some.inj hq78] at hr
                  dsimp only at hr
                  refine finG (fn := Try.f14) (rs := [.tmp 2]) (vs := [_]) hE rfl ⟨rfl, trivial⟩ ?_
                  obtain rfl := Option.some.inj hr
                  replace hS := hS.tail
                  replace hS := hS.tail
                  exact ⟨rfl, hS⟩
                · replace hq78 := iteF hc104 hq78
                  refine W.seq ?_
                  obtain ⟨q106, hq105, hq78⟩ := bndS hq78
                  refine W.cut (fun a w => ∃ (q109 : Bool), q109 = q106 ∧ Rep a 138 [(1, .pointer (some ⟨b51, 0, none⟩)), (3, .int .i64 ((x0.Plan).length : Int)), (7, .pointer (some ⟨b94, 0, none⟩)), (44, .slice a0_1 x0.Links.length c0_1), (45, .int .i64 ((x0.Links).length : Int)), (46, .int .i64 ((k80 : Nat) : Int)), (71, .bool q109)] ∧ St w s (pt b94 (.cells (MendLink.cells x81).toArray 36 (0, 0)) :: pt b51 (.cells #[.int .i64 x0.Period, .slice a0_0 x0.Plan.length c0_0, .slice a0_1 x0.Links.length c0_1] 25 (0, 0)) :: R)) ?_ ?_
                  · refine W.gen fun K110 hK110 => ?_
                    refine W.region ?_
                    refine WL.vS hS hE (runs_plain rfl) (Gives.fld hE rfl fl36_2) rfl ?_; clear hE a; intro a hE
                    refine WL.vS hS hE (runs_plain rfl) (Gives.loadB hE 0 rfl rfl rfl ty3) rfl ?_; clear hE a; intro a hE
                    refine WL.fnq hE (Fishref2within_ok hS  rfl (r := Fishref2within x81.Len 0 28800)) (runs_plain rfl) bd51 rfl rfl rfl ?_
                    clear hE hS; rintro e w ⟨rfl, hS⟩; refine ⟨_, rfl, ?_⟩; clear a; intro a hE
                    refine WL.vS hS hE (runs_plain rfl) (Gives.p hE rfl) rfl ?_; clear hE a; intro a hE
                    refine WL.vS hS hE (runs_plain rfl) (Gives.p hE rfl) rfl ?_; clear hE a; intro a hE
                    rcases Bool.eq_false_or_eq_true (!(Fishref2within x81.Len 0 28800)) with hg111 | hg111
                    · replace hq105 := iteT hg111 hq105
                      refine WL.no hE (runs_not hE rfl rfl rfl (by rw [hg111]; decide)) rfl ?_; clear hE a; intro a hE
                      refine WL.no hE (runs_not hE rfl rfl rfl (by rw [hg111]; decide)) rfl ?_; clear hE a; intro a hE
                      refine WL.no hE (runs_not hE rfl rfl rfl (by rw [hg111]; decide)) rfl ?_; clear hE a; intro a hE
                      refine WL.no hE (runs_not hE rfl rfl rfl (by rw [hg111]; decide)) rfl ?_; clear hE a; intro a hE
                      refine WL.vS hS hE (runs_plain rfl) (Gives.pickT hE rfl hg111 rfl) rfl ?_; clear hE a; intro a hE
                      refine WL.vS hS hE (runs_plain rfl) (Gives.p hE rfl) rfl ?_; clear hE a; intro a hE
                      refine WL.nil ?_
                      subst hK110
                      exact ⟨true, hq105, hE.pick _ ⟨rfl, rfl, rfl, rfl, rfl, rfl, rfl, trivial⟩, hS⟩
                    · replace hq105 := iteF hg111 hq105
                      refine WL.vS hS hE (runs_if hE rfl rfl rfl hg111) (Gives.fld hE rfl fl36_3) rfl ?_; clear hE a; intro a hE
                      refine WL.vS hS hE (runs_if hE rfl rfl rfl hg111) (Gives.loadB hE 0 rfl rfl rfl ty3) rfl ?_; clear hE a; intro a hE
                      refine WL.fnq hE (Fishref2within_ok hS  rfl (r := Fishref2within x81.Back 0 3)) (runs_if hE rfl rfl rfl hg111) bd51 rfl rfl rfl ?_
                      clear hE hS; rintro e w ⟨rfl, hS⟩; refine ⟨_, rfl, ?_⟩; clear a; intro a hE
                      refine WL.vS hS hE (runs_if hE rfl rfl rfl hg111) (Gives.p hE rfl) rfl ?_; clear hE a; intro a hE
                      refine WL.vS hS hE (runs_plain rfl) (Gives.pickF hE rfl hg111 rfl) rfl ?_; clear hE a; intro a hE
                      refine WL.vS hS hE (runs_plain rfl) (Gives.p hE rfl) rfl ?_; clear hE a; intro a hE
                      refine WL.nil ?_
                      subst hK110
                      exact ⟨!(Fishref2within x81.Back 0 3), hq105, hE.pick _ ⟨rfl, rfl, rfl, rfl, rfl, rfl, rfl, trivial⟩, hS⟩
                  · clear hE hS a w; rintro a w ⟨q109, rfl, hE, hS⟩
                    refine W.cond hE rfl (fun hc112 => ?_) (fun hc112 => ?_)
                    · replace hq78 := iteT hc112 hq78
                      refine W.seq ?_
                      refine W.region ?_
                      refine WL.vS hS hE (runs_plain rfl) (Gives.p hE rfl) rfl ?_; clear hE a; intro a hE
                      refine WL.nil ?_
                      refine W.ret ?_
                      subst hK89
                      rw [← Option.some.inj hq78] at hr
                      dsimp only at hr
                      refine finG (fn := Try.f14) (rs := [.tmp 2]) (vs := [_]) hE rfl ⟨rfl, trivial⟩ ?_
                      obtain rfl := Option.some.inj hr
                      replace hS := hS.tail
                      replace hS := hS.tail
                      exact ⟨rfl, hS⟩
                    · replace hq78 := iteF hc112 hq78
                      refine W.seq ?_
                      refine W.region ?_
                      refine WL.vS hS hE (runs_plain rfl) (Gives.loadBA hE 1 rfl rfl ty25) rfl ?_; clear hE a; intro a hE
                      refine WL.vS hS hE (runs_plain rfl) (Gives.loadBA hE 0 rfl rfl ty36) rfl ?_; clear hE a; intro a hE
                      obtain ⟨q113, hq114, hq78⟩ := bindS hq78
                      have hc_ := Fishref2SlackOf_ok hS h0_0 h0_1 hq114
                      refine WL.fnq hE (hc_) (runs_plain rfl) bd52 rfl rfl rfl ?_
                      clear hE hS hc_; rintro e w ⟨rfl, hS⟩; refine ⟨_, rfl, ?_⟩; clear a; intro a hE
                      refine WL.vS hS hE (runs_plain rfl) (Gives.p hE rfl) rfl ?_; clear hE a; intro a hE
                      refine WL.vS hS hE (runs_plain rfl) (Gives.p hE rfl) rfl ?_; clear hE a; intro a hE
                      refine WL.nil ?_
                      refine W.cond hE rfl (fun hc115 => ?_) (fun hc115 => ?_)
                      · replace hq78 := iteT hc115 hq78
                        refine W.seq ?_
                        refine W.region ?_
                        refine WL.vS hS hE (runs_plain rfl) (Gives.p hE rfl) rfl ?_; clear hE a; intro a hE
                        refine WL.nil ?_
                        refine W.ret ?_
                        subst hK89
                        rw [← Option.some.inj hq78] at hr
                        dsimp only at hr
                        refine finG (fn := Try.f14) (rs := [.tmp 2]) (vs := [_]) hE rfl ⟨rfl, trivial⟩ ?_
                        obtain rfl := Option.some.inj hr
                        replace hS := hS.tail
                        replace hS := hS.tail
                        exact ⟨rfl, hS⟩
                      · replace hq78 := iteF hc115 hq78
                        refine W.skip ?_
                        refine W.region ?_
                        refine WL.vS hS hE (runs_plain rfl) (Gives.inc hE rfl (by have := h0_1.small; omega)) rfl ?_; clear hE a; intro a hE
                        refine WL.vS hS hE (runs_plain rfl) (Gives.p hE rfl) rfl ?_; clear hE a; intro a hE
                        refine WL.nil ?_
                        replace hS := hS.tail
                        subst hK89
                        exact ⟨rest82.length, Nat.lt_succ_self _, rest82, k80 + 1, rfl, hd83, hq78, hE.pick _ ⟨rfl, rfl, rfl, rfl, rfl, trivial⟩, hS⟩
          · clear hE hS a w; rintro a w ⟨rfl, hE, hS⟩
            dsimp only at hr
            refine W.seq ?_
            refine W.region ?_
            refine WL.vS hS hE (runs_plain rfl) (Gives.p hE rfl) rfl ?_; clear hE a; intro a hE
            obtain ⟨x116, hx117, hr⟩ := bindS hr
            refine WL.mkD (Rr := RB) hE hS (runs_plain rfl) rfl rfl ap82 zr4 rfl hx117 rfl ?_; clear hE hS a w; intro b118 cs119 a w h120 hE hS
            refine WL.vS hS hE (runs_plain rfl) (Gives.p hE rfl) rfl ?_; clear hE a; intro a hE
            refine WL.nil ?_
            refine W.seq ?_
            refine W.seq ?_
            refine W.region ?_
            refine WL.vS hS hE (runs_plain rfl) (Gives.p hE rfl) rfl ?_; clear hE a; intro a hE
            refine WL.vS hS hE (runs_plain rfl) (Gives.p hE rfl) rfl ?_; clear hE a; intro a hE
            refine WL.nil ?_
            obtain ⟨q123, hq122, hr⟩ := bindS hr
            refine W.cut (fun a w => ∃ (q133 : List Bool), ∃ (cs137 : List Value), q133 = q123 ∧ Ev 1 RB s cs137 q133 ∧ q133.length = x116.length ∧ Rep a 138 [(8, .slice (some ⟨b118, 0, none⟩) x116.length x116.length)] ∧ St w s (vecC 4 1 (some ⟨b118, 0, none⟩) x116.length x116.length cs137 :: pt b51 (.cells #[.int .i64 x0.Period, .slice a0_0 x0.Plan.length c0_0, .slice a0_1 x0.Links.length c0_1] 25 (0, 0)) :: R)) ?_ ?_
            · refine W.block ?_
              refine W.loop (fun m a w => ∃ (rest126 : List Int) (k124 : Nat), ∃ (q133 : List Bool), ∃ (cs137 : List Value), rest126.length = m ∧ x0.Plan.drop k124 = rest126 ∧ Fishref2RoundFault.loop3 x0 rest126 q133 = some q123 ∧ Ev 1 RB s cs137 q133 ∧ q133.length = x116.length ∧ Rep a 138 [(1, .pointer (some ⟨b51, 0, none⟩)), (3, .int .i64 ((x0.Plan).length : Int)), (8, .slice (some ⟨b118, 0, none⟩) x116.length x116.length), (90, .int .i64 ((x0.Plan).length : Int)), (91, .int .i64 ((k124 : Nat) : Int))] ∧ St w s (vecC 4 1 (some ⟨b118, 0, none⟩) x116.length x116.length cs137 :: pt b51 (.cells #[.int .i64 x0.Period, .slice a0_0 x0.Plan.length c0_0, .slice a0_1 x0.Links.length c0_1] 25 (0, 0)) :: R)) (m := x0.Plan.length) ⟨x0.Plan, 0, x116, cs119, rfl, rfl, hq122, h120, (rfl), hE.pick _ ⟨rfl, rfl, rfl, rfl, rfl, trivial⟩, hS⟩ ?_
              clear hE hS a w hq122; rintro m130 a w ⟨rest126, k124, q133, cs137, rfl, hd127, hq122, h136, hn138, hE, hS⟩
              refine W.gen fun K139 hK139 => ?_
              rcases rest126 with _ | ⟨x125, rest126⟩
              · have hlt128 := drop_nil hd127
                refine W.seq ?_
                refine W.region ?_
                refine WL.vS hS hE (runs_plain rfl) (Gives.p hE rfl) rfl ?_; clear hE a; intro a hE
                refine WL.nil ?_
                refine W.seq ?_
                refine W.condF hE rfl (decide_eq_false (by omega)) ?_
                subst hK139
                refine W.exit rfl ?_
                exact ⟨q133, cs137, Option.some.inj hq122, h136, hn138, hE.pick _ ⟨rfl, trivial⟩, hS⟩
              · obtain ⟨hlt128, hx129, hd127⟩ := drop_cons hd127
                rw [Fishref2RoundFault.loop3] at hq122
                refine W.seq ?_
                refine W.region ?_
                refine WL.vS hS hE (runs_plain rfl) (Gives.p hE rfl) rfl ?_; clear hE a; intro a hE
                refine WL.nil ?_
                refine W.seq ?_
                refine W.condT hE rfl (decide_eq_true (by omega)) ?_
                refine W.skip ?_
                refine W.seq ?_
                refine W.block ?_
                refine W.seq ?_
                refine W.region ?_
                refine WL.vS hS hE (runs_plain rfl) (Gives.p hE rfl) rfl ?_; clear hE a; intro a hE
                refine WL.vS hS hE (runs_plain rfl) (Gives.p hE rfl) rfl ?_; clear hE a; intro a hE
                refine WL.nil ?_
                obtain ⟨q141, hq140, hq122⟩ := bindS hq122
                refine W.cut (fun a w => ∃ (q151 : List Bool), ∃ (cs155 : List Value), q151 = q141 ∧ Ev 1 RB s cs155 q151 ∧ q151.length = x116.length ∧ Rep a 138 [(1, .pointer (some ⟨b51, 0, none⟩)), (3, .int .i64 ((x0.Plan).length : Int)), (8, .slice (some ⟨b118, 0, none⟩) x116.length x116.length), (90, .int .i64 ((x0.Plan).length : Int)), (91, .int .i64 ((k124 : Nat) : Int))] ∧ St w s (vecC 4 1 (some ⟨b118, 0, none⟩) x116.length x116.length cs155 :: pt b51 (.cells #[.int .i64 x0.Period, .slice a0_0 x0.Plan.length c0_0, .slice a0_1 x0.Links.length c0_1] 25 (0, 0)) :: R)) ?_ ?_
                · refine W.block ?_
                  refine W.loop (fun m a w => ∃ (rest144 : List Int) (k142 : Nat), ∃ (q151 : List Bool), ∃ (cs155 : List Value), rest144.length = m ∧ x0.Plan.drop k142 = rest144 ∧ Fishref2RoundFault.loop4 x0 rest144 k142 q151 = some q141 ∧ Ev 1 RB s cs155 q151 ∧ q151.length = x116.length ∧ Rep a 138 [(1, .pointer (some ⟨b51, 0, none⟩)), (3, .int .i64 ((x0.Plan).length : Int)), (8, .slice (some ⟨b118, 0, none⟩) x116.length x116.length), (90, .int .i64 ((x0.Plan).length : Int)), (91, .int .i64 ((k124 : Nat) : Int)), (93, .int .i64 ((x0.Plan).length : Int)), (94, .int .i64 ((k142 : Nat) : Int))] ∧ St w s (vecC 4 1 (some ⟨b118, 0, none⟩) x116.length x116.length cs155 :: pt b51 (.cells #[.int .i64 x0.Period, .slice a0_0 x0.Plan.length c0_0, .slice a0_1 x0.Links.length c0_1] 25 (0, 0)) :: R)) (m := x0.Plan.length) ⟨x0.Plan, 0, q133, cs137, rfl, rfl, hq140, h136, hn138, hE.pick _ ⟨rfl, rfl, rfl, rfl, rfl, rfl, rfl, trivial⟩, hS⟩ ?_
                  clear hE hS a w hq140; rintro m148 a w ⟨rest144, k142, q151, cs155, rfl, hd145, hq140, h154, hn156, hE, hS⟩
                  refine W.gen fun K157 hK157 => ?_
                  rcases rest144 with _ | ⟨x143, rest144⟩
                  · have hlt146 := drop_nil hd145
                    refine W.seq ?_
                    refine W.region ?_
                    refine WL.vS hS hE (runs_plain rfl) (Gives.p hE rfl) rfl ?_; clear hE a; intro a hE
                    refine WL.nil ?_
                    refine W.seq ?_
                    refine W.condF hE rfl (decide_eq_false (by omega)) ?_
                    subst hK157
                    refine W.exit rfl ?_
                    exact ⟨q151, cs155, Option.some.inj hq140, h154, hn156, hE.pick _ ⟨rfl, rfl, rfl, rfl, rfl, trivial⟩, hS⟩
                  · obtain ⟨hlt146, hx147, hd145⟩ := drop_cons hd145
                    rw [Fishref2RoundFault.loop4] at hq140
                    refine W.seq ?_
                    refine W.region ?_
                    refine WL.vS hS hE (runs_plain rfl) (Gives.p hE rfl) rfl ?_; clear hE a; intro a hE
                    refine WL.nil ?_
                    refine W.seq ?_
                    refine W.condT hE rfl (decide_eq_true (by omega)) ?_
                    refine W.skip ?_
                    refine W.seq ?_
                    refine W.block ?_
                    refine W.seq ?_
                    refine W.region ?_
                    refine WL.vS hS hE (runs_plain rfl) (Gives.p hE rfl) rfl ?_; clear hE a; intro a hE
                    refine WL.vS hS hE (runs_plain rfl) (Gives.p hE rfl) rfl ?_; clear hE a; intro a hE
                    refine WL.nil ?_
                    refine W.seq ?_
                    refine W.region ?_
                    refine WL.vS hS hE (runs_plain rfl) (Gives.p hE rfl) rfl ?_; clear hE a; intro a hE
                    refine WL.nil ?_
                    refine W.seq ?_
                    refine W.seq ?_
                    refine W.region ?_
                    refine WL.vS hS hE (runs_plain rfl) (Gives.fld hE rfl fl25_2) rfl ?_; clear hE a; intro a hE
                    refine WL.vS hS hE (runs_plain rfl) (Gives.loadB hE 1 rfl rfl rfl ty23) rfl ?_; clear hE a; intro a hE
                    refine WL.vS hS hE (runs_plain rfl) (Gives.len hE rfl sl23) rfl ?_; clear hE a; intro a hE
                    refine WL.vS hS hE (runs_plain rfl) (Gives.p hE rfl) rfl ?_; clear hE a; intro a hE
                    refine WL.nil ?_
                    obtain ⟨q159, hq158, hq140⟩ := bindS hq140
                    refine W.cut (fun a w => ∃ (q169 : Bool), q169 = q159 ∧ Rep a 138 [(1, .pointer (some ⟨b51, 0, none⟩)), (3, .int .i64 ((x0.Plan).length : Int)), (8, .slice (some ⟨b118, 0, none⟩) x116.length x116.length), (9, .int .i64 ((k142 : Nat) : Int)), (10, .bool q169), (90, .int .i64 ((x0.Plan).length : Int)), (91, .int .i64 ((k124 : Nat) : Int)), (93, .int .i64 ((x0.Plan).length : Int)), (94, .int .i64 ((k142 : Nat) : Int))] ∧ St w s (vecC 4 1 (some ⟨b118, 0, none⟩) x116.length x116.length cs155 :: pt b51 (.cells #[.int .i64 x0.Period, .slice a0_0 x0.Plan.length c0_0, .slice a0_1 x0.Links.length c0_1] 25 (0, 0)) :: R)) ?_ ?_
                    · refine W.block ?_
                      refine W.loop (fun m a w => ∃ (rest162 : List MendLink) (k160 : Nat), ∃ (q169 : Bool), rest162.length = m ∧ x0.Links.drop k160 = rest162 ∧ Fishref2RoundFault.loop5 q151 k142 rest162 q169 = some q159 ∧ Rep a 138 [(1, .pointer (some ⟨b51, 0, none⟩)), (3, .int .i64 ((x0.Plan).length : Int)), (8, .slice (some ⟨b118, 0, none⟩) x116.length x116.length), (9, .int .i64 ((k142 : Nat) : Int)), (10, .bool q169), (90, .int .i64 ((x0.Plan).length : Int)), (91, .int .i64 ((k124 : Nat) : Int)), (93, .int .i64 ((x0.Plan).length : Int)), (94, .int .i64 ((k142 : Nat) : Int)), (98, .slice a0_1 x0.Links.length c0_1), (99, .int .i64 ((x0.Links).length : Int)), (100, .int .i64 ((k160 : Nat) : Int))] ∧ St w s (vecC 4 1 (some ⟨b118, 0, none⟩) x116.length x116.length cs155 :: pt b51 (.cells #[.int .i64 x0.Period, .slice a0_0 x0.Plan.length c0_0, .slice a0_1 x0.Links.length c0_1] 25 (0, 0)) :: R)) (m := x0.Links.length) ⟨x0.Links, 0, true, rfl, rfl, hq158, hE.pick _ ⟨rfl, rfl, rfl, rfl, rfl, rfl, rfl, rfl, rfl, rfl, rfl, rfl, trivial⟩, hS⟩ ?_
                      clear hE hS a w hq158; rintro m166 a w ⟨rest162, k160, q169, rfl, hd163, hq158, hE, hS⟩
                      refine W.gen fun K170 hK170 => ?_
                      rcases rest162 with _ | ⟨x161, rest162⟩
                      · have hlt164 := drop_nil hd163
                        refine W.seq ?_
                        refine W.region ?_
                        refine WL.vS hS hE (runs_plain rfl) (Gives.p hE rfl) rfl ?_; clear hE a; intro a hE
                        refine WL.nil ?_
                        refine W.seq ?_
                        refine W.condF hE rfl (decide_eq_false (by omega)) ?_
                        subst hK170
                        refine W.exit rfl ?_
                        exact ⟨q169, Option.some.inj hq158, hE.pick _ ⟨rfl, rfl, rfl, rfl, rfl, rfl, rfl, rfl, rfl, trivial⟩, hS⟩
                      · obtain ⟨hlt164, hx165, hd163⟩ := drop_cons hd163
                        rw [Fishref2RoundFault.loop5] at hq158
                        refine W.seq ?_
                        refine W.region ?_
                        refine WL.vS hS hE (runs_plain rfl) (Gives.p hE rfl) rfl ?_; clear hE a; intro a hE
                        refine WL.nil ?_
                        refine W.seq ?_
                        refine W.condT hE rfl (decide_eq_true (by omega)) ?_
                        refine W.skip ?_
                        refine W.seq ?_
                        refine W.block ?_
                        refine W.seq ?_
                        refine W.region ?_
                        obtain ⟨cs171, hl172, hR173, hat174⟩ := h0_1.at hx165
                        subst hR173
                        refine WL.vS hS hE (runs_plain rfl) (Gives.idx hE k160 rfl rfl sl23 rfl hlt164 (h0_1.aok hlt164)) rfl ?_; clear hE a; intro a hE
                        refine WL.vS hS hE (runs_plain rfl) (Gives.loadA hE rfl (fun w h => hat174 w _ h) ty36) rfl ?_; clear hE a; intro a hE
                        refine WL.alloc hE hS (runs_plain rfl) zr36 rfl ?_; clear hE hS a w; intro b175 a w hE hS
                        refine WL.storeI hE hS 0 rfl (MendLink.cells x161) (runs_plain rfl) rfl rfl rfl ty36 rfl rfl rfl rfl ?_; clear hE hS a w; intro a w hE hS
                        refine WL.nil ?_
                        obtain ⟨q177, hq176, hq158⟩ := bindS hq158
                        refine W.cut (fun a w => ∃ (q180 : Bool), q180 = q177 ∧ Rep a 138 [(1, .pointer (some ⟨b51, 0, none⟩)), (3, .int .i64 ((x0.Plan).length : Int)), (8, .slice (some ⟨b118, 0, none⟩) x116.length x116.length), (9, .int .i64 ((k142 : Nat) : Int)), (10, .bool q180), (90, .int .i64 ((x0.Plan).length : Int)), (91, .int .i64 ((k124 : Nat) : Int)), (93, .int .i64 ((x0.Plan).length : Int)), (94, .int .i64 ((k142 : Nat) : Int)), (98, .slice a0_1 x0.Links.length c0_1), (99, .int .i64 ((x0.Links).length : Int)), (100, .int .i64 ((k160 : Nat) : Int))] ∧ St w s (pt b175 (.cells (MendLink.cells x161).toArray 36 (0, 0)) :: vecC 4 1 (some ⟨b118, 0, none⟩) x116.length x116.length cs155 :: pt b51 (.cells #[.int .i64 x0.Period, .slice a0_0 x0.Plan.length c0_0, .slice a0_1 x0.Links.length c0_1] 25 (0, 0)) :: R)) ?_ ?_
                        · refine W.gen fun K181 hK181 => ?_
                          refine W.region ?_
                          refine WL.vS hS hE (runs_plain rfl) (Gives.p hE rfl) rfl ?_; clear hE a; intro a hE
                          refine WL.vS hS hE (runs_plain rfl) (Gives.p hE rfl) rfl ?_; clear hE a; intro a hE
                          rcases Bool.eq_false_or_eq_true q169 with hg182 | hg182
                          · replace hq176 := iteT hg182 hq176
                            refine WL.vS hS hE (runs_if hE rfl rfl rfl hg182) (Gives.fld hE rfl fl36_3) rfl ?_; clear hE a; intro a hE
                            refine WL.vS hS hE (runs_if hE rfl rfl rfl hg182) (Gives.loadB hE 0 rfl rfl rfl ty3) rfl ?_; clear hE a; intro a hE
                            refine WL.vS hS hE (runs_if hE rfl rfl rfl hg182) (Gives.p hE rfl) rfl ?_; clear hE a; intro a hE
                            refine WL.vS hS hE (runs_if hE rfl rfl rfl hg182) (Gives.p hE rfl) rfl ?_; clear hE a; intro a hE
                            rcases Bool.eq_false_or_eq_true (decide (x161.Back > 0)) with hg183 | hg183
                            · replace hq176 := iteT hg183 hq176
                              refine WL.no hE (runs_not hE rfl rfl rfl (by rw [hg183]; decide)) rfl ?_; clear hE a; intro a hE
                              refine WL.no hE (runs_not hE rfl rfl rfl (by rw [hg183]; decide)) rfl ?_; clear hE a; intro a hE
                              refine WL.no hE (runs_not hE rfl rfl rfl (by rw [hg183]; decide)) rfl ?_; clear hE a; intro a hE
                              refine WL.no hE (runs_not hE rfl rfl rfl (by rw [hg183]; decide)) rfl ?_; clear hE a; intro a hE
                              refine WL.vS hS hE (runs_if hE rfl rfl rfl hg182) (Gives.pickT hE rfl hg183 rfl) rfl ?_; clear hE a; intro a hE
                              refine WL.vS hS hE (runs_if hE rfl rfl rfl hg182) (Gives.p hE rfl) rfl ?_; clear hE a; intro a hE
                              refine WL.no hE (runs_not hE rfl rfl rfl (by decide)) rfl ?_; clear hE a; intro a hE
                              refine WL.no hE (runs_not hE rfl rfl rfl (by decide)) rfl ?_; clear hE a; intro a hE
                              refine WL.no hE (runs_not hE rfl rfl rfl (by decide)) rfl ?_; clear hE a; intro a hE
                              refine WL.no hE (runs_not hE rfl rfl rfl (by decide)) rfl ?_; clear hE a; intro a hE
                              refine WL.no hE (runs_not hE rfl rfl rfl (by decide)) rfl ?_; clear hE a; intro a hE
                              refine WL.vS hS hE (runs_if hE rfl rfl rfl hg182) (Gives.pickT hE rfl rfl rfl) rfl ?_; clear hE a; intro a hE
                              refine WL.vS hS hE (runs_plain rfl) (Gives.pickT hE rfl hg182 rfl) rfl ?_; clear hE a; intro a hE
                              refine WL.vS hS hE (runs_plain rfl) (Gives.p hE rfl) rfl ?_; clear hE a; intro a hE
                              refine WL.nil ?_
                              subst hK181
                              exact ⟨true, Option.some.inj hq176, hE.pick _ ⟨rfl, rfl, rfl, rfl, rfl, rfl, rfl, rfl, rfl, rfl, rfl, rfl, trivial⟩, hS⟩
                            · replace hq176 := iteF hg183 hq176
                              refine WL.vS hS hE (runs_if hE rfl rfl rfl hg183) (Gives.fld hE rfl fl36_1) rfl ?_; clear hE a; intro a hE
                              refine WL.vS hS hE (runs_if hE rfl rfl rfl hg183) (Gives.loadB hE 0 rfl rfl rfl ty3) rfl ?_; clear hE a; intro a hE
                              refine WL.vS hS hE (runs_if hE rfl rfl rfl hg183) (Gives.p hE rfl) rfl ?_; clear hE a; intro a hE
                              refine WL.vS hS hE (runs_if hE rfl rfl rfl hg183) (Gives.p hE rfl) rfl ?_; clear hE a; intro a hE
                              refine WL.vS hS hE (runs_if hE rfl rfl rfl hg182) (Gives.pickF hE rfl hg183 rfl) rfl ?_; clear hE a; intro a hE
                              refine WL.vS hS hE (runs_if hE rfl rfl rfl hg182) (Gives.p hE rfl) rfl ?_; clear hE a; intro a hE
                              rcases Bool.eq_false_or_eq_true (x161.To != ((k142 : Nat) : Int)) with hg184 | hg184
                              · replace hq176 := iteT hg184 hq176
                                refine WL.no hE (runs_not hE rfl rfl rfl (by rw [hg184]; decide)) rfl ?_; clear hE a; intro a hE
                                refine WL.no hE (runs_not hE rfl rfl rfl (by rw [hg184]; decide)) rfl ?_; clear hE a; intro a hE
                                refine WL.no hE (runs_not hE rfl rfl rfl (by rw [hg184]; decide)) rfl ?_; clear hE a; intro a hE
                                refine WL.no hE (runs_not hE rfl rfl rfl (by rw [hg184]; decide)) rfl ?_; clear hE a; intro a hE
                                refine WL.no hE (runs_not hE rfl rfl rfl (by rw [hg184]; decide)) rfl ?_; clear hE a; intro a hE
                                refine WL.vS hS hE (runs_if hE rfl rfl rfl hg182) (Gives.pickT hE rfl hg184 rfl) rfl ?_; clear hE a; intro a hE
                                refine WL.vS hS hE (runs_plain rfl) (Gives.pickT hE rfl hg182 rfl) rfl ?_; clear hE a; intro a hE
                                refine WL.vS hS hE (runs_plain rfl) (Gives.p hE rfl) rfl ?_; clear hE a; intro a hE
                                refine WL.nil ?_
                                subst hK181
                                exact ⟨true, Option.some.inj hq176, hE.pick _ ⟨rfl, rfl, rfl, rfl, rfl, rfl, rfl, rfl, rfl, rfl, rfl, rfl, trivial⟩, hS⟩
                              · replace hq176 := iteF hg184 hq176
                                refine WL.vS hS hE (runs_if hE rfl rfl rfl hg184) (Gives.p hE rfl) rfl ?_; clear hE a; intro a hE
                                refine WL.vS hS hE (runs_if hE rfl rfl rfl hg184) (Gives.fld hE rfl fl36_0) rfl ?_; clear hE a; intro a hE
                                refine WL.vS hS hE (runs_if hE rfl rfl rfl hg184) (Gives.loadB hE 0 rfl rfl rfl ty3) rfl ?_; clear hE a; intro a hE
                                obtain ⟨x185, hx186, hq176⟩ := bindS hq176
                                obtain ⟨hi187, hlt188, hy189⟩ := gx_some hx186
                                obtain ⟨vs190, hl191, hR192, hd193, hget194⟩ := h154.at hy189
                                subst hR192
                                refine WL.vS hS hE (runs_if hE rfl rfl rfl hg184) (Gives.idx hE ((x161.From).toNat) rfl rfl sl82 hi187 (by have := hn156; omega) (hS.vecAok 1 rfl (by have := hn156; omega : (x161.From).toNat < x116.length))) rfl ?_; clear hE a; intro a hE
                                refine WL.vS hS hE (runs_if hE rfl rfl rfl hg184) (Gives.load1 hE rfl (fun w h => St.vecSees h 1 rfl ((x161.From).toNat * 1) _ hget194) ty4) rfl ?_; clear hE a; intro a hE
                                refine WL.vS hS hE (runs_if hE rfl rfl rfl hg182) (Gives.pickF hE rfl hg184 rfl) rfl ?_; clear hE a; intro a hE
                                refine WL.vS hS hE (runs_plain rfl) (Gives.pickT hE rfl hg182 rfl) rfl ?_; clear hE a; intro a hE
                                refine WL.vS hS hE (runs_plain rfl) (Gives.p hE rfl) rfl ?_; clear hE a; intro a hE
                                refine WL.nil ?_
                                subst hK181
                                exact ⟨x185, Option.some.inj hq176, hE.pick _ ⟨rfl, rfl, rfl, rfl, rfl, rfl, rfl, rfl, rfl, rfl, rfl, rfl, trivial⟩, hS⟩
                          · replace hq176 := iteF hg182 hq176
                            refine WL.no hE (runs_not hE rfl rfl rfl (by rw [hg182]; decide)) rfl ?_; clear hE a; intro a hE
                            refine WL.no hE (runs_not hE rfl rfl rfl (by rw [hg182]; decide)) rfl ?_; clear hE a; intro a hE
                            refine WL.no hE (runs_not hE rfl rfl rfl (by rw [hg182]; decide)) rfl ?_; clear hE a; intro a hE
                            refine WL.no hE (runs_not hE rfl rfl rfl (by rw [hg182]; decide)) rfl ?_; clear hE a; intro a hE
                            refine WL.no hE (runs_undef hE rfl rfl rfl) rfl ?_; clear hE a; intro a hE
                            refine WL.no hE (runs_undef hE rfl rfl rfl) rfl ?_; clear hE a; intro a hE
                            refine WL.no hE (runs_undef hE rfl rfl rfl) rfl ?_; clear hE a; intro a hE
                            refine WL.no hE (runs_undef hE rfl rfl rfl) rfl ?_; clear hE a; intro a hE
                            refine WL.no hE (runs_not hE rfl rfl rfl (by rw [hg182]; decide)) rfl ?_; clear hE a; intro a hE
                            refine WL.no hE (runs_not hE rfl rfl rfl (by rw [hg182]; decide)) rfl ?_; clear hE a; intro a hE
                            refine WL.no hE (runs_undef hE rfl rfl rfl) rfl ?_; clear hE a; intro a hE
                            refine WL.no hE (runs_undef hE rfl rfl rfl) rfl ?_; clear hE a; intro a hE
                            refine WL.no hE (runs_undef hE rfl rfl rfl) rfl ?_; clear hE a; intro a hE
                            refine WL.no hE (runs_undef hE rfl rfl rfl) rfl ?_; clear hE a; intro a hE
                            refine WL.no hE (runs_undef hE rfl rfl rfl) rfl ?_; clear hE a; intro a hE
                            refine WL.no hE (runs_not hE rfl rfl rfl (by rw [hg182]; decide)) rfl ?_; clear hE a; intro a hE
                            refine WL.vS hS hE (runs_plain rfl) (Gives.pickF hE rfl hg182 rfl) rfl ?_; clear hE a; intro a hE
                            refine WL.vS hS hE (runs_plain rfl) (Gives.p hE rfl) rfl ?_; clear hE a; intro a hE
                            refine WL.nil ?_
                            subst hK181
                            exact ⟨false, Option.some.inj hq176, hE.pick _ ⟨rfl, rfl, rfl, rfl, rfl, rfl, rfl, rfl, rfl, rfl, rfl, rfl, trivial⟩, hS⟩
                        · clear hE hS a w; rintro a w ⟨q180, rfl, hE, hS⟩
                          refine W.region ?_
                          refine WL.vS hS hE (runs_plain rfl) (Gives.inc hE rfl (by have := h0_1.small; omega)) rfl ?_; clear hE a; intro a hE
                          refine WL.vS hS hE (runs_plain rfl) (Gives.p hE rfl) rfl ?_; clear hE a; intro a hE
                          refine WL.nil ?_
                          replace hS := hS.tail
                          subst hK170
                          exact ⟨rest162.length, Nat.lt_succ_self _, rest162, k160 + 1, q180, rfl, hd163, hq158, hE.pick _ ⟨rfl, rfl, rfl, rfl, rfl, rfl, rfl, rfl, rfl, rfl, rfl, rfl, trivial⟩, hS⟩
                    · clear hE hS a w; rintro a w ⟨q169, rfl, hE, hS⟩
                      obtain ⟨q196, hq195, hq140⟩ := bindS hq140
                      refine W.cut (fun a w => ∃ (q199 : List Bool), ∃ (cs203 : List Value), q199 = q196 ∧ Ev 1 RB s cs203 q199 ∧ q199.length = x116.length ∧ Rep a 138 [(1, .pointer (some ⟨b51, 0, none⟩)), (3, .int .i64 ((x0.Plan).length : Int)), (8, .slice (some ⟨b118, 0, none⟩) x116.length x116.length), (90, .int .i64 ((x0.Plan).length : Int)), (91, .int .i64 ((k124 : Nat) : Int)), (93, .int .i64 ((x0.Plan).length : Int)), (94, .int .i64 ((k142 : Nat) : Int))] ∧ St w s (vecC 4 1 (some ⟨b118, 0, none⟩) x116.length x116.length cs203 :: pt b51 (.cells #[.int .i64 x0.Period, .slice a0_0 x0.Plan.length c0_0, .slice a0_1 x0.Links.length c0_1] 25 (0, 0)) :: R)) ?_ ?_
                      · refine W.gen fun K205 hK205 => ?_
                        refine W.region ?_
                        refine WL.vS hS hE (runs_plain rfl) (Gives.p hE rfl) rfl ?_; clear hE a; intro a hE
                        refine WL.vS hS hE (runs_plain rfl) (Gives.p hE rfl) rfl ?_; clear hE a; intro a hE
                        refine WL.vS hS hE (runs_plain rfl) (Gives.p hE rfl) rfl ?_; clear hE a; intro a hE
                        refine WL.vS hS hE (runs_plain rfl) (Gives.p hE rfl) rfl ?_; clear hE a; intro a hE
                        obtain ⟨x206, hx207, hq195⟩ := bindS hq195
                        obtain ⟨hi208, hlt209, hy210⟩ := gx_some hx207
                        obtain ⟨vs211, hl212, hR213, hd214, hget215⟩ := h154.at hy210
                        subst hR213
                        refine WL.vS hS hE (runs_plain rfl) (Gives.idx hE ((((k142 : Nat) : Int)).toNat) rfl rfl sl82 hi208 (by have := hn156; omega) (hS.vecAok 0 rfl (by have := hn156; omega : (((k142 : Nat) : Int)).toNat < x116.length))) rfl ?_; clear hE a; intro a hE
                        refine WL.vS hS hE (runs_plain rfl) (Gives.load1 hE rfl (fun w h => St.vecSees h 0 rfl ((((k142 : Nat) : Int)).toNat * 1) _ hget215) ty4) rfl ?_; clear hE a; intro a hE
                        refine WL.vS hS hE (runs_plain rfl) (Gives.p hE rfl) rfl ?_; clear hE a; intro a hE
                        rcases Bool.eq_false_or_eq_true x206 with hg216 | hg216
                        · replace hq195 := iteT hg216 hq195
                          refine WL.no hE (runs_not hE rfl rfl rfl (by rw [hg216]; decide)) rfl ?_; clear hE a; intro a hE
                          refine WL.vS hS hE (runs_plain rfl) (Gives.pickT hE rfl hg216 rfl) rfl ?_; clear hE a; intro a hE
                          obtain ⟨_, hx218, hq195⟩ := bindS hq195
                          obtain ⟨h219, h220⟩ := ix_some hx218
                          refine WL.vS hS hE (runs_plain rfl) (Gives.idx hE ((((k142 : Nat) : Int)).toNat) rfl rfl sl82 h219 (by have := hn156; omega) (hS.vecAok 0 rfl (by have := hn156; omega : (((k142 : Nat) : Int)).toNat < x116.length))) rfl ?_; clear hE a; intro a hE
                          obtain ⟨x222, hx223, hq195⟩ := bindS hq195
                          refine WL.setD hE hS 0 rfl (runs_plain rfl) rfl rfl (vs := [.bool true]) rfl ty4 rfl rfl rfl h154 hn156 (sx_some hx223).1 hx223 rfl rfl ?_; clear hE hS a w; intro cs224 a w h225 hn226 hE hS
                          refine WL.nil ?_
                          subst hK205
                          exact ⟨x222, cs224, Option.some.inj hq195, h225, hn226, hE.pick _ ⟨rfl, rfl, rfl, rfl, rfl, rfl, rfl, trivial⟩, hS⟩
                        · replace hq195 := iteF hg216 hq195
                          refine WL.vS hS hE (runs_if hE rfl rfl rfl hg216) (Gives.p hE rfl) rfl ?_; clear hE a; intro a hE
                          refine WL.vS hS hE (runs_plain rfl) (Gives.pickF hE rfl hg216 rfl) rfl ?_; clear hE a; intro a hE
                          obtain ⟨_, hx228, hq195⟩ := bindS hq195
                          obtain ⟨h229, h230⟩ := ix_some hx228
                          refine WL.vS hS hE (runs_plain rfl) (Gives.idx hE ((((k142 : Nat) : Int)).toNat) rfl rfl sl82 h229 (by have := hn156; omega) (hS.vecAok 0 rfl (by have := hn156; omega : (((k142 : Nat) : Int)).toNat < x116.length))) rfl ?_; clear hE a; intro a hE
                          obtain ⟨x232, hx233, hq195⟩ := bindS hq195
                          refine WL.setD hE hS 0 rfl (runs_plain rfl) rfl rfl (vs := [.bool q169]) rfl ty4 rfl rfl rfl h154 hn156 (sx_some hx233).1 hx233 rfl rfl ?_; clear hE hS a w; intro cs234 a w h235 hn236 hE hS
                          refine WL.nil ?_
                          subst hK205
                          exact ⟨x232, cs234, Option.some.inj hq195, h235, hn236, hE.pick _ ⟨rfl, rfl, rfl, rfl, rfl, rfl, rfl, trivial⟩, hS⟩
                      · clear hE hS a w; rintro a w ⟨q199, cs203, rfl, h202, hn204, hE, hS⟩
                        refine W.region ?_
                        refine WL.vS hS hE (runs_plain rfl) (Gives.inc hE rfl (by have := h0_0.small; omega)) rfl ?_; clear hE a; intro a hE
                        refine WL.vS hS hE (runs_plain rfl) (Gives.p hE rfl) rfl ?_; clear hE a; intro a hE
                        refine WL.nil ?_
                        subst hK157
                        exact ⟨rest144.length, Nat.lt_succ_self _, rest144, k142 + 1, q199, cs203, rfl, hd145, hq140, h202, hn204, hE.pick _ ⟨rfl, rfl, rfl, rfl, rfl, rfl, rfl, trivial⟩, hS⟩
                · clear hE hS a w; rintro a w ⟨q151, cs155, rfl, h154, hn156, hE, hS⟩
                  refine W.region ?_
                  refine WL.vS hS hE (runs_plain rfl) (Gives.inc hE rfl (by have := h0_0.small; omega)) rfl ?_; clear hE a; intro a hE
                  refine WL.vS hS hE (runs_plain rfl) (Gives.p hE rfl) rfl ?_; clear hE a; intro a hE
                  refine WL.nil ?_
                  subst hK139
                  exact ⟨rest126.length, Nat.lt_succ_self _, rest126, k124 + 1, q151, cs155, rfl, hd127, hq122, h154, hn156, hE.pick _ ⟨rfl, rfl, rfl, rfl, rfl, trivial⟩, hS⟩
            · clear hE hS a w; rintro a w ⟨q133, cs137, rfl, h136, hn138, hE, hS⟩
              refine W.seq ?_
              refine W.seq ?_
              refine W.region ?_
              refine WL.vS hS hE (runs_plain rfl) (Gives.p hE rfl) rfl ?_; clear hE a; intro a hE
              have hF := hS.lendV RB.mono 0 rfl h136 hn138; clear hS; obtain ⟨t237, hle238, hS, hs239, bk240⟩ := hF
              refine WL.fnq hE ((by have hc_ := SlicesContainsLbool_ok hS hs239 rfl (r := SlicesContainsLbool q133 false); rw [hn138] at hc_; exact hc_)) (runs_plain rfl) bd53 rfl rfl rfl ?_
              clear hE hS; rintro e w ⟨rfl, hS⟩; refine ⟨_, rfl, ?_⟩; clear a; intro a hE
              replace hS := bk240 _ _ hS
              refine WL.nil ?_
              refine W.cond hE rfl (fun hc241 => ?_) (fun hc241 => ?_)
              · replace hr := iteT hc241 hr
                refine W.seq ?_
                refine W.region ?_
                refine WL.vS hS hE (runs_plain rfl) (Gives.p hE rfl) rfl ?_; clear hE a; intro a hE
                refine WL.nil ?_
                refine W.ret ?_
                refine finG (fn := Try.f14) (rs := [.tmp 2]) (vs := [_]) hE rfl ⟨rfl, trivial⟩ ?_
                obtain rfl := Option.some.inj hr
                replace hS := hS.tail
                replace hS := hS.tail
                exact ⟨rfl, hS⟩
              · replace hr := iteF hc241 hr
                refine W.skip ?_
                refine W.seq ?_
                refine W.region ?_
                refine WL.vS hS hE (runs_plain rfl) (Gives.p hE rfl) rfl ?_; clear hE a; intro a hE
                refine WL.nil ?_
                refine W.ret ?_
                refine finG (fn := Try.f14) (rs := [.tmp 2]) (vs := [_]) hE rfl ⟨rfl, trivial⟩ ?_
                obtain rfl := Option.some.inj hr
                replace hS := hS.tail
                replace hS := hS.tail
                exact ⟨rfl, hS⟩
set_option maxHeartbeats 8000000 in
theorem MathBitsMul64_ok  {w : World} {s : Sg} {R : List HP} {x0 : Int} {x1 : Int} (hS : St w s (R))  {r : Int × Int} (hr : MathBitsMul64 x0 x1 = r) :
    Calls Try.prog 93 [.int .u64 x0, .int .u64 x1].toArray w (fun e w => e = .returned (.tuple #[.int .u64 r.1, .int .u64 r.2]) ∧ St w s (R)) := by
  refine enter Try.func93 rfl rfl rfl fun a hE => ?_
  rw [MathBitsMul64] at hr
  refine W.seq ?_
  refine W.region ?_
  refine WL.vS hS hE (runs_plain rfl) (Gives.p hE rfl) rfl ?_; clear hE a; intro a hE
  refine WL.vS hS hE (runs_plain rfl) (Gives.p hE rfl) rfl ?_; clear hE a; intro a hE
  refine WL.nil ?_
  refine W.seq ?_
  refine W.region ?_
  refine WL.vS hS hE (runs_plain rfl) (Gives.p hE rfl) rfl ?_; clear hE a; intro a hE
  refine WL.vS hS hE (runs_plain rfl) (Gives.p hE rfl) rfl ?_; clear hE a; intro a hE
  refine WL.vS hS hE (runs_plain rfl) (Gives.p hE rfl) rfl ?_; clear hE a; intro a hE
  refine WL.nil ?_
  refine W.seq ?_
  refine W.region ?_
  refine WL.vS hS hE (runs_plain rfl) (Gives.p hE rfl) rfl ?_; clear hE a; intro a hE
  refine WL.vS hS hE (runs_plain rfl) (Gives.shr hE rfl rfl (by decide)) rfl ?_; clear hE a; intro a hE
  refine WL.vS hS hE (runs_plain rfl) (Gives.p hE rfl) rfl ?_; clear hE a; intro a hE
  refine WL.nil ?_
  refine W.seq ?_
  refine W.region ?_
  refine WL.vS hS hE (runs_plain rfl) (Gives.p hE rfl) rfl ?_; clear hE a; intro a hE
  refine WL.vS hS hE (runs_plain rfl) (Gives.p hE rfl) rfl ?_; clear hE a; intro a hE
  refine WL.vS hS hE (runs_plain rfl) (Gives.p hE rfl) rfl ?_; clear hE a; intro a hE
  refine WL.nil ?_
  refine W.seq ?_
  refine W.region ?_
  refine WL.vS hS hE (runs_plain rfl) (Gives.p hE rfl) rfl ?_; clear hE a; intro a hE
  refine WL.vS hS hE (runs_plain rfl) (Gives.shr hE rfl rfl (by decide)) rfl ?_; clear hE a; intro a hE
  refine WL.vS hS hE (runs_plain rfl) (Gives.p hE rfl) rfl ?_; clear hE a; intro a hE
  refine WL.nil ?_
  refine W.seq ?_
  refine W.region ?_
  refine WL.vS hS hE (runs_plain rfl) (Gives.p hE rfl) rfl ?_; clear hE a; intro a hE
  refine WL.vS hS hE (runs_plain rfl) (Gives.p hE rfl) rfl ?_; clear hE a; intro a hE
  refine WL.vS hS hE (runs_plain rfl) (Gives.p hE rfl) rfl ?_; clear hE a; intro a hE
  refine WL.vS hS hE (runs_plain rfl) (Gives.p hE rfl) rfl ?_; clear hE a; intro a hE
  refine WL.nil ?_
  refine W.seq ?_
  refine W.region ?_
  refine WL.vS hS hE (runs_plain rfl) (Gives.p hE rfl) rfl ?_; clear hE a; intro a hE
  refine WL.vS hS hE (runs_plain rfl) (Gives.p hE rfl) rfl ?_; clear hE a; intro a hE
  refine WL.vS hS hE (runs_plain rfl) (Gives.p hE rfl) rfl ?_; clear hE a; intro a hE
  refine WL.vS hS hE (runs_plain rfl) (Gives.p hE rfl) rfl ?_; clear hE a; intro a hE
  refine WL.vS hS hE (runs_plain rfl) (Gives.shr hE rfl rfl (by decide)) rfl ?_; clear hE a; intro a hE
  refine WL.vS hS hE (runs_plain rfl) (Gives.p hE rfl) rfl ?_; clear hE a; intro a hE
  refine WL.vS hS hE (runs_plain rfl) (Gives.p hE rfl) rfl ?_; clear hE a; intro a hE
  refine WL.nil ?_
  refine W.seq ?_
  refine W.region ?_
  refine WL.vS hS hE (runs_plain rfl) (Gives.p hE rfl) rfl ?_; clear hE a; intro a hE
  refine WL.vS hS hE (runs_plain rfl) (Gives.p hE rfl) rfl ?_; clear hE a; intro a hE
  refine WL.vS hS hE (runs_plain rfl) (Gives.p hE rfl) rfl ?_; clear hE a; intro a hE
  refine WL.nil ?_
  refine W.seq ?_
  refine W.region ?_
  refine WL.vS hS hE (runs_plain rfl) (Gives.p hE rfl) rfl ?_; clear hE a; intro a hE
  refine WL.vS hS hE (runs_plain rfl) (Gives.shr hE rfl rfl (by decide)) rfl ?_; clear hE a; intro a hE
  refine WL.vS hS hE (runs_plain rfl) (Gives.p hE rfl) rfl ?_; clear hE a; intro a hE
  refine WL.nil ?_
  refine W.seq ?_
  refine W.region ?_
  refine WL.vS hS hE (runs_plain rfl) (Gives.p hE rfl) rfl ?_; clear hE a; intro a hE
  refine WL.vS hS hE (runs_plain rfl) (Gives.p hE rfl) rfl ?_; clear hE a; intro a hE
  refine WL.vS hS hE (runs_plain rfl) (Gives.p hE rfl) rfl ?_; clear hE a; intro a hE
  refine WL.vS hS hE (runs_plain rfl) (Gives.p hE rfl) rfl ?_; clear hE a; intro a hE
  refine WL.vS hS hE (runs_plain rfl) (Gives.p hE rfl) rfl ?_; clear hE a; intro a hE
  refine WL.vS hS hE (runs_plain rfl) (Gives.p hE rfl) rfl ?_; clear hE a; intro a hE
  refine WL.nil ?_
  refine W.seq ?_
  refine W.region ?_
  refine WL.vS hS hE (runs_plain rfl) (Gives.p hE rfl) rfl ?_; clear hE a; intro a hE
  refine WL.vS hS hE (runs_plain rfl) (Gives.p hE rfl) rfl ?_; clear hE a; intro a hE
  refine WL.vS hS hE (runs_plain rfl) (Gives.p hE rfl) rfl ?_; clear hE a; intro a hE
  refine WL.vS hS hE (runs_plain rfl) (Gives.p hE rfl) rfl ?_; clear hE a; intro a hE
  refine WL.vS hS hE (runs_plain rfl) (Gives.p hE rfl) rfl ?_; clear hE a; intro a hE
  refine WL.vS hS hE (runs_plain rfl) (Gives.p hE rfl) rfl ?_; clear hE a; intro a hE
  refine WL.vS hS hE (runs_plain rfl) (Gives.shr hE rfl rfl (by decide)) rfl ?_; clear hE a; intro a hE
  refine WL.vS hS hE (runs_plain rfl) (Gives.p hE rfl) rfl ?_; clear hE a; intro a hE
  refine WL.vS hS hE (runs_plain rfl) (Gives.p hE rfl) rfl ?_; clear hE a; intro a hE
  refine WL.nil ?_
  refine W.seq ?_
  refine W.region ?_
  refine WL.vS hS hE (runs_plain rfl) (Gives.p hE rfl) rfl ?_; clear hE a; intro a hE
  refine WL.vS hS hE (runs_plain rfl) (Gives.p hE rfl) rfl ?_; clear hE a; intro a hE
  refine WL.vS hS hE (runs_plain rfl) (Gives.p hE rfl) rfl ?_; clear hE a; intro a hE
  refine WL.vS hS hE (runs_plain rfl) (Gives.p hE rfl) rfl ?_; clear hE a; intro a hE
  refine WL.nil ?_
  refine W.ret ?_
  refine finG (fn := Try.f93) (rs := [.tmp 4, .tmp 5]) (vs := [_, _]) hE rfl ⟨rfl, rfl, trivial⟩ ?_
  subst hr
  exact ⟨rfl, hS⟩
set_option maxHeartbeats 8000000 in
theorem MathBitsMul_ok  {w : World} {s : Sg} {R : List HP} {x0 : Int} {x1 : Int} (hS : St w s (R))  {r : Int × Int} (hr : MathBitsMul x0 x1 = r) :
    Calls Try.prog 85 [.int .u64 x0, .int .u64 x1].toArray w (fun e w => e = .returned (.tuple #[.int .u64 r.1, .int .u64 r.2]) ∧ St w s (R)) := by
  refine enter Try.func85 rfl rfl rfl fun a hE => ?_
  rw [MathBitsMul] at hr
  refine W.seq ?_
  refine W.region ?_
  refine WL.vS hS hE (runs_plain rfl) (Gives.p hE rfl) rfl ?_; clear hE a; intro a hE
  refine WL.vS hS hE (runs_plain rfl) (Gives.p hE rfl) rfl ?_; clear hE a; intro a hE
  refine WL.nil ?_
  refine W.seq ?_
  refine W.condF hE rfl rfl ?_
  refine W.skip ?_
  refine W.seq ?_
  refine W.region ?_
  refine WL.vS hS hE (runs_plain rfl) (Gives.p hE rfl) rfl ?_; clear hE a; intro a hE
  refine WL.vS hS hE (runs_plain rfl) (Gives.p hE rfl) rfl ?_; clear hE a; intro a hE
  obtain ⟨q51, hq52, hr⟩ := bndS hr
  have hc_ := MathBitsMul64_ok hS  hq52
  refine WL.fnq hE (hc_) (runs_plain rfl) bd93 rfl rfl rfl ?_
  clear hE hS hc_; rintro e w ⟨rfl, hS⟩; refine ⟨_, rfl, ?_⟩; clear a; intro a hE
  refine WL.vS hS hE (runs_plain rfl) (Gives.p hE rfl) rfl ?_; clear hE a; intro a hE
  refine WL.vS hS hE (runs_plain rfl) (Gives.p hE rfl) rfl ?_; clear hE a; intro a hE
  refine WL.vS hS hE (runs_plain rfl) (Gives.p hE rfl) rfl ?_; clear hE a; intro a hE
  refine WL.vS hS hE (runs_plain rfl) (Gives.p hE rfl) rfl ?_; clear hE a; intro a hE
  refine WL.vS hS hE (runs_plain rfl) (Gives.p hE rfl) rfl ?_; clear hE a; intro a hE
  refine WL.nil ?_
  refine W.seq ?_
  refine W.region ?_
  refine WL.vS hS hE (runs_plain rfl) (Gives.p hE rfl) rfl ?_; clear hE a; intro a hE
  refine WL.vS hS hE (runs_plain rfl) (Gives.p hE rfl) rfl ?_; clear hE a; intro a hE
  refine WL.vS hS hE (runs_plain rfl) (Gives.p hE rfl) rfl ?_; clear hE a; intro a hE
  refine WL.vS hS hE (runs_plain rfl) (Gives.p hE rfl) rfl ?_; clear hE a; intro a hE
  refine WL.nil ?_
  refine W.ret ?_
  refine finG (fn := Try.f85) (rs := [.tmp 4, .tmp 5]) (vs := [_, _]) hE rfl ⟨rfl, rfl, trivial⟩ ?_
  subst hr
  exact ⟨rfl, hS⟩
set_option maxHeartbeats 8000000 in
theorem SlicesRepeatLint_ok {fu : Nat}  {w : World} {s : Sg} {R : List HP} {x0 : List Int} {a0 : Option Addr} {c0 : Nat} {x1 : Int} (hS : St w s (R)) (h0 : Sl 1 (RI .i64) s a0 c0 x0) {r : (List Int)} (hr : SlicesRepeatLint fu x0 x1 = some r) :
    Calls Try.prog 57 [.slice a0 x0.length c0, .int .i64 x1].toArray w (fun e w => ∃ (a0 : Option Addr) (c0 n0 : Nat) (cs0 : List Value), e = .returned (.slice a0 n0 c0) ∧ Ev 1 (RI .i64) s cs0 r ∧ r.length = n0 ∧ St w s (vecC 3 1 a0 c0 n0 cs0 :: R)) := by
  refine enter Try.func57 rfl rfl rfl fun a hE => ?_
  rw [SlicesRepeatLint] at hr
  refine W.seq ?_
  refine W.region ?_
  refine WL.vS hS hE (runs_plain rfl) (Gives.p hE rfl) rfl ?_; clear hE a; intro a hE
  refine WL.nil ?_
  refine W.seq ?_
  refine W.seq ?_
  refine W.region ?_
  refine WL.vS hS hE (runs_plain rfl) (Gives.p hE rfl) rfl ?_; clear hE a; intro a hE
  refine WL.vS hS hE (runs_plain rfl) (Gives.p hE rfl) rfl ?_; clear hE a; intro a hE
  refine WL.nil ?_
  refine W.cond hE rfl (fun hc51 => ?_) (fun hc51 => ?_)
  · replace hr := iteT hc51 hr
    refine W.region ?_
    exact absurd hr (by simp)
  · replace hr := iteF hc51 hr
    refine W.skip ?_
    refine W.seq ?_
    refine W.region ?_
    refine WL.vS hS hE (runs_plain rfl) (Gives.p hE rfl) rfl ?_; clear hE a; intro a hE
    refine WL.vS hS hE (runs_plain rfl) (Gives.len hE rfl sl22) rfl ?_; clear hE a; intro a hE
    refine WL.vS hS hE (runs_plain rfl) (Gives.conv hE rfl hu3 ui123) rfl ?_; clear hE a; intro a hE
    refine WL.vS hS hE (runs_plain rfl) (Gives.p hE rfl) rfl ?_; clear hE a; intro a hE
    refine WL.vS hS hE (runs_plain rfl) (Gives.conv hE rfl hu3 ui123) rfl ?_; clear hE a; intro a hE
    obtain ⟨q52, hq53, hr⟩ := bndS hr
    have hc_ := MathBitsMul_ok hS  hq53
    refine WL.fnq hE (hc_) (runs_plain rfl) bd85 rfl rfl rfl ?_
    clear hE hS hc_; rintro e w ⟨rfl, hS⟩; refine ⟨_, rfl, ?_⟩; clear a; intro a hE
    refine WL.vS hS hE (runs_plain rfl) (Gives.p hE rfl) rfl ?_; clear hE a; intro a hE
    refine WL.vS hS hE (runs_plain rfl) (Gives.p hE rfl) rfl ?_; clear hE a; intro a hE
    refine WL.vS hS hE (runs_plain rfl) (Gives.p hE rfl) rfl ?_; clear hE a; intro a hE
    refine WL.vS hS hE (runs_plain rfl) (Gives.p hE rfl) rfl ?_; clear hE a; intro a hE
    refine WL.vS hS hE (runs_plain rfl) (Gives.p hE rfl) rfl ?_; clear hE a; intro a hE
    refine WL.nil ?_
    refine W.seq ?_
    refine W.seq ?_
    obtain ⟨q55, hq54, hr⟩ := bndS hr
    refine W.cut (fun a w => ∃ (q58 : Bool), q58 = q55 ∧ Rep a 48 [(0, .slice a0 x0.length c0), (6, .int .u64 q52.2), (26, .bool q58)] ∧ St w s (R)) ?_ ?_
    · refine W.gen fun K59 hK59 => ?_
      refine W.region ?_
      refine WL.vS hS hE (runs_plain rfl) (Gives.p hE rfl) rfl ?_; clear hE a; intro a hE
      refine WL.vS hS hE (runs_plain rfl) (Gives.p hE rfl) rfl ?_; clear hE a; intro a hE
      refine WL.vS hS hE (runs_plain rfl) (Gives.p hE rfl) rfl ?_; clear hE a; intro a hE
      rcases Bool.eq_false_or_eq_true (decide (q52.1 > 0)) with hg60 | hg60
      · replace hq54 := iteT hg60 hq54
        refine WL.no hE (runs_not hE rfl rfl rfl (by rw [hg60]; decide)) rfl ?_; clear hE a; intro a hE
        refine WL.no hE (runs_not hE rfl rfl rfl (by rw [hg60]; decide)) rfl ?_; clear hE a; intro a hE
        refine WL.vS hS hE (runs_plain rfl) (Gives.pickT hE rfl hg60 rfl) rfl ?_; clear hE a; intro a hE
        refine WL.nil ?_
        subst hK59
        exact ⟨true, hq54, hE.pick _ ⟨rfl, rfl, rfl, trivial⟩, hS⟩
      · replace hq54 := iteF hg60 hq54
        refine WL.vS hS hE (runs_if hE rfl rfl rfl hg60) (Gives.p hE rfl) rfl ?_; clear hE a; intro a hE
        refine WL.vS hS hE (runs_if hE rfl rfl rfl hg60) (Gives.p hE rfl) rfl ?_; clear hE a; intro a hE
        refine WL.vS hS hE (runs_plain rfl) (Gives.pickF hE rfl hg60 rfl) rfl ?_; clear hE a; intro a hE
        refine WL.nil ?_
        subst hK59
        exact ⟨decide (q52.2 > 9223372036854775807), hq54, hE.pick _ ⟨rfl, rfl, rfl, trivial⟩, hS⟩
    · clear hE hS a w; rintro a w ⟨q58, rfl, hE, hS⟩
      refine W.cond hE rfl (fun hc61 => ?_) (fun hc61 => ?_)
      · replace hr := iteT hc61 hr
        refine W.region ?_
        exact absurd hr (by simp)
      · replace hr := iteF hc61 hr
        refine W.skip ?_
        refine W.seq ?_
        refine W.region ?_
        refine WL.vS hS hE (runs_plain rfl) (Gives.p hE rfl) rfl ?_; clear hE a; intro a hE
        refine WL.vS hS hE (runs_plain rfl) (Gives.conv hE rfl hu123 ui3) rfl ?_; clear hE a; intro a hE
        obtain ⟨x62, hx63, hr⟩ := bindS hr
        refine WL.mkD (Rr := RI .i64) hE hS (runs_plain rfl) rfl rfl ap22 zr3 rfl hx63 rfl ?_; clear hE hS a w; intro b64 cs65 a w h66 hE hS
        refine WL.vS hS hE (runs_plain rfl) (Gives.p hE rfl) rfl ?_; clear hE a; intro a hE
        refine WL.nil ?_
        refine W.seq ?_
        refine W.region ?_
        refine WL.vS hS hE (runs_plain rfl) (Gives.p hE rfl) rfl ?_; clear hE a; intro a hE
        refine WL.vS hS hE (runs_plain rfl) (Gives.p hE rfl) rfl ?_; clear hE a; intro a hE
        obtain ⟨x68, hx69, hr⟩ := bndS hr
        refine WL.cpS hE hS 0 (runs_plain rfl) cp22 (by rw [sliced_zero]; rfl) rfl rfl (Nat.zero_le _) (Nat.le_refl _) h66 rfl RI.one h0 rfl rfl ?_; clear hE hS a w; intro cs70 a w h71 hE hS
        have hn72 : x68.length = x62.length := by rw [← hx69, cpl_length (Nat.zero_le _) (by omega)]; try rfl
        rw [hx69] at h71
        refine WL.vS hS hE (runs_plain rfl) (Gives.p hE rfl) rfl ?_; clear hE a; intro a hE
        refine WL.nil ?_
        refine W.seq ?_
        obtain ⟨q74, hq73, hr⟩ := bindS hr
        refine W.cut (fun a w => ∃ (q79 : Int), ∃ (q80 : List Int), ∃ (cs84 : List Value), (q79, q80) = q74 ∧ Ev 1 (RI .i64) s cs84 q80 ∧ q80.length = x62.length ∧ Rep a 48 [(7, .slice (some ⟨b64, 0, none⟩) x62.length x62.length)] ∧ St w s (vecC 3 1 (some ⟨b64, 0, none⟩) x62.length x62.length cs84 :: R)) ?_ ?_
        · refine W.block ?_
          refine W.loop (fun m a w => ∃ (n75 : Nat), ∃ (q79 : Int), ∃ (q80 : List Int), ∃ (cs84 : List Value), n75 = m ∧ SlicesRepeatLint.loop1 x62 n75 q79 q80 = some q74 ∧ Ev 1 (RI .i64) s cs84 q80 ∧ q80.length = x62.length ∧ Rep a 48 [(7, .slice (some ⟨b64, 0, none⟩) x62.length x62.length), (8, .int .i64 q79)] ∧ St w s (vecC 3 1 (some ⟨b64, 0, none⟩) x62.length x62.length cs84 :: R)) (m := fu) ⟨fu, ((min x0.length (x62.length - 0) : Nat) : Int), x68, cs70, rfl, hq73, h71, hn72, hE.pick _ ⟨rfl, rfl, trivial⟩, hS⟩ ?_
          clear hE hS a w hq73; rintro m76 a w ⟨n75, q79, q80, cs84, rfl, hq73, h83, hn85, hE, hS⟩
          refine W.gen fun K86 hK86 => ?_
          rcases n75 with _ | n75
          · rw [SlicesRepeatLint.loop1] at hq73; exact absurd hq73 (by simp)
          rw [SlicesRepeatLint.loop1] at hq73
          refine W.seq ?_
          refine W.seq ?_
          refine W.region ?_
          refine WL.vS hS hE (runs_plain rfl) (Gives.p hE rfl) rfl ?_; clear hE a; intro a hE
          refine WL.vS hS hE (runs_plain rfl) (Gives.p hE rfl) rfl ?_; clear hE a; intro a hE
          refine WL.vS hS hE (runs_plain rfl) (Gives.len hE rfl sl22) rfl ?_; clear hE a; intro a hE
          refine WL.vS hS hE (runs_plain rfl) (Gives.p hE rfl) rfl ?_; clear hE a; intro a hE
          refine WL.nil ?_
          refine W.cond hE rfl (fun hc87 => ?_) (fun hc87 => ?_)
          · replace hq73 := iteT hc87 hq73
            refine W.skip ?_
            refine W.block ?_
            refine W.gen fun K88 hK88 => ?_
            refine W.regionE (sel (fun w => St w s (R)) (fun w => St w s (R))) (fun b i => cond b ([0, 1, 2, 3, 4, 5, 6, 7, 8, 9].contains i) ([0, 1, 2, 3, 4, 5, 6, 7, 8, 9].contains i)) mixed ?_
            replace hS := hS.drew
            refine Rg.takeP (i := 0) hE rfl (by kernel_rfl) (runs_plain rfl) (Gives.p hE rfl) rfl (tw_sel (fun _ => (hS.tail)) (fun _ => (hS.tail))) ?_; clear hE a; intro a hE
            refine Rg.takeP (i := 1) hE rfl (by kernel_rfl) (runs_plain rfl) (Gives.p hE rfl) rfl (tw_sel (fun _ => (hS.tail)) (fun _ => (hS.tail))) ?_; clear hE a; intro a hE
            refine Rg.takeP (i := 2) hE rfl (by kernel_rfl) (runs_plain rfl) (Gives.p hE rfl) rfl (tw_sel (fun _ => (hS.tail)) (fun _ => (hS.tail))) ?_; clear hE a; intro a hE
            obtain ⟨x89, hx90, hq73⟩ := bindS hq73
            obtain ⟨h91, h92, h93, h94, h95, h96⟩ := cutl_some hx90
            have h97 := (hS.vecCap 0 rfl).1
            refine Rg.takeP (i := 3) hE rfl (by kernel_rfl) (runs_plain rfl) (Gives.slL hE sl22 rfl rfl h91 (by have := hn85; omega) rfl) rfl (tw_sel (fun _ => (hS.tail)) (fun _ => (hS.tail))) ?_; clear hE a; intro a hE
            refine Rg.takeP (i := 4) hE rfl (by kernel_rfl) (runs_plain rfl) (Gives.p hE rfl) rfl (tw_sel (fun _ => (hS.tail)) (fun _ => (hS.tail))) ?_; clear hE a; intro a hE
            refine Rg.takeP (i := 5) hE rfl (by kernel_rfl) (runs_plain rfl) (Gives.p hE rfl) rfl (tw_sel (fun _ => (hS.tail)) (fun _ => (hS.tail))) ?_; clear hE a; intro a hE
            obtain ⟨x98, hx99, hq73⟩ := bindS hq73
            obtain ⟨h100, h101, h102, h103, h104, h105⟩ := cutl_some hx99
            have h106 := (hS.vecCap 0 rfl).1
            refine Rg.takeP (i := 6) hE rfl (by kernel_rfl) (runs_plain rfl) (Gives.slH hE sl22 rfl rfl h101 (Int.le_trans h102 (by have := hn85; omega)) rfl) rfl (tw_sel (fun _ => (hS.tail)) (fun _ => (hS.tail))) ?_; clear hE a; intro a hE
            refine Rg.one (i := 7) true true rfl (by kernel_rfl) (by kernel_rfl) (by kernel_rfl) ?_
            obtain ⟨x107, hx108, hq73⟩ := bndS hq73
            refine WL.cpO (lo2 := 0) (hi2 := (q79).toNat) hE hS 0 (runs_plain rfl) cp22 rfl rfl rfl (by have := hn85; omega) (by have := hn85; omega) (by have := hn85; omega) (by have := hn85; omega) h83 hn85 (h83.allOne RI.one) rfl ?_; clear hE hS a w; intro cs109 a w h110 hE hS
            have hn111 : x107.length = x62.length := by rw [← hx108, cpl_length (by have := hn85; omega) (by have := hn85; omega)]; try exact hn85
            rw [hx108] at h110
            refine WL.nil ?_
            refine ⟨⟨fun _ => (hS.tail), fun _ => (hS.tail)⟩, ?_⟩
            refine Rg.takeP (i := 8) hE rfl (by kernel_rfl) (runs_plain rfl) (Gives.p hE rfl) rfl (tw_sel (fun _ => (hS.tail)) (fun _ => (hS.tail))) ?_; clear hE a; intro a hE
            refine Rg.takeP (i := 9) hE rfl (by kernel_rfl) (runs_plain rfl) (Gives.p hE rfl) rfl (tw_sel (fun _ => (hS.tail)) (fun _ => (hS.tail))) ?_; clear hE a; intro a hE
            refine Rg.done (by kernel_rfl) ?_
            subst hK88
            subst hK86
            exact ⟨n75, Nat.lt_succ_self _, n75, (w64 (q79 + ((min ((q80.take ((q79).toNat)).drop 0).length (x62.length - ((q79).toNat)) : Nat) : Int))), x107, cs109, rfl, hq73, h110, hn111, hE.pick _ ⟨rfl, rfl, trivial⟩, hS⟩
          · replace hq73 := iteF hc87 hq73
            subst hK86
            refine W.exit rfl ?_
            exact ⟨q79, q80, cs84, Option.some.inj hq73, h83, hn85, hE.pick _ ⟨rfl, trivial⟩, hS⟩
        · clear hE hS a w; rintro a w ⟨q79, q80, cs84, rfl, h83, hn85, hE, hS⟩
          dsimp only at hr
          refine W.seq ?_
          refine W.region ?_
          refine WL.vS hS hE (runs_plain rfl) (Gives.p hE rfl) rfl ?_; clear hE a; intro a hE
          refine WL.vS hS hE (runs_plain rfl) (Gives.p hE rfl) rfl ?_; clear hE a; intro a hE
          refine WL.nil ?_
          refine W.ret ?_
          refine finG (fn := Try.f57) (rs := [.tmp 4]) (vs := [_]) hE rfl ⟨rfl, trivial⟩ ?_
          obtain rfl := Option.some.inj hr
          exact ⟨(some ⟨b64, 0, none⟩), x62.length, x62.length, cs84, rfl, h83, hn85, hS⟩
end Go.Proofs.Ytfioafdipipcaaa
