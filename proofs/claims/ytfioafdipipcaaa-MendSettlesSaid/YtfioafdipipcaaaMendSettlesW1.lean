/- The walks of the functions that MendSettles reaches: each call comes to what its mirror says. The conditions are those of each contract. -/
import Derived.Test.YtfioafdipipcaaaProg
import Derived.Test.YtfioafdipipcaaaMendSettlesM
import Derived.Test.YtfioafdipipcaaaFpMore
namespace Go.Proofs.Ytfioafdipipcaaa
open Go Go.Fp
theorem ap22 : apOk Try.prog 22 3 1 = true := by kernel_rfl
theorem ap40 : apOk Try.prog 40 22 1 = true := by kernel_rfl
theorem ap82 : apOk Try.prog 82 4 1 = true := by kernel_rfl
theorem bd14 : bodied Try.prog 14 = true := by kernel_rfl
theorem bd15 : bodied Try.prog 15 = true := by kernel_rfl
theorem bd16 : bodied Try.prog 16 = true := by kernel_rfl
theorem bd17 : bodied Try.prog 17 = true := by kernel_rfl
theorem bd21 : bodied Try.prog 21 = true := by kernel_rfl
theorem bd28 : bodied Try.prog 28 = true := by kernel_rfl
theorem bd33 : bodied Try.prog 33 = true := by kernel_rfl
theorem bd34 : bodied Try.prog 34 = true := by kernel_rfl
theorem bd35 : bodied Try.prog 35 = true := by kernel_rfl
theorem bd36 : bodied Try.prog 36 = true := by kernel_rfl
theorem bd49 : bodied Try.prog 49 = true := by kernel_rfl
theorem bd50 : bodied Try.prog 50 = true := by kernel_rfl
theorem bd51 : bodied Try.prog 51 = true := by kernel_rfl
theorem bd52 : bodied Try.prog 52 = true := by kernel_rfl
theorem bd53 : bodied Try.prog 53 = true := by kernel_rfl
theorem bd54 : bodied Try.prog 54 = true := by kernel_rfl
theorem bd55 : bodied Try.prog 55 = true := by kernel_rfl
theorem bd56 : bodied Try.prog 56 = true := by kernel_rfl
theorem bd57 : bodied Try.prog 57 = true := by kernel_rfl
theorem bd58 : bodied Try.prog 58 = true := by kernel_rfl
theorem bd60 : bodied Try.prog 60 = true := by kernel_rfl
theorem bd61 : bodied Try.prog 61 = true := by kernel_rfl
theorem bd67 : bodied Try.prog 67 = true := by kernel_rfl
theorem bd76 : bodied Try.prog 76 = true := by kernel_rfl
theorem bd77 : bodied Try.prog 77 = true := by kernel_rfl
theorem bd83 : bodied Try.prog 83 = true := by kernel_rfl
theorem bd84 : bodied Try.prog 84 = true := by kernel_rfl
theorem bd85 : bodied Try.prog 85 = true := by kernel_rfl
theorem bd86 : bodied Try.prog 86 = true := by kernel_rfl
theorem bd93 : bodied Try.prog 93 = true := by kernel_rfl
theorem bl4 : isBl Try.prog 4 = true := by kernel_rfl
theorem cp22 : cpOk Try.prog 22 3 1 = true := by kernel_rfl
theorem fl25_0 : fldOk Try.prog 25 0 0 = true := by kernel_rfl
theorem fl25_1 : fldOk Try.prog 25 1 1 = true := by kernel_rfl
theorem fl25_2 : fldOk Try.prog 25 2 2 = true := by kernel_rfl
theorem fl36_0 : fldOk Try.prog 36 0 0 = true := by kernel_rfl
theorem fl36_1 : fldOk Try.prog 36 1 1 = true := by kernel_rfl
theorem fl36_2 : fldOk Try.prog 36 2 2 = true := by kernel_rfl
theorem fl36_3 : fldOk Try.prog 36 3 3 = true := by kernel_rfl
theorem hu123 : (Try.prog.underlying 123).isSome = true := by kernel_rfl
theorem hu3 : (Try.prog.underlying 3).isSome = true := by kernel_rfl
theorem isl22 : isSl Try.prog 22 = true := by kernel_rfl
theorem mixed : Try.prog.follows .mixedOrders = true := by kernel_rfl
theorem sl22 : slOk Try.prog 22 3 1 = true := by kernel_rfl
theorem sl23 : slOk Try.prog 23 36 4 = true := by kernel_rfl
theorem sl40 : slOk Try.prog 40 22 1 = true := by kernel_rfl
theorem sl82 : slOk Try.prog 82 4 1 = true := by kernel_rfl
theorem ty121 : tyOk Try.prog 121 false 1 = true := by kernel_rfl
theorem ty22 : tyOk Try.prog 22 false 1 = true := by kernel_rfl
theorem ty23 : tyOk Try.prog 23 false 1 = true := by kernel_rfl
theorem ty25 : tyOk Try.prog 25 true 3 = true := by kernel_rfl
theorem ty3 : tyOk Try.prog 3 false 1 = true := by kernel_rfl
theorem ty36 : tyOk Try.prog 36 true 4 = true := by kernel_rfl
theorem ty4 : tyOk Try.prog 4 false 1 = true := by kernel_rfl
theorem ui123 : Try.prog.underlying 123 = some (.int .u64) := by kernel_rfl
theorem ui3 : Try.prog.underlying 3 = some (.int .i64) := by kernel_rfl
theorem zr121 : (Try.prog.info? 121).bind (fun i => i.zero.map fun z => z.cells.toList) = some [.nilFunc] := by kernel_rfl
theorem zr22 : (Try.prog.info? 22).bind (fun i => i.zero.map fun z => z.cells.toList) = some [.slice none 0 0] := by kernel_rfl
theorem zr25 : (Try.prog.info? 25).bind (fun i => i.zero.map fun z => z.cells.toList) = some [.int .i64 0, .slice none 0 0, .slice none 0 0] := by kernel_rfl
theorem zr3 : (Try.prog.info? 3).bind (fun i => i.zero.map fun z => z.cells.toList) = some [.int .i64 0] := by kernel_rfl
theorem zr36 : (Try.prog.info? 36).bind (fun i => i.zero.map fun z => z.cells.toList) = some [.int .i64 0, .int .i64 0, .int .i64 0, .int .i64 0] := by kernel_rfl
theorem zr4 : (Try.prog.info? 4).bind (fun i => i.zero.map fun z => z.cells.toList) = some [.bool false] := by kernel_rfl
set_option maxHeartbeats 8000000 in
theorem Mendwithin_ok  {w : World} {s : Sg} {R : List HP} {x0 : Int} {x1 : Int} {x2 : Int} (hS : St w s (R))  {r : Bool} (hr : Mendwithin x0 x1 x2 = r) :
    Calls Try.prog 54 [.int .i64 x0, .int .i64 x1, .int .i64 x2].toArray w (fun e w => e = .returned (.bool r) ∧ St w s (R)) := by
  refine enter Try.func54 rfl rfl rfl fun a hE => ?_
  rw [Mendwithin] at hr
  refine W.seq ?_
  refine W.region ?_
  refine WL.vS hS hE (runs_plain rfl) (Gives.p hE rfl) rfl ?_; clear hE a; intro a hE
  refine WL.nil ?_
  refine W.seq ?_
  obtain ⟨q52, hq51, hr⟩ := bndS hr
  refine W.cut (fun a w => ∃ (q55 : Bool), q55 = q52 ∧ Rep a 15 [(6, .bool q55)] ∧ St w s (R)) ?_ ?_
  · refine W.gen fun K56 hK56 => ?_
    refine W.region ?_
    refine WL.vS hS hE (runs_plain rfl) (Gives.p hE rfl) rfl ?_; clear hE a; intro a hE
    refine WL.vS hS hE (runs_plain rfl) (Gives.p hE rfl) rfl ?_; clear hE a; intro a hE
    refine WL.vS hS hE (runs_plain rfl) (Gives.p hE rfl) rfl ?_; clear hE a; intro a hE
    refine WL.vS hS hE (runs_plain rfl) (Gives.p hE rfl) rfl ?_; clear hE a; intro a hE
    rcases Bool.eq_false_or_eq_true (decide (x0 ≥ x1)) with hg57 | hg57
    · replace hq51 := iteT hg57 hq51
      refine WL.vS hS hE (runs_if hE rfl rfl rfl hg57) (Gives.p hE rfl) rfl ?_; clear hE a; intro a hE
      refine WL.vS hS hE (runs_if hE rfl rfl rfl hg57) (Gives.p hE rfl) rfl ?_; clear hE a; intro a hE
      refine WL.vS hS hE (runs_if hE rfl rfl rfl hg57) (Gives.p hE rfl) rfl ?_; clear hE a; intro a hE
      refine WL.vS hS hE (runs_plain rfl) (Gives.pickT hE rfl hg57 rfl) rfl ?_; clear hE a; intro a hE
      refine WL.vS hS hE (runs_plain rfl) (Gives.p hE rfl) rfl ?_; clear hE a; intro a hE
      refine WL.nil ?_
      subst hK56
      exact ⟨decide (x0 ≤ x2), hq51, hE.pick _ ⟨rfl, trivial⟩, hS⟩
    · replace hq51 := iteF hg57 hq51
      refine WL.no hE (runs_not hE rfl rfl rfl (by rw [hg57]; decide)) rfl ?_; clear hE a; intro a hE
      refine WL.no hE (runs_not hE rfl rfl rfl (by rw [hg57]; decide)) rfl ?_; clear hE a; intro a hE
      refine WL.no hE (runs_not hE rfl rfl rfl (by rw [hg57]; decide)) rfl ?_; clear hE a; intro a hE
      refine WL.vS hS hE (runs_plain rfl) (Gives.pickF hE rfl hg57 rfl) rfl ?_; clear hE a; intro a hE
      refine WL.vS hS hE (runs_plain rfl) (Gives.p hE rfl) rfl ?_; clear hE a; intro a hE
      refine WL.nil ?_
      subst hK56
      exact ⟨false, hq51, hE.pick _ ⟨rfl, trivial⟩, hS⟩
  · clear hE hS a w; rintro a w ⟨q55, rfl, hE, hS⟩
    refine W.ret ?_
    refine finG (fn := Try.f54) (rs := [.tmp 6]) (vs := [_]) hE rfl ⟨rfl, trivial⟩ ?_
    subst hr
    exact ⟨rfl, hS⟩
set_option maxHeartbeats 8000000 in
theorem MendRoundslack_ok  {w : World} {s : Sg} {R : List HP} {x0 : MendRound} {a0_0 : Option Addr} {c0_0 : Nat} {a0_1 : Option Addr} {c0_1 : Nat} {x1 : MendLink} (hS : St w s (R)) (h0_0 : Sl 1 (RI .i64) s a0_0 c0_0 x0.Plan) (_h0_1 : Sl 4 RMendLink s a0_1 c0_1 x0.Links) {r : Int} (hr : MendRoundslack x0 x1 = some r) :
    Calls Try.prog 55 [.agg [.int .i64 x0.Period, .slice a0_0 x0.Plan.length c0_0, .slice a0_1 x0.Links.length c0_1].toArray, .agg (MendLink.cells x1).toArray].toArray w (fun e w => e = .returned (.int .i64 r) ∧ St w s (R)) := by
  refine enter Try.func55 rfl rfl rfl fun a hE => ?_
  rw [MendRoundslack] at hr
  refine W.seq ?_
  refine W.region ?_
  refine WL.box hE hS (runs_plain rfl) rfl rfl rfl ?_; clear hE hS a w; intro b51 a w hE hS
  refine WL.box hE hS (runs_plain rfl) rfl rfl rfl ?_; clear hE hS a w; intro b52 a w hE hS
  refine WL.vS hS hE (runs_plain rfl) (Gives.p hE rfl) rfl ?_; clear hE a; intro a hE
  refine WL.nil ?_
  refine W.seq ?_
  refine W.regionQ (C := fun w => St w s (pt b52 (.cells (MendLink.cells x1).toArray 36 (0, 0)) :: pt b51 (.cells #[.int .i64 x0.Period, .slice a0_0 x0.Plan.length c0_0, .slice a0_1 x0.Links.length c0_1] 25 (0, 0)) :: R)) mixed (by kernel_rfl) hS.drew ?_
  refine QL.v hE (runs_plain rfl) (Gives.fld hE rfl fl25_1) rfl ?_; clear hE a; intro a hE
  refine QL.v hE (runs_plain rfl) (Gives.loadB hE 1 rfl rfl rfl ty22) rfl ?_; clear hE a; intro a hE
  refine QL.v hE (runs_plain rfl) (Gives.fld hE rfl fl36_1) rfl ?_; clear hE a; intro a hE
  refine QL.v hE (runs_plain rfl) (Gives.loadB hE 0 rfl rfl rfl ty3) rfl ?_; clear hE a; intro a hE
  obtain ⟨x53, hx54, hr⟩ := bindS hr
  obtain ⟨hi55, hlt56, hy57⟩ := gx_some hx54
  obtain ⟨cs58, hl59, hR60, hat61⟩ := h0_0.at hy57
  subst hR60
  refine QL.v hE (runs_plain rfl) (Gives.idx hE (x1.To).toNat rfl rfl sl22 hi55 hlt56 (h0_0.aok hlt56)) rfl ?_; clear hE a; intro a hE
  refine QL.v hE (runs_plain rfl) (Gives.load1 hE rfl (fun w h => hat61 w _ h) ty3) rfl ?_; clear hE a; intro a hE
  refine QL.v hE (runs_plain rfl) (Gives.fld hE rfl fl25_1) rfl ?_; clear hE a; intro a hE
  refine QL.v hE (runs_plain rfl) (Gives.loadB hE 1 rfl rfl rfl ty22) rfl ?_; clear hE a; intro a hE
  refine QL.v hE (runs_plain rfl) (Gives.fld hE rfl fl36_0) rfl ?_; clear hE a; intro a hE
  refine QL.v hE (runs_plain rfl) (Gives.loadB hE 0 rfl rfl rfl ty3) rfl ?_; clear hE a; intro a hE
  obtain ⟨x62, hx63, hr⟩ := bindS hr
  obtain ⟨hi64, hlt65, hy66⟩ := gx_some hx63
  obtain ⟨cs67, hl68, hR69, hat70⟩ := h0_0.at hy66
  subst hR69
  refine QL.v hE (runs_plain rfl) (Gives.idx hE (x1.From).toNat rfl rfl sl22 hi64 hlt65 (h0_0.aok hlt65)) rfl ?_; clear hE a; intro a hE
  refine QL.v hE (runs_plain rfl) (Gives.load1 hE rfl (fun w h => hat70 w _ h) ty3) rfl ?_; clear hE a; intro a hE
  refine QL.v hE (runs_plain rfl) (Gives.p hE rfl) rfl ?_; clear hE a; intro a hE
  refine QL.v hE (runs_plain rfl) (Gives.fld hE rfl fl36_3) rfl ?_; clear hE a; intro a hE
  refine QL.v hE (runs_plain rfl) (Gives.loadB hE 0 rfl rfl rfl ty3) rfl ?_; clear hE a; intro a hE
  refine QL.v hE (runs_plain rfl) (Gives.fld hE rfl fl25_0) rfl ?_; clear hE a; intro a hE
  refine QL.v hE (runs_plain rfl) (Gives.loadB hE 1 rfl rfl rfl ty3) rfl ?_; clear hE a; intro a hE
  refine QL.v hE (runs_plain rfl) (Gives.p hE rfl) rfl ?_; clear hE a; intro a hE
  refine QL.v hE (runs_plain rfl) (Gives.p hE rfl) rfl ?_; clear hE a; intro a hE
  refine QL.v hE (runs_plain rfl) (Gives.fld hE rfl fl36_2) rfl ?_; clear hE a; intro a hE
  refine QL.v hE (runs_plain rfl) (Gives.loadB hE 0 rfl rfl rfl ty3) rfl ?_; clear hE a; intro a hE
  refine QL.v hE (runs_plain rfl) (Gives.p hE rfl) rfl ?_; clear hE a; intro a hE
  refine QL.v hE (runs_plain rfl) (Gives.p hE rfl) rfl ?_; clear hE a; intro a hE
  refine QL.nil ?_; clear hS w; intro w hS
  refine W.ret ?_
  refine finG (fn := Try.f55) (rs := [.tmp 4]) (vs := [_]) hE rfl ⟨rfl, trivial⟩ ?_
  obtain rfl := Option.some.inj hr
  replace hS := hS.tail
  replace hS := hS.tail
  exact ⟨rfl, hS⟩
set_option maxHeartbeats 8000000 in
theorem MendRoundring_ok {fu : Nat}  {w : World} {s : Sg} {R : List HP} {x0 : MendRound} {a0_0 : Option Addr} {c0_0 : Nat} {a0_1 : Option Addr} {c0_1 : Nat} (hS : St w s (R)) (_h0_0 : Sl 1 (RI .i64) s a0_0 c0_0 x0.Plan) (h0_1 : Sl 4 RMendLink s a0_1 c0_1 x0.Links) {r : Bool} (hr : MendRoundring fu x0 = some r) :
    Calls Try.prog 56 [.agg [.int .i64 x0.Period, .slice a0_0 x0.Plan.length c0_0, .slice a0_1 x0.Links.length c0_1].toArray].toArray w (fun e w => e = .returned (.bool r) ∧ St w s (R)) := by
  refine enter Try.func56 rfl rfl rfl fun a hE => ?_
  rw [MendRoundring] at hr
  refine W.seq ?_
  refine W.region ?_
  refine WL.box hE hS (runs_plain rfl) rfl rfl rfl ?_; clear hE hS a w; intro b51 a w hE hS
  refine WL.vS hS hE (runs_plain rfl) (Gives.p hE rfl) rfl ?_; clear hE a; intro a hE
  refine WL.nil ?_
  refine W.seq ?_
  refine W.region ?_
  refine WL.vS hS hE (runs_plain rfl) (Gives.fld hE rfl fl25_1) rfl ?_; clear hE a; intro a hE
  refine WL.vS hS hE (runs_plain rfl) (Gives.loadB hE 0 rfl rfl rfl ty22) rfl ?_; clear hE a; intro a hE
  refine WL.vS hS hE (runs_plain rfl) (Gives.len hE rfl sl22) rfl ?_; clear hE a; intro a hE
  obtain ⟨x52, hx53, hr⟩ := bindS hr
  refine WL.mkD (Rr := RI .i64) hE hS (runs_plain rfl) rfl rfl ap22 zr3 rfl hx53 rfl ?_; clear hE hS a w; intro b54 cs55 a w h56 hE hS
  refine WL.vS hS hE (runs_plain rfl) (Gives.p hE rfl) rfl ?_; clear hE a; intro a hE
  refine WL.nil ?_
  refine W.seq ?_
  refine W.seq ?_
  refine W.region ?_
  refine WL.vS hS hE (runs_plain rfl) (Gives.fld hE rfl fl25_1) rfl ?_; clear hE a; intro a hE
  refine WL.vS hS hE (runs_plain rfl) (Gives.loadB hE 1 rfl rfl rfl ty22) rfl ?_; clear hE a; intro a hE
  refine WL.vS hS hE (runs_plain rfl) (Gives.len hE rfl sl22) rfl ?_; clear hE a; intro a hE
  refine WL.vS hS hE (runs_plain rfl) (Gives.p hE rfl) rfl ?_; clear hE a; intro a hE
  refine WL.vS hS hE (runs_plain rfl) (Gives.p hE rfl) rfl ?_; clear hE a; intro a hE
  refine WL.nil ?_
  obtain ⟨q70, hq69, hr⟩ := bindS hr
  refine W.cut (fun a w => ∃ (q75 : Int), ∃ (q76 : List Int), ∃ (cs80 : List Value), (.next (q75, q76)) = q70 ∧ Ev 1 (RI .i64) s cs80 q76 ∧ q76.length = x52.length ∧ Rep a 54 [] ∧ St w s (vecC 3 1 (some ⟨b54, 0, none⟩) x52.length x52.length cs80 :: pt b51 (.cells #[.int .i64 x0.Period, .slice a0_0 x0.Plan.length c0_0, .slice a0_1 x0.Links.length c0_1] 25 (0, 0)) :: R)) ?_ ?_
  · refine W.block ?_
    refine W.loop (fun m a w => ∃ (n71 : Nat), ∃ (q75 : Int), ∃ (q76 : List Int), ∃ (cs80 : List Value), n71 = m ∧ MendRoundring.loop2 x0 n71 q75 q76 = some q70 ∧ Ev 1 (RI .i64) s cs80 q76 ∧ q76.length = x52.length ∧ Rep a 54 [(1, .pointer (some ⟨b51, 0, none⟩)), (3, .slice (some ⟨b54, 0, none⟩) x52.length x52.length), (14, .int .i64 (w64 (((x0.Plan).length : Int) + 1))), (15, .int .i64 q75)] ∧ St w s (vecC 3 1 (some ⟨b54, 0, none⟩) x52.length x52.length cs80 :: pt b51 (.cells #[.int .i64 x0.Period, .slice a0_0 x0.Plan.length c0_0, .slice a0_1 x0.Links.length c0_1] 25 (0, 0)) :: R)) (m := fu) ⟨fu, 0, x52, cs55, rfl, hq69, h56, (rfl), hE.pick _ ⟨rfl, rfl, rfl, rfl, trivial⟩, hS⟩ ?_
    clear hE hS a w hq69; rintro m72 a w ⟨n71, q75, q76, cs80, rfl, hq69, h79, hn81, hE, hS⟩
    refine W.gen fun K82 hK82 => ?_
    rcases n71 with _ | n71
    · rw [MendRoundring.loop2] at hq69; exact absurd hq69 (by simp)
    rw [MendRoundring.loop2] at hq69
    refine W.seq ?_
    refine W.region ?_
    refine WL.vS hS hE (runs_plain rfl) (Gives.p hE rfl) rfl ?_; clear hE a; intro a hE
    refine WL.nil ?_
    refine W.seq ?_
    refine W.cond hE rfl (fun hc83 => ?_) (fun hc83 => ?_)
    · replace hq69 := iteT hc83 hq69
      refine W.skip ?_
      refine W.seq ?_
      refine W.block ?_
      refine W.seq ?_
      refine W.region ?_
      refine WL.vS hS hE (runs_plain rfl) (Gives.p hE rfl) rfl ?_; clear hE a; intro a hE
      refine WL.nil ?_
      refine W.seq ?_
      refine W.seq ?_
      refine W.region ?_
      refine WL.vS hS hE (runs_plain rfl) (Gives.fld hE rfl fl25_2) rfl ?_; clear hE a; intro a hE
      refine WL.vS hS hE (runs_plain rfl) (Gives.loadB hE 1 rfl rfl rfl ty23) rfl ?_; clear hE a; intro a hE
      refine WL.vS hS hE (runs_plain rfl) (Gives.len hE rfl sl23) rfl ?_; clear hE a; intro a hE
      refine WL.vS hS hE (runs_plain rfl) (Gives.p hE rfl) rfl ?_; clear hE a; intro a hE
      refine WL.nil ?_
      obtain ⟨q85, hq84, hq69⟩ := bindS hq69
      refine W.cut (fun a w => ∃ (q95 : Bool), ∃ (q96 : List Int), ∃ (cs100 : List Value), (q95, q96) = q85 ∧ Ev 1 (RI .i64) s cs100 q96 ∧ q96.length = x52.length ∧ Rep a 54 [(1, .pointer (some ⟨b51, 0, none⟩)), (3, .slice (some ⟨b54, 0, none⟩) x52.length x52.length), (4, .bool q95), (14, .int .i64 (w64 (((x0.Plan).length : Int) + 1))), (15, .int .i64 q75)] ∧ St w s (vecC 3 1 (some ⟨b54, 0, none⟩) x52.length x52.length cs100 :: pt b51 (.cells #[.int .i64 x0.Period, .slice a0_0 x0.Plan.length c0_0, .slice a0_1 x0.Links.length c0_1] 25 (0, 0)) :: R)) ?_ ?_
      · refine W.block ?_
        refine W.loop (fun m a w => ∃ (rest88 : List MendLink) (k86 : Nat), ∃ (q95 : Bool), ∃ (q96 : List Int), ∃ (cs100 : List Value), rest88.length = m ∧ x0.Links.drop k86 = rest88 ∧ MendRoundring.loop3 rest88 q95 q96 = some q85 ∧ Ev 1 (RI .i64) s cs100 q96 ∧ q96.length = x52.length ∧ Rep a 54 [(1, .pointer (some ⟨b51, 0, none⟩)), (3, .slice (some ⟨b54, 0, none⟩) x52.length x52.length), (4, .bool q95), (14, .int .i64 (w64 (((x0.Plan).length : Int) + 1))), (15, .int .i64 q75), (18, .slice a0_1 x0.Links.length c0_1), (19, .int .i64 ((x0.Links).length : Int)), (20, .int .i64 ((k86 : Nat) : Int))] ∧ St w s (vecC 3 1 (some ⟨b54, 0, none⟩) x52.length x52.length cs100 :: pt b51 (.cells #[.int .i64 x0.Period, .slice a0_0 x0.Plan.length c0_0, .slice a0_1 x0.Links.length c0_1] 25 (0, 0)) :: R)) (m := x0.Links.length) ⟨x0.Links, 0, false, q76, cs80, rfl, rfl, hq84, h79, hn81, hE.pick _ ⟨rfl, rfl, rfl, rfl, rfl, rfl, rfl, rfl, trivial⟩, hS⟩ ?_
        clear hE hS a w hq84; rintro m92 a w ⟨rest88, k86, q95, q96, cs100, rfl, hd89, hq84, h99, hn101, hE, hS⟩
        refine W.gen fun K102 hK102 => ?_
        rcases rest88 with _ | ⟨x87, rest88⟩
        · have hlt90 := drop_nil hd89
          refine W.seq ?_
          refine W.region ?_
          refine WL.vS hS hE (runs_plain rfl) (Gives.p hE rfl) rfl ?_; clear hE a; intro a hE
          refine WL.nil ?_
          refine W.seq ?_
          refine W.condF hE rfl (decide_eq_false (by omega)) ?_
          subst hK102
          refine W.exit rfl ?_
          exact ⟨q95, q96, cs100, Option.some.inj hq84, h99, hn101, hE.pick _ ⟨rfl, rfl, rfl, rfl, rfl, trivial⟩, hS⟩
        · obtain ⟨hlt90, hx91, hd89⟩ := drop_cons hd89
          rw [MendRoundring.loop3] at hq84
          refine W.seq ?_
          refine W.region ?_
          refine WL.vS hS hE (runs_plain rfl) (Gives.p hE rfl) rfl ?_; clear hE a; intro a hE
          refine WL.nil ?_
          refine W.seq ?_
          refine W.condT hE rfl (decide_eq_true (by omega)) ?_
          refine W.skip ?_
          refine W.seq ?_
          refine W.block ?_
          refine W.seq ?_
          refine W.region ?_
          obtain ⟨cs103, hl104, hR105, hat106⟩ := h0_1.at hx91
          subst hR105
          refine WL.vS hS hE (runs_plain rfl) (Gives.idx hE k86 rfl rfl sl23 rfl hlt90 (h0_1.aok hlt90)) rfl ?_; clear hE a; intro a hE
          refine WL.vS hS hE (runs_plain rfl) (Gives.loadA hE rfl (fun w h => hat106 w _ h) ty36) rfl ?_; clear hE a; intro a hE
          refine WL.alloc hE hS (runs_plain rfl) zr36 rfl ?_; clear hE hS a w; intro b107 a w hE hS
          refine WL.storeI hE hS 0 rfl (MendLink.cells x87) (runs_plain rfl) rfl rfl rfl ty36 rfl rfl rfl rfl ?_; clear hE hS a w; intro a w hE hS
          refine WL.nil ?_
          refine W.seq ?_
          obtain ⟨q109, hq108, hq84⟩ := bindS hq84
          refine W.cut (fun a w => ∃ (q112 : Bool), q112 = q109 ∧ Rep a 54 [(1, .pointer (some ⟨b51, 0, none⟩)), (3, .slice (some ⟨b54, 0, none⟩) x52.length x52.length), (4, .bool q95), (6, .pointer (some ⟨b107, 0, none⟩)), (14, .int .i64 (w64 (((x0.Plan).length : Int) + 1))), (15, .int .i64 q75), (18, .slice a0_1 x0.Links.length c0_1), (19, .int .i64 ((x0.Links).length : Int)), (20, .int .i64 ((k86 : Nat) : Int)), (39, .bool q112)] ∧ St w s (pt b107 (.cells (MendLink.cells x87).toArray 36 (0, 0)) :: vecC 3 1 (some ⟨b54, 0, none⟩) x52.length x52.length cs100 :: pt b51 (.cells #[.int .i64 x0.Period, .slice a0_0 x0.Plan.length c0_0, .slice a0_1 x0.Links.length c0_1] 25 (0, 0)) :: R)) ?_ ?_
          · refine W.gen fun K113 hK113 => ?_
            refine W.regionQ (C := fun w => St w s (pt b107 (.cells (MendLink.cells x87).toArray 36 (0, 0)) :: vecC 3 1 (some ⟨b54, 0, none⟩) x52.length x52.length cs100 :: pt b51 (.cells #[.int .i64 x0.Period, .slice a0_0 x0.Plan.length c0_0, .slice a0_1 x0.Links.length c0_1] 25 (0, 0)) :: R)) mixed (by kernel_rfl) hS.drew ?_
            refine QL.v hE (runs_plain rfl) (Gives.fld hE rfl fl36_3) rfl ?_; clear hE a; intro a hE
            refine QL.v hE (runs_plain rfl) (Gives.loadB hE 0 rfl rfl rfl ty3) rfl ?_; clear hE a; intro a hE
            refine QL.v hE (runs_plain rfl) (Gives.p hE rfl) rfl ?_; clear hE a; intro a hE
            refine QL.v hE (runs_plain rfl) (Gives.p hE rfl) rfl ?_; clear hE a; intro a hE
            rcases Bool.eq_false_or_eq_true (x87.Back == 0) with hg114 | hg114
            · replace hq108 := iteT hg114 hq108
              refine QL.v hE (runs_if hE rfl rfl rfl hg114) (Gives.p hE rfl) rfl ?_; clear hE a; intro a hE
              refine QL.v hE (runs_if hE rfl rfl rfl hg114) (Gives.fld hE rfl fl36_1) rfl ?_; clear hE a; intro a hE
              refine QL.v hE (runs_if hE rfl rfl rfl hg114) (Gives.loadB hE 0 rfl rfl rfl ty3) rfl ?_; clear hE a; intro a hE
              obtain ⟨x115, hx116, hq108⟩ := bindS hq108
              obtain ⟨hi117, hlt118, hy119⟩ := gx_some hx116
              obtain ⟨vs120, hl121, hR122, hd123, hget124⟩ := h99.at hy119
              subst hR122
              refine QL.v hE (runs_if hE rfl rfl rfl hg114) (Gives.idx hE ((x87.To).toNat) rfl rfl sl22 hi117 (by have := hn101; omega) (hS.vecAok 1 rfl (by have := hn101; omega : (x87.To).toNat < x52.length))) rfl ?_; clear hE a; intro a hE
              refine QL.v hE (runs_if hE rfl rfl rfl hg114) (Gives.load1 hE rfl (fun w h => St.vecSees h 1 rfl ((x87.To).toNat * 1) _ hget124) ty3) rfl ?_; clear hE a; intro a hE
              refine QL.v hE (runs_if hE rfl rfl rfl hg114) (Gives.p hE rfl) rfl ?_; clear hE a; intro a hE
              refine QL.v hE (runs_if hE rfl rfl rfl hg114) (Gives.fld hE rfl fl36_0) rfl ?_; clear hE a; intro a hE
              refine QL.v hE (runs_if hE rfl rfl rfl hg114) (Gives.loadB hE 0 rfl rfl rfl ty3) rfl ?_; clear hE a; intro a hE
              obtain ⟨x125, hx126, hq108⟩ := bindS hq108
              obtain ⟨hi127, hlt128, hy129⟩ := gx_some hx126
              obtain ⟨vs130, hl131, hR132, hd133, hget134⟩ := h99.at hy129
              subst hR132
              refine QL.v hE (runs_if hE rfl rfl rfl hg114) (Gives.idx hE ((x87.From).toNat) rfl rfl sl22 hi127 (by have := hn101; omega) (hS.vecAok 1 rfl (by have := hn101; omega : (x87.From).toNat < x52.length))) rfl ?_; clear hE a; intro a hE
              refine QL.v hE (runs_if hE rfl rfl rfl hg114) (Gives.load1 hE rfl (fun w h => St.vecSees h 1 rfl ((x87.From).toNat * 1) _ hget134) ty3) rfl ?_; clear hE a; intro a hE
              refine QL.v hE (runs_if hE rfl rfl rfl hg114) (Gives.p hE rfl) rfl ?_; clear hE a; intro a hE
              refine QL.v hE (runs_plain rfl) (Gives.pickT hE rfl hg114 rfl) rfl ?_; clear hE a; intro a hE
              refine QL.nil ?_; clear hS w; intro w hS
              subst hK113
              exact ⟨decide (x115 ≤ x125), Option.some.inj hq108, hE.pick _ ⟨rfl, rfl, rfl, rfl, rfl, rfl, rfl, rfl, rfl, rfl, trivial⟩, hS⟩
            · replace hq108 := iteF hg114 hq108
              refine QL.no hE (runs_not hE rfl rfl rfl (by rw [hg114]; decide)) rfl ?_; clear hE a; intro a hE
              refine QL.no hE (runs_not hE rfl rfl rfl (by rw [hg114]; decide)) rfl ?_; clear hE a; intro a hE
              refine QL.no hE (runs_not hE rfl rfl rfl (by rw [hg114]; decide)) rfl ?_; clear hE a; intro a hE
              refine QL.no hE (runs_not hE rfl rfl rfl (by rw [hg114]; decide)) rfl ?_; clear hE a; intro a hE
              refine QL.no hE (runs_not hE rfl rfl rfl (by rw [hg114]; decide)) rfl ?_; clear hE a; intro a hE
              refine QL.no hE (runs_not hE rfl rfl rfl (by rw [hg114]; decide)) rfl ?_; clear hE a; intro a hE
              refine QL.no hE (runs_not hE rfl rfl rfl (by rw [hg114]; decide)) rfl ?_; clear hE a; intro a hE
              refine QL.no hE (runs_not hE rfl rfl rfl (by rw [hg114]; decide)) rfl ?_; clear hE a; intro a hE
              refine QL.no hE (runs_not hE rfl rfl rfl (by rw [hg114]; decide)) rfl ?_; clear hE a; intro a hE
              refine QL.no hE (runs_not hE rfl rfl rfl (by rw [hg114]; decide)) rfl ?_; clear hE a; intro a hE
              refine QL.no hE (runs_not hE rfl rfl rfl (by rw [hg114]; decide)) rfl ?_; clear hE a; intro a hE
              refine QL.v hE (runs_plain rfl) (Gives.pickF hE rfl hg114 rfl) rfl ?_; clear hE a; intro a hE
              refine QL.nil ?_; clear hS w; intro w hS
              subst hK113
              exact ⟨false, Option.some.inj hq108, hE.pick _ ⟨rfl, rfl, rfl, rfl, rfl, rfl, rfl, rfl, rfl, rfl, trivial⟩, hS⟩
          · clear hE hS a w; rintro a w ⟨q112, rfl, hE, hS⟩
            obtain ⟨q136, hq135, hq84⟩ := bindS hq84
            refine W.cut (fun a w => ∃ (q139 : Bool), ∃ (q140 : List Int), ∃ (cs144 : List Value), (q139, q140) = q136 ∧ Ev 1 (RI .i64) s cs144 q140 ∧ q140.length = x52.length ∧ Rep a 54 [(1, .pointer (some ⟨b51, 0, none⟩)), (3, .slice (some ⟨b54, 0, none⟩) x52.length x52.length), (4, .bool q139), (14, .int .i64 (w64 (((x0.Plan).length : Int) + 1))), (15, .int .i64 q75), (18, .slice a0_1 x0.Links.length c0_1), (19, .int .i64 ((x0.Links).length : Int)), (20, .int .i64 ((k86 : Nat) : Int))] ∧ St w s (pt b107 (.cells (MendLink.cells x87).toArray 36 (0, 0)) :: vecC 3 1 (some ⟨b54, 0, none⟩) x52.length x52.length cs144 :: pt b51 (.cells #[.int .i64 x0.Period, .slice a0_0 x0.Plan.length c0_0, .slice a0_1 x0.Links.length c0_1] 25 (0, 0)) :: R)) ?_ ?_
            · refine W.gen fun K146 hK146 => ?_
              refine W.cond hE rfl (fun hc147 => ?_) (fun hc147 => ?_)
              · replace hq135 := iteT hc147 hq135
                refine W.gen fun K148 hK148 => ?_
                refine W.regionE (sel (fun w => St w s (pt b107 (.cells (MendLink.cells x87).toArray 36 (0, 0)) :: vecC 3 1 (some ⟨b54, 0, none⟩) x52.length x52.length cs100 :: pt b51 (.cells #[.int .i64 x0.Period, .slice a0_0 x0.Plan.length c0_0, .slice a0_1 x0.Links.length c0_1] 25 (0, 0)) :: R)) (fun w => St w s (pt b107 (.cells (MendLink.cells x87).toArray 36 (0, 0)) :: pt b51 (.cells #[.int .i64 x0.Period, .slice a0_0 x0.Plan.length c0_0, .slice a0_1 x0.Links.length c0_1] 25 (0, 0)) :: R))) (fun b i => cond b ([0, 1, 2, 3, 4, 5, 6, 7, 8, 9, 11].contains i) ([0, 1, 2, 3, 4, 5, 6, 7, 8, 9, 10, 11].contains i)) mixed ?_
                replace hS := hS.drew
                refine Rg.takeP (i := 0) hE rfl (by kernel_rfl) (runs_plain rfl) (Gives.p hE rfl) rfl (tw_sel (fun _ => hS) (fun _ => (hS.dropAt 1))) ?_; clear hE a; intro a hE
                refine Rg.takeP (i := 1) hE rfl (by kernel_rfl) (runs_plain rfl) (Gives.fld hE rfl fl36_1) rfl (tw_sel (fun _ => hS) (fun _ => (hS.dropAt 1))) ?_; clear hE a; intro a hE
                have hT := tw_sel (A := fun w => St w s (pt b107 (.cells (MendLink.cells x87).toArray 36 (0, 0)) :: vecC 3 1 (some ⟨b54, 0, none⟩) x52.length x52.length cs100 :: pt b51 (.cells #[.int .i64 x0.Period, .slice a0_0 x0.Plan.length c0_0, .slice a0_1 x0.Links.length c0_1] 25 (0, 0)) :: R)) (B := fun w => St w s (pt b107 (.cells (MendLink.cells x87).toArray 36 (0, 0)) :: pt b51 (.cells #[.int .i64 x0.Period, .slice a0_0 x0.Plan.length c0_0, .slice a0_1 x0.Links.length c0_1] 25 (0, 0)) :: R)) (w := _) (x := true) (y := true) (fun _ => hS) (fun _ => (hS.dropAt 1))
                have hF := hS; replace hS := hS
                refine Rg.take (i := 2) true rfl hE rfl (by kernel_rfl) (runs_plain rfl) (Gives.loadB hE 0 rfl rfl rfl ty3) rfl hT ?_; clear hE a; intro a hE
                replace hS := hF; clear hF hT
                refine Rg.takeP (i := 3) hE rfl (by kernel_rfl) (runs_plain rfl) (Gives.p hE rfl) rfl (tw_sel (fun _ => hS) (fun _ => (hS.dropAt 1))) ?_; clear hE a; intro a hE
                refine Rg.takeP (i := 4) hE rfl (by kernel_rfl) (runs_plain rfl) (Gives.fld hE rfl fl36_0) rfl (tw_sel (fun _ => hS) (fun _ => (hS.dropAt 1))) ?_; clear hE a; intro a hE
                have hT := tw_sel (A := fun w => St w s (pt b107 (.cells (MendLink.cells x87).toArray 36 (0, 0)) :: vecC 3 1 (some ⟨b54, 0, none⟩) x52.length x52.length cs100 :: pt b51 (.cells #[.int .i64 x0.Period, .slice a0_0 x0.Plan.length c0_0, .slice a0_1 x0.Links.length c0_1] 25 (0, 0)) :: R)) (B := fun w => St w s (pt b107 (.cells (MendLink.cells x87).toArray 36 (0, 0)) :: pt b51 (.cells #[.int .i64 x0.Period, .slice a0_0 x0.Plan.length c0_0, .slice a0_1 x0.Links.length c0_1] 25 (0, 0)) :: R)) (w := _) (x := true) (y := true) (fun _ => hS) (fun _ => (hS.dropAt 1))
                have hF := hS; replace hS := hS
                refine Rg.take (i := 5) true rfl hE rfl (by kernel_rfl) (runs_plain rfl) (Gives.loadB hE 0 rfl rfl rfl ty3) rfl hT ?_; clear hE a; intro a hE
                replace hS := hF; clear hF hT
                obtain ⟨x149, hx150, hq135⟩ := bindS hq135
                obtain ⟨hi151, hlt152, hy153⟩ := gx_some hx150
                obtain ⟨vs154, hl155, hR156, hd157, hget158⟩ := h99.at hy153
                subst hR156
                refine Rg.takeP (i := 6) hE rfl (by kernel_rfl) (runs_plain rfl) (Gives.idx hE ((x87.From).toNat) rfl rfl sl22 hi151 (by have := hn101; omega) (hS.vecAok 1 rfl (by have := hn101; omega : (x87.From).toNat < x52.length))) rfl (tw_sel (fun _ => hS) (fun _ => (hS.dropAt 1))) ?_; clear hE a; intro a hE
                have hT := tw_sel (A := fun w => St w s (pt b107 (.cells (MendLink.cells x87).toArray 36 (0, 0)) :: vecC 3 1 (some ⟨b54, 0, none⟩) x52.length x52.length cs100 :: pt b51 (.cells #[.int .i64 x0.Period, .slice a0_0 x0.Plan.length c0_0, .slice a0_1 x0.Links.length c0_1] 25 (0, 0)) :: R)) (B := fun w => St w s (pt b107 (.cells (MendLink.cells x87).toArray 36 (0, 0)) :: pt b51 (.cells #[.int .i64 x0.Period, .slice a0_0 x0.Plan.length c0_0, .slice a0_1 x0.Links.length c0_1] 25 (0, 0)) :: R)) (w := _) (x := true) (y := true) (fun _ => hS) (fun _ => (hS.dropAt 1))
                have hF := hS; replace hS := hS
                refine Rg.take (i := 7) true rfl hE rfl (by kernel_rfl) (runs_plain rfl) (Gives.load1 hE rfl (fun w h => St.vecSees h 1 rfl ((x87.From).toNat * 1) _ hget158) ty3) rfl hT ?_; clear hE a; intro a hE
                replace hS := hF; clear hF hT
                refine Rg.takeP (i := 8) hE rfl (by kernel_rfl) (runs_plain rfl) (Gives.p hE rfl) rfl (tw_sel (fun _ => hS) (fun _ => (hS.dropAt 1))) ?_; clear hE a; intro a hE
                obtain ⟨_, hx160, hq135⟩ := bindS hq135
                obtain ⟨h161, h162⟩ := ix_some hx160
                refine Rg.takeP (i := 9) hE rfl (by kernel_rfl) (runs_plain rfl) (Gives.idx hE ((x87.To).toNat) rfl rfl sl22 h161 (by have := hn101; omega) (hS.vecAok 1 rfl (by have := hn101; omega : (x87.To).toNat < x52.length))) rfl (tw_sel (fun _ => hS) (fun _ => (hS.dropAt 1))) ?_; clear hE a; intro a hE
                refine Rg.one (i := 10) false true rfl (by kernel_rfl) (by kernel_rfl) (by kernel_rfl) ?_
                obtain ⟨x164, hx165, hq135⟩ := bindS hq135
                refine WL.setD hE hS 1 rfl (runs_plain rfl) rfl rfl (vs := [.int .i64 (w64 (x149 + 1))]) rfl ty3 rfl rfl rfl h99 hn101 (sx_some hx165).1 hx165 rfl rfl ?_; clear hE hS a w; intro cs166 a w h167 hn168 hE hS
                refine WL.nil ?_
                refine ⟨⟨fun h => absurd h (by decide), fun _ => (hS.dropAt 1)⟩, ?_⟩
                refine Rg.takeP (i := 11) hE rfl (by kernel_rfl) (runs_plain rfl) (Gives.p hE rfl) rfl (tw_sel (fun h => absurd h (by decide)) (fun _ => (hS.dropAt 1))) ?_; clear hE a; intro a hE
                refine Rg.done (by kernel_rfl) ?_
                subst hK148
                subst hK146
                exact ⟨true, x164, cs166, Option.some.inj hq135, h167, hn168, hE.pick _ ⟨rfl, rfl, rfl, rfl, rfl, rfl, rfl, rfl, trivial⟩, hS⟩
              · replace hq135 := iteF hc147 hq135
                refine W.skip ?_
                subst hK146
                exact ⟨q95, q96, cs100, Option.some.inj hq135, h99, hn101, hE.pick _ ⟨rfl, rfl, rfl, rfl, rfl, rfl, rfl, rfl, trivial⟩, hS⟩
            · clear hE hS a w; rintro a w ⟨q139, q140, cs144, rfl, h143, hn145, hE, hS⟩
              dsimp only at hq84
              refine W.region ?_
              refine WL.vS hS hE (runs_plain rfl) (Gives.inc hE rfl (by have := h0_1.small; omega)) rfl ?_; clear hE a; intro a hE
              refine WL.vS hS hE (runs_plain rfl) (Gives.p hE rfl) rfl ?_; clear hE a; intro a hE
              refine WL.nil ?_
              replace hS := hS.tail
              subst hK102
              exact ⟨rest88.length, Nat.lt_succ_self _, rest88, k86 + 1, q139, q140, cs144, rfl, hd89, hq84, h143, hn145, hE.pick _ ⟨rfl, rfl, rfl, rfl, rfl, rfl, rfl, rfl, trivial⟩, hS⟩
      · clear hE hS a w; rintro a w ⟨q95, q96, cs100, rfl, h99, hn101, hE, hS⟩
        dsimp only at hq69
        refine W.seq ?_
        refine W.region ?_
        refine WL.vS hS hE (runs_plain rfl) (Gives.p hE rfl) rfl ?_; clear hE a; intro a hE
        refine WL.vS hS hE (runs_plain rfl) (Gives.p hE rfl) rfl ?_; clear hE a; intro a hE
        refine WL.nil ?_
        refine W.cond hE rfl (fun hc169 => ?_) (fun hc169 => ?_)
        · replace hq69 := iteT hc169 hq69
          refine W.seq ?_
          refine W.region ?_
          refine WL.vS hS hE (runs_plain rfl) (Gives.p hE rfl) rfl ?_; clear hE a; intro a hE
          refine WL.nil ?_
          refine W.ret ?_
          subst hK82
          rw [← Option.some.inj hq69] at hr
          dsimp only at hr
          refine finG (fn := Try.f56) (rs := [.tmp 2]) (vs := [_]) hE rfl ⟨rfl, trivial⟩ ?_
          obtain rfl := Option.some.inj hr
          replace hS := hS.tail
          replace hS := hS.tail
          exact ⟨rfl, hS⟩
        · replace hq69 := iteF hc169 hq69
          refine W.skip ?_
          refine W.region ?_
          refine WL.vS hS hE (runs_plain rfl) (Gives.p hE rfl) rfl ?_; clear hE a; intro a hE
          refine WL.vS hS hE (runs_plain rfl) (Gives.p hE rfl) rfl ?_; clear hE a; intro a hE
          refine WL.nil ?_
          subst hK82
          exact ⟨n71, Nat.lt_succ_self _, n71, (w64 (q75 + 1)), q96, cs100, rfl, hq69, h99, hn101, hE.pick _ ⟨rfl, rfl, rfl, rfl, trivial⟩, hS⟩
    · replace hq69 := iteF hc83 hq69
      subst hK82
      refine W.exit rfl ?_
      exact ⟨q75, q76, cs80, Option.some.inj hq69, h79, hn81, hE.pick _ trivial, hS⟩
  · clear hE hS a w; rintro a w ⟨q75, q76, cs80, rfl, h79, hn81, hE, hS⟩
    dsimp only at hr
    refine W.seq ?_
    refine W.region ?_
    refine WL.vS hS hE (runs_plain rfl) (Gives.p hE rfl) rfl ?_; clear hE a; intro a hE
    refine WL.nil ?_
    refine W.ret ?_
    refine finG (fn := Try.f56) (rs := [.tmp 2]) (vs := [_]) hE rfl ⟨rfl, trivial⟩ ?_
    obtain rfl := Option.some.inj hr
    replace hS := hS.tail
    replace hS := hS.tail
    exact ⟨rfl, hS⟩
set_option maxHeartbeats 8000000 in
theorem MendCheckRound_ok {fu : Nat}  {w : World} {s : Sg} {R : List HP} {x0 : MendRound} {a0_0 : Option Addr} {c0_0 : Nat} {a0_1 : Option Addr} {c0_1 : Nat} (hS : St w s (R)) (h0_0 : Sl 1 (RI .i64) s a0_0 c0_0 x0.Plan) (h0_1 : Sl 4 RMendLink s a0_1 c0_1 x0.Links) {r : Int} (hr : MendCheckRound fu x0 = some r) :
    Calls Try.prog 16 [.agg [.int .i64 x0.Period, .slice a0_0 x0.Plan.length c0_0, .slice a0_1 x0.Links.length c0_1].toArray].toArray w (fun e w => e = .returned (.int .i64 r) ∧ St w s (R)) := by
  refine enter Try.func16 rfl rfl rfl fun a hE => ?_
  rw [MendCheckRound] at hr
  refine W.seq ?_
  refine W.region ?_
  refine WL.box hE hS (runs_plain rfl) rfl rfl rfl ?_; clear hE hS a w; intro b51 a w hE hS
  refine WL.vS hS hE (runs_plain rfl) (Gives.p hE rfl) rfl ?_; clear hE a; intro a hE
  refine WL.nil ?_
  refine W.seq ?_
  refine W.block ?_
  refine W.seq ?_
  refine W.region ?_
  refine WL.vS hS hE (runs_plain rfl) (Gives.fld hE rfl fl25_0) rfl ?_; clear hE a; intro a hE
  refine WL.vS hS hE (runs_plain rfl) (Gives.loadB hE 0 rfl rfl rfl ty3) rfl ?_; clear hE a; intro a hE
  refine WL.fnq hE (Mendwithin_ok hS  rfl (r := Mendwithin x0.Period 1 3600)) (runs_plain rfl) bd54 rfl rfl rfl ?_
  clear hE hS; rintro e w ⟨rfl, hS⟩; refine ⟨_, rfl, ?_⟩; clear a; intro a hE
  refine WL.vS hS hE (runs_plain rfl) (Gives.p hE rfl) rfl ?_; clear hE a; intro a hE
  refine WL.vS hS hE (runs_plain rfl) (Gives.p hE rfl) rfl ?_; clear hE a; intro a hE
  refine WL.nil ?_
  refine W.cond hE rfl (fun hc52 => ?_) (fun hc52 => ?_)
  · replace hr := iteT hc52 hr
    refine W.seq ?_
    refine W.region ?_
    refine WL.vS hS hE (runs_plain rfl) (Gives.p hE rfl) rfl ?_; clear hE a; intro a hE
    refine WL.nil ?_
    refine W.ret ?_
    refine finG (fn := Try.f16) (rs := [.tmp 2]) (vs := [_]) hE rfl ⟨rfl, trivial⟩ ?_
    obtain rfl := Option.some.inj hr
    replace hS := hS.tail
    exact ⟨rfl, hS⟩
  · replace hr := iteF hc52 hr
    refine W.seq ?_
    obtain ⟨q54, hq53, hr⟩ := bndS hr
    refine W.cut (fun a w => ∃ (q57 : Bool), q57 = q54 ∧ Rep a 83 [(1, .pointer (some ⟨b51, 0, none⟩)), (12, .bool q57)] ∧ St w s (pt b51 (.cells #[.int .i64 x0.Period, .slice a0_0 x0.Plan.length c0_0, .slice a0_1 x0.Links.length c0_1] 25 (0, 0)) :: R)) ?_ ?_
    · refine W.gen fun K58 hK58 => ?_
      refine W.region ?_
      refine WL.vS hS hE (runs_plain rfl) (Gives.fld hE rfl fl25_1) rfl ?_; clear hE a; intro a hE
      refine WL.vS hS hE (runs_plain rfl) (Gives.loadB hE 0 rfl rfl rfl ty22) rfl ?_; clear hE a; intro a hE
      refine WL.vS hS hE (runs_plain rfl) (Gives.len hE rfl sl22) rfl ?_; clear hE a; intro a hE
      refine WL.fnq hE (Mendwithin_ok hS  rfl (r := Mendwithin ((x0.Plan).length : Int) 1 8)) (runs_plain rfl) bd54 rfl rfl rfl ?_
      clear hE hS; rintro e w ⟨rfl, hS⟩; refine ⟨_, rfl, ?_⟩; clear a; intro a hE
      refine WL.vS hS hE (runs_plain rfl) (Gives.p hE rfl) rfl ?_; clear hE a; intro a hE
      refine WL.vS hS hE (runs_plain rfl) (Gives.p hE rfl) rfl ?_; clear hE a; intro a hE
      rcases Bool.eq_false_or_eq_true (!(Mendwithin ((x0.Plan).length : Int) 1 8)) with hg59 | hg59
      · replace hq53 := iteT hg59 hq53
        refine WL.no hE (runs_not hE rfl rfl rfl (by rw [hg59]; decide)) rfl ?_; clear hE a; intro a hE
        refine WL.no hE (runs_not hE rfl rfl rfl (by rw [hg59]; decide)) rfl ?_; clear hE a; intro a hE
        refine WL.no hE (runs_not hE rfl rfl rfl (by rw [hg59]; decide)) rfl ?_; clear hE a; intro a hE
        refine WL.no hE (runs_not hE rfl rfl rfl (by rw [hg59]; decide)) rfl ?_; clear hE a; intro a hE
        refine WL.vS hS hE (runs_plain rfl) (Gives.pickT hE rfl hg59 rfl) rfl ?_; clear hE a; intro a hE
        refine WL.vS hS hE (runs_plain rfl) (Gives.p hE rfl) rfl ?_; clear hE a; intro a hE
        refine WL.nil ?_
        subst hK58
        exact ⟨true, hq53, hE.pick _ ⟨rfl, rfl, trivial⟩, hS⟩
      · replace hq53 := iteF hg59 hq53
        refine WL.vS hS hE (runs_if hE rfl rfl rfl hg59) (Gives.fld hE rfl fl25_2) rfl ?_; clear hE a; intro a hE
        refine WL.vS hS hE (runs_if hE rfl rfl rfl hg59) (Gives.loadB hE 0 rfl rfl rfl ty23) rfl ?_; clear hE a; intro a hE
        refine WL.vS hS hE (runs_if hE rfl rfl rfl hg59) (Gives.len hE rfl sl23) rfl ?_; clear hE a; intro a hE
        refine WL.vS hS hE (runs_if hE rfl rfl rfl hg59) (Gives.p hE rfl) rfl ?_; clear hE a; intro a hE
        refine WL.vS hS hE (runs_plain rfl) (Gives.pickF hE rfl hg59 rfl) rfl ?_; clear hE a; intro a hE
        refine WL.vS hS hE (runs_plain rfl) (Gives.p hE rfl) rfl ?_; clear hE a; intro a hE
        refine WL.nil ?_
        subst hK58
        exact ⟨decide (((x0.Links).length : Int) > 24), hq53, hE.pick _ ⟨rfl, rfl, trivial⟩, hS⟩
    · clear hE hS a w; rintro a w ⟨q57, rfl, hE, hS⟩
      refine W.cond hE rfl (fun hc60 => ?_) (fun hc60 => ?_)
      · replace hr := iteT hc60 hr
        refine W.seq ?_
        refine W.region ?_
        refine WL.vS hS hE (runs_plain rfl) (Gives.p hE rfl) rfl ?_; clear hE a; intro a hE
        refine WL.nil ?_
        refine W.ret ?_
        refine finG (fn := Try.f16) (rs := [.tmp 2]) (vs := [_]) hE rfl ⟨rfl, trivial⟩ ?_
        obtain rfl := Option.some.inj hr
        replace hS := hS.tail
        exact ⟨rfl, hS⟩
      · replace hr := iteF hc60 hr
        refine W.skip ?_
        refine W.seq ?_
        refine W.seq ?_
        refine W.region ?_
        refine WL.vS hS hE (runs_plain rfl) (Gives.fld hE rfl fl25_1) rfl ?_; clear hE a; intro a hE
        refine WL.vS hS hE (runs_plain rfl) (Gives.loadB hE 0 rfl rfl rfl ty22) rfl ?_; clear hE a; intro a hE
        refine WL.vS hS hE (runs_plain rfl) (Gives.len hE rfl sl22) rfl ?_; clear hE a; intro a hE
        refine WL.vS hS hE (runs_plain rfl) (Gives.p hE rfl) rfl ?_; clear hE a; intro a hE
        refine WL.nil ?_
        obtain ⟨q62, hq61, hr⟩ := bndS hr
        refine W.cut (fun a w => (.next ()) = q62 ∧ Rep a 83 [(1, .pointer (some ⟨b51, 0, none⟩))] ∧ St w s (pt b51 (.cells #[.int .i64 x0.Period, .slice a0_0 x0.Plan.length c0_0, .slice a0_1 x0.Links.length c0_1] 25 (0, 0)) :: R)) ?_ ?_
        · refine W.block ?_
          refine W.loop (fun m a w => ∃ (rest65 : List Int) (k63 : Nat), rest65.length = m ∧ x0.Plan.drop k63 = rest65 ∧ MendCheckRound.loop1 x0 rest65 = q62 ∧ Rep a 83 [(1, .pointer (some ⟨b51, 0, none⟩)), (25, .slice a0_0 x0.Plan.length c0_0), (26, .int .i64 ((x0.Plan).length : Int)), (27, .int .i64 ((k63 : Nat) : Int))] ∧ St w s (pt b51 (.cells #[.int .i64 x0.Period, .slice a0_0 x0.Plan.length c0_0, .slice a0_1 x0.Links.length c0_1] 25 (0, 0)) :: R)) (m := x0.Plan.length) ⟨x0.Plan, 0, rfl, rfl, hq61, hE.pick _ ⟨rfl, rfl, rfl, rfl, trivial⟩, hS⟩ ?_
          clear hE hS a w hq61; rintro m69 a w ⟨rest65, k63, rfl, hd66, hq61, hE, hS⟩
          refine W.gen fun K72 hK72 => ?_
          rcases rest65 with _ | ⟨x64, rest65⟩
          · have hlt67 := drop_nil hd66
            refine W.seq ?_
            refine W.region ?_
            refine WL.vS hS hE (runs_plain rfl) (Gives.p hE rfl) rfl ?_; clear hE a; intro a hE
            refine WL.nil ?_
            refine W.seq ?_
            refine W.condF hE rfl (decide_eq_false (by omega)) ?_
            subst hK72
            refine W.exit rfl ?_
            exact ⟨hq61, hE.pick _ ⟨rfl, trivial⟩, hS⟩
          · obtain ⟨hlt67, hx68, hd66⟩ := drop_cons hd66
            rw [MendCheckRound.loop1] at hq61
            refine W.seq ?_
            refine W.region ?_
            refine WL.vS hS hE (runs_plain rfl) (Gives.p hE rfl) rfl ?_; clear hE a; intro a hE
            refine WL.nil ?_
            refine W.seq ?_
            refine W.condT hE rfl (decide_eq_true (by omega)) ?_
            refine W.skip ?_
            refine W.seq ?_
            refine W.block ?_
            refine W.seq ?_
            refine W.region ?_
            obtain ⟨cs73, hl74, hR75, hat76⟩ := h0_0.at hx68
            subst hR75
            refine WL.vS hS hE (runs_plain rfl) (Gives.idx hE k63 rfl rfl sl22 rfl hlt67 (h0_0.aok hlt67)) rfl ?_; clear hE a; intro a hE
            refine WL.vS hS hE (runs_plain rfl) (Gives.load1 hE rfl (fun w h => hat76 w _ h) ty3) rfl ?_; clear hE a; intro a hE
            refine WL.vS hS hE (runs_plain rfl) (Gives.p hE rfl) rfl ?_; clear hE a; intro a hE
            refine WL.nil ?_
            refine W.seq ?_
            refine W.region ?_
            refine WL.vS hS hE (runs_plain rfl) (Gives.p hE rfl) rfl ?_; clear hE a; intro a hE
            refine WL.vS hS hE (runs_plain rfl) (Gives.fld hE rfl fl25_0) rfl ?_; clear hE a; intro a hE
            refine WL.vS hS hE (runs_plain rfl) (Gives.loadB hE 0 rfl rfl rfl ty3) rfl ?_; clear hE a; intro a hE
            refine WL.vS hS hE (runs_plain rfl) (Gives.p hE rfl) rfl ?_; clear hE a; intro a hE
            refine WL.fnq hE (Mendwithin_ok hS  rfl (r := Mendwithin x64 0 (w64 (x0.Period - 1)))) (runs_plain rfl) bd54 rfl rfl rfl ?_
            clear hE hS; rintro e w ⟨rfl, hS⟩; refine ⟨_, rfl, ?_⟩; clear a; intro a hE
            refine WL.vS hS hE (runs_plain rfl) (Gives.p hE rfl) rfl ?_; clear hE a; intro a hE
            refine WL.nil ?_
            refine W.cond hE rfl (fun hc77 => ?_) (fun hc77 => ?_)
            · replace hq61 := iteT hc77 hq61
              refine W.seq ?_
              refine W.region ?_
              refine WL.vS hS hE (runs_plain rfl) (Gives.p hE rfl) rfl ?_; clear hE a; intro a hE
              refine WL.nil ?_
              refine W.ret ?_
              subst hK72
              rw [← hq61] at hr
              dsimp only at hr
              refine finG (fn := Try.f16) (rs := [.tmp 2]) (vs := [_]) hE rfl ⟨rfl, trivial⟩ ?_
              obtain rfl := Option.some.inj hr
              replace hS := hS.tail
              exact ⟨rfl, hS⟩
            · replace hq61 := iteF hc77 hq61
              refine W.skip ?_
              refine W.region ?_
              refine WL.vS hS hE (runs_plain rfl) (Gives.inc hE rfl (by have := h0_0.small; omega)) rfl ?_; clear hE a; intro a hE
              refine WL.vS hS hE (runs_plain rfl) (Gives.p hE rfl) rfl ?_; clear hE a; intro a hE
              refine WL.nil ?_
              subst hK72
              exact ⟨rest65.length, Nat.lt_succ_self _, rest65, k63 + 1, rfl, hd66, hq61, hE.pick _ ⟨rfl, rfl, rfl, rfl, trivial⟩, hS⟩
        · clear hE hS a w; rintro a w ⟨rfl, hE, hS⟩
          dsimp only at hr
          refine W.seq ?_
          refine W.seq ?_
          refine W.region ?_
          refine WL.vS hS hE (runs_plain rfl) (Gives.fld hE rfl fl25_2) rfl ?_; clear hE a; intro a hE
          refine WL.vS hS hE (runs_plain rfl) (Gives.loadB hE 0 rfl rfl rfl ty23) rfl ?_; clear hE a; intro a hE
          refine WL.vS hS hE (runs_plain rfl) (Gives.len hE rfl sl23) rfl ?_; clear hE a; intro a hE
          refine WL.vS hS hE (runs_plain rfl) (Gives.p hE rfl) rfl ?_; clear hE a; intro a hE
          refine WL.nil ?_
          obtain ⟨q79, hq78, hr⟩ := bindS hr
          refine W.cut (fun a w => (.next ()) = q79 ∧ Rep a 83 [(1, .pointer (some ⟨b51, 0, none⟩))] ∧ St w s (pt b51 (.cells #[.int .i64 x0.Period, .slice a0_0 x0.Plan.length c0_0, .slice a0_1 x0.Links.length c0_1] 25 (0, 0)) :: R)) ?_ ?_
          · refine W.block ?_
            refine W.loop (fun m a w => ∃ (rest82 : List MendLink) (k80 : Nat), rest82.length = m ∧ x0.Links.drop k80 = rest82 ∧ MendCheckRound.loop2 x0 rest82 = some q79 ∧ Rep a 83 [(1, .pointer (some ⟨b51, 0, none⟩)), (39, .slice a0_1 x0.Links.length c0_1), (40, .int .i64 ((x0.Links).length : Int)), (41, .int .i64 ((k80 : Nat) : Int))] ∧ St w s (pt b51 (.cells #[.int .i64 x0.Period, .slice a0_0 x0.Plan.length c0_0, .slice a0_1 x0.Links.length c0_1] 25 (0, 0)) :: R)) (m := x0.Links.length) ⟨x0.Links, 0, rfl, rfl, hq78, hE.pick _ ⟨rfl, rfl, rfl, rfl, trivial⟩, hS⟩ ?_
            clear hE hS a w hq78; rintro m86 a w ⟨rest82, k80, rfl, hd83, hq78, hE, hS⟩
            refine W.gen fun K89 hK89 => ?_
            rcases rest82 with _ | ⟨x81, rest82⟩
            · have hlt84 := drop_nil hd83
              refine W.seq ?_
              refine W.region ?_
              refine WL.vS hS hE (runs_plain rfl) (Gives.p hE rfl) rfl ?_; clear hE a; intro a hE
              refine WL.nil ?_
              refine W.seq ?_
              refine W.condF hE rfl (decide_eq_false (by omega)) ?_
              subst hK89
              refine W.exit rfl ?_
              exact ⟨Option.some.inj hq78, hE.pick _ ⟨rfl, trivial⟩, hS⟩
            · obtain ⟨hlt84, hx85, hd83⟩ := drop_cons hd83
              rw [MendCheckRound.loop2] at hq78
              refine W.seq ?_
              refine W.region ?_
              refine WL.vS hS hE (runs_plain rfl) (Gives.p hE rfl) rfl ?_; clear hE a; intro a hE
              refine WL.nil ?_
              refine W.seq ?_
              refine W.condT hE rfl (decide_eq_true (by omega)) ?_
              refine W.skip ?_
              refine W.seq ?_
              refine W.block ?_
              refine W.seq ?_
              refine W.region ?_
              obtain ⟨cs90, hl91, hR92, hat93⟩ := h0_1.at hx85
              subst hR92
              refine WL.vS hS hE (runs_plain rfl) (Gives.idx hE k80 rfl rfl sl23 rfl hlt84 (h0_1.aok hlt84)) rfl ?_; clear hE a; intro a hE
              refine WL.vS hS hE (runs_plain rfl) (Gives.loadA hE rfl (fun w h => hat93 w _ h) ty36) rfl ?_; clear hE a; intro a hE
              refine WL.alloc hE hS (runs_plain rfl) zr36 rfl ?_; clear hE hS a w; intro b94 a w hE hS
              refine WL.storeI hE hS 0 rfl (MendLink.cells x81) (runs_plain rfl) rfl rfl rfl ty36 rfl rfl rfl rfl ?_; clear hE hS a w; intro a w hE hS
              refine WL.nil ?_
              refine W.block ?_
              refine W.seq ?_
              obtain ⟨q96, hq95, hq78⟩ := bndS hq78
              refine W.cut (fun a w => ∃ (q99 : Bool), q99 = q96 ∧ Rep a 83 [(1, .pointer (some ⟨b51, 0, none⟩)), (6, .pointer (some ⟨b94, 0, none⟩)), (39, .slice a0_1 x0.Links.length c0_1), (40, .int .i64 ((x0.Links).length : Int)), (41, .int .i64 ((k80 : Nat) : Int)), (45, .bool q99)] ∧ St w s (pt b94 (.cells (MendLink.cells x81).toArray 36 (0, 0)) :: pt b51 (.cells #[.int .i64 x0.Period, .slice a0_0 x0.Plan.length c0_0, .slice a0_1 x0.Links.length c0_1] 25 (0, 0)) :: R)) ?_ ?_
              · refine W.gen fun K100 hK100 => ?_
                refine W.region ?_
                refine WL.vS hS hE (runs_plain rfl) (Gives.fld hE rfl fl36_0) rfl ?_; clear hE a; intro a hE
                refine WL.vS hS hE (runs_plain rfl) (Gives.loadB hE 0 rfl rfl rfl ty3) rfl ?_; clear hE a; intro a hE
                refine WL.vS hS hE (runs_plain rfl) (Gives.fld hE rfl fl25_1) rfl ?_; clear hE a; intro a hE
                refine WL.vS hS hE (runs_plain rfl) (Gives.loadB hE 1 rfl rfl rfl ty22) rfl ?_; clear hE a; intro a hE
                refine WL.vS hS hE (runs_plain rfl) (Gives.len hE rfl sl22) rfl ?_; clear hE a; intro a hE
                refine WL.vS hS hE (runs_plain rfl) (Gives.p hE rfl) rfl ?_; clear hE a; intro a hE
                refine WL.fnq hE (Mendwithin_ok hS  rfl (r := Mendwithin x81.From 0 (w64 (((x0.Plan).length : Int) - 1)))) (runs_plain rfl) bd54 rfl rfl rfl ?_
                clear hE hS; rintro e w ⟨rfl, hS⟩; refine ⟨_, rfl, ?_⟩; clear a; intro a hE
                refine WL.vS hS hE (runs_plain rfl) (Gives.p hE rfl) rfl ?_; clear hE a; intro a hE
                refine WL.vS hS hE (runs_plain rfl) (Gives.p hE rfl) rfl ?_; clear hE a; intro a hE
                rcases Bool.eq_false_or_eq_true (!(Mendwithin x81.From 0 (w64 (((x0.Plan).length : Int) - 1)))) with hg101 | hg101
                · replace hq95 := iteT hg101 hq95
                  refine WL.no hE (runs_not hE rfl rfl rfl (by rw [hg101]; decide)) rfl ?_; clear hE a; intro a hE
                  refine WL.no hE (runs_not hE rfl rfl rfl (by rw [hg101]; decide)) rfl ?_; clear hE a; intro a hE
                  refine WL.no hE (runs_not hE rfl rfl rfl (by rw [hg101]; decide)) rfl ?_; clear hE a; intro a hE
                  refine WL.no hE (runs_not hE rfl rfl rfl (by rw [hg101]; decide)) rfl ?_; clear hE a; intro a hE
                  refine WL.no hE (runs_not hE rfl rfl rfl (by rw [hg101]; decide)) rfl ?_; clear hE a; intro a hE
                  refine WL.no hE (runs_not hE rfl rfl rfl (by rw [hg101]; decide)) rfl ?_; clear hE a; intro a hE
                  refine WL.no hE (runs_not hE rfl rfl rfl (by rw [hg101]; decide)) rfl ?_; clear hE a; intro a hE
                  refine WL.no hE (runs_not hE rfl rfl rfl (by rw [hg101]; decide)) rfl ?_; clear hE a; intro a hE
                  refine WL.vS hS hE (runs_plain rfl) (Gives.pickT hE rfl hg101 rfl) rfl ?_; clear hE a; intro a hE
                  refine WL.vS hS hE (runs_plain rfl) (Gives.p hE rfl) rfl ?_; clear hE a; intro a hE
                  refine WL.nil ?_
                  subst hK100
                  exact ⟨true, hq95, hE.pick _ ⟨rfl, rfl, rfl, rfl, rfl, rfl, trivial⟩, hS⟩
                · replace hq95 := iteF hg101 hq95
                  refine WL.vS hS hE (runs_if hE rfl rfl rfl hg101) (Gives.fld hE rfl fl36_1) rfl ?_; clear hE a; intro a hE
                  refine WL.vS hS hE (runs_if hE rfl rfl rfl hg101) (Gives.loadB hE 0 rfl rfl rfl ty3) rfl ?_; clear hE a; intro a hE
                  refine WL.vS hS hE (runs_if hE rfl rfl rfl hg101) (Gives.fld hE rfl fl25_1) rfl ?_; clear hE a; intro a hE
                  refine WL.vS hS hE (runs_if hE rfl rfl rfl hg101) (Gives.loadB hE 1 rfl rfl rfl ty22) rfl ?_; clear hE a; intro a hE
                  refine WL.vS hS hE (runs_if hE rfl rfl rfl hg101) (Gives.len hE rfl sl22) rfl ?_; clear hE a; intro a hE
                  refine WL.vS hS hE (runs_if hE rfl rfl rfl hg101) (Gives.p hE rfl) rfl ?_; clear hE a; intro a hE
                  refine WL.fnq hE (Mendwithin_ok hS  rfl (r := Mendwithin x81.To 0 (w64 (((x0.Plan).length : Int) - 1)))) (runs_if hE rfl rfl rfl hg101) bd54 rfl rfl rfl ?_
                  clear hE hS; rintro e w ⟨rfl, hS⟩; refine ⟨_, rfl, ?_⟩; clear a; intro a hE
                  refine WL.vS hS hE (runs_if hE rfl rfl rfl hg101) (Gives.p hE rfl) rfl ?_; clear hE a; intro a hE
                  refine WL.vS hS hE (runs_plain rfl) (Gives.pickF hE rfl hg101 rfl) rfl ?_; clear hE a; intro a hE
                  refine WL.vS hS hE (runs_plain rfl) (Gives.p hE rfl) rfl ?_; clear hE a; intro a hE
                  refine WL.nil ?_
                  subst hK100
                  exact ⟨!(Mendwithin x81.To 0 (w64 (((x0.Plan).length : Int) - 1))), hq95, hE.pick _ ⟨rfl, rfl, rfl, rfl, rfl, rfl, trivial⟩, hS⟩
              · clear hE hS a w; rintro a w ⟨q99, rfl, hE, hS⟩
                refine W.cond hE rfl (fun hc102 => ?_) (fun hc102 => ?_)
                · replace hq78 := iteT hc102 hq78
                  refine W.seq ?_
                  refine W.region ?_
                  refine WL.vS hS hE (runs_plain rfl) (Gives.p hE rfl) rfl ?_; clear hE a; intro a hE
                  refine WL.nil ?_
                  refine W.ret ?_
                  subst hK89
                  rw [← Option.some.inj hq78] at hr
                  dsimp only at hr
                  refine finG (fn := Try.f16) (rs := [.tmp 2]) (vs := [_]) hE rfl ⟨rfl, trivial⟩ ?_
                  obtain rfl := Option.some.inj hr
                  replace hS := hS.tail
                  replace hS := hS.tail
                  exact ⟨rfl, hS⟩
                · replace hq78 := iteF hc102 hq78
                  refine W.seq ?_
                  obtain ⟨q104, hq103, hq78⟩ := bndS hq78
                  refine W.cut (fun a w => ∃ (q107 : Bool), q107 = q104 ∧ Rep a 83 [(1, .pointer (some ⟨b51, 0, none⟩)), (6, .pointer (some ⟨b94, 0, none⟩)), (39, .slice a0_1 x0.Links.length c0_1), (40, .int .i64 ((x0.Links).length : Int)), (41, .int .i64 ((k80 : Nat) : Int)), (64, .bool q107)] ∧ St w s (pt b94 (.cells (MendLink.cells x81).toArray 36 (0, 0)) :: pt b51 (.cells #[.int .i64 x0.Period, .slice a0_0 x0.Plan.length c0_0, .slice a0_1 x0.Links.length c0_1] 25 (0, 0)) :: R)) ?_ ?_
                  · refine W.gen fun K108 hK108 => ?_
                    refine W.region ?_
                    refine WL.vS hS hE (runs_plain rfl) (Gives.fld hE rfl fl36_2) rfl ?_; clear hE a; intro a hE
                    refine WL.vS hS hE (runs_plain rfl) (Gives.loadB hE 0 rfl rfl rfl ty3) rfl ?_; clear hE a; intro a hE
                    refine WL.fnq hE (Mendwithin_ok hS  rfl (r := Mendwithin x81.Len 0 28800)) (runs_plain rfl) bd54 rfl rfl rfl ?_
                    clear hE hS; rintro e w ⟨rfl, hS⟩; refine ⟨_, rfl, ?_⟩; clear a; intro a hE
                    refine WL.vS hS hE (runs_plain rfl) (Gives.p hE rfl) rfl ?_; clear hE a; intro a hE
                    refine WL.vS hS hE (runs_plain rfl) (Gives.p hE rfl) rfl ?_; clear hE a; intro a hE
                    rcases Bool.eq_false_or_eq_true (!(Mendwithin x81.Len 0 28800)) with hg109 | hg109
                    · replace hq103 := iteT hg109 hq103
                      refine WL.no hE (runs_not hE rfl rfl rfl (by rw [hg109]; decide)) rfl ?_; clear hE a; intro a hE
                      refine WL.no hE (runs_not hE rfl rfl rfl (by rw [hg109]; decide)) rfl ?_; clear hE a; intro a hE
                      refine WL.no hE (runs_not hE rfl rfl rfl (by rw [hg109]; decide)) rfl ?_; clear hE a; intro a hE
                      refine WL.no hE (runs_not hE rfl rfl rfl (by rw [hg109]; decide)) rfl ?_; clear hE a; intro a hE
                      refine WL.vS hS hE (runs_plain rfl) (Gives.pickT hE rfl hg109 rfl) rfl ?_; clear hE a; intro a hE
                      refine WL.vS hS hE (runs_plain rfl) (Gives.p hE rfl) rfl ?_; clear hE a; intro a hE
                      refine WL.nil ?_
                      subst hK108
                      exact ⟨true, hq103, hE.pick _ ⟨rfl, rfl, rfl, rfl, rfl, rfl, trivial⟩, hS⟩
                    · replace hq103 := iteF hg109 hq103
                      refine WL.vS hS hE (runs_if hE rfl rfl rfl hg109) (Gives.fld hE rfl fl36_3) rfl ?_; clear hE a; intro a hE
                      refine WL.vS hS hE (runs_if hE rfl rfl rfl hg109) (Gives.loadB hE 0 rfl rfl rfl ty3) rfl ?_; clear hE a; intro a hE
                      refine WL.fnq hE (Mendwithin_ok hS  rfl (r := Mendwithin x81.Back 0 3)) (runs_if hE rfl rfl rfl hg109) bd54 rfl rfl rfl ?_
                      clear hE hS; rintro e w ⟨rfl, hS⟩; refine ⟨_, rfl, ?_⟩; clear a; intro a hE
                      refine WL.vS hS hE (runs_if hE rfl rfl rfl hg109) (Gives.p hE rfl) rfl ?_; clear hE a; intro a hE
                      refine WL.vS hS hE (runs_plain rfl) (Gives.pickF hE rfl hg109 rfl) rfl ?_; clear hE a; intro a hE
                      refine WL.vS hS hE (runs_plain rfl) (Gives.p hE rfl) rfl ?_; clear hE a; intro a hE
                      refine WL.nil ?_
                      subst hK108
                      exact ⟨!(Mendwithin x81.Back 0 3), hq103, hE.pick _ ⟨rfl, rfl, rfl, rfl, rfl, rfl, trivial⟩, hS⟩
                  · clear hE hS a w; rintro a w ⟨q107, rfl, hE, hS⟩
                    refine W.cond hE rfl (fun hc110 => ?_) (fun hc110 => ?_)
                    · replace hq78 := iteT hc110 hq78
                      refine W.seq ?_
                      refine W.region ?_
                      refine WL.vS hS hE (runs_plain rfl) (Gives.p hE rfl) rfl ?_; clear hE a; intro a hE
                      refine WL.nil ?_
                      refine W.ret ?_
                      subst hK89
                      rw [← Option.some.inj hq78] at hr
                      dsimp only at hr
                      refine finG (fn := Try.f16) (rs := [.tmp 2]) (vs := [_]) hE rfl ⟨rfl, trivial⟩ ?_
                      obtain rfl := Option.some.inj hr
                      replace hS := hS.tail
                      replace hS := hS.tail
                      exact ⟨rfl, hS⟩
                    · replace hq78 := iteF hc110 hq78
                      refine W.seq ?_
                      refine W.region ?_
                      refine WL.vS hS hE (runs_plain rfl) (Gives.loadBA hE 1 rfl rfl ty25) rfl ?_; clear hE a; intro a hE
                      refine WL.vS hS hE (runs_plain rfl) (Gives.loadBA hE 0 rfl rfl ty36) rfl ?_; clear hE a; intro a hE
                      obtain ⟨q111, hq112, hq78⟩ := bindS hq78
                      have hc_ := MendRoundslack_ok hS h0_0 h0_1 hq112
                      refine WL.fnq hE (hc_) (runs_plain rfl) bd55 rfl rfl rfl ?_
                      clear hE hS hc_; rintro e w ⟨rfl, hS⟩; refine ⟨_, rfl, ?_⟩; clear a; intro a hE
                      refine WL.vS hS hE (runs_plain rfl) (Gives.p hE rfl) rfl ?_; clear hE a; intro a hE
                      refine WL.vS hS hE (runs_plain rfl) (Gives.p hE rfl) rfl ?_; clear hE a; intro a hE
                      refine WL.nil ?_
                      refine W.cond hE rfl (fun hc113 => ?_) (fun hc113 => ?_)
                      · replace hq78 := iteT hc113 hq78
                        refine W.seq ?_
                        refine W.region ?_
                        refine WL.vS hS hE (runs_plain rfl) (Gives.p hE rfl) rfl ?_; clear hE a; intro a hE
                        refine WL.nil ?_
                        refine W.ret ?_
                        subst hK89
                        rw [← Option.some.inj hq78] at hr
                        dsimp only at hr
                        refine finG (fn := Try.f16) (rs := [.tmp 2]) (vs := [_]) hE rfl ⟨rfl, trivial⟩ ?_
                        obtain rfl := Option.some.inj hr
                        replace hS := hS.tail
                        replace hS := hS.tail
                        exact ⟨rfl, hS⟩
                      · replace hq78 := iteF hc113 hq78
                        refine W.skip ?_
                        refine W.region ?_
                        refine WL.vS hS hE (runs_plain rfl) (Gives.inc hE rfl (by have := h0_1.small; omega)) rfl ?_; clear hE a; intro a hE
                        refine WL.vS hS hE (runs_plain rfl) (Gives.p hE rfl) rfl ?_; clear hE a; intro a hE
                        refine WL.nil ?_
                        replace hS := hS.tail
                        subst hK89
                        exact ⟨rest82.length, Nat.lt_succ_self _, rest82, k80 + 1, rfl, hd83, hq78, hE.pick _ ⟨rfl, rfl, rfl, rfl, trivial⟩, hS⟩
          · clear hE hS a w; rintro a w ⟨rfl, hE, hS⟩
            dsimp only at hr
            refine W.seq ?_
            refine W.seq ?_
            refine W.region ?_
            refine WL.vS hS hE (runs_plain rfl) (Gives.loadBA hE 0 rfl rfl ty25) rfl ?_; clear hE a; intro a hE
            obtain ⟨q114, hq115, hr⟩ := bindS hr
            have hc_ := MendRoundring_ok hS h0_0 h0_1 hq115
            refine WL.fnq hE (hc_) (runs_plain rfl) bd56 rfl rfl rfl ?_
            clear hE hS hc_; rintro e w ⟨rfl, hS⟩; refine ⟨_, rfl, ?_⟩; clear a; intro a hE
            refine WL.nil ?_
            refine W.cond hE rfl (fun hc116 => ?_) (fun hc116 => ?_)
            · replace hr := iteT hc116 hr
              refine W.seq ?_
              refine W.region ?_
              refine WL.vS hS hE (runs_plain rfl) (Gives.p hE rfl) rfl ?_; clear hE a; intro a hE
              refine WL.nil ?_
              refine W.ret ?_
              refine finG (fn := Try.f16) (rs := [.tmp 2]) (vs := [_]) hE rfl ⟨rfl, trivial⟩ ?_
              obtain rfl := Option.some.inj hr
              replace hS := hS.tail
              exact ⟨rfl, hS⟩
            · replace hr := iteF hc116 hr
              refine W.skip ?_
              refine W.seq ?_
              refine W.region ?_
              refine WL.vS hS hE (runs_plain rfl) (Gives.p hE rfl) rfl ?_; clear hE a; intro a hE
              refine WL.nil ?_
              refine W.ret ?_
              refine finG (fn := Try.f16) (rs := [.tmp 2]) (vs := [_]) hE rfl ⟨rfl, trivial⟩ ?_
              obtain rfl := Option.some.inj hr
              replace hS := hS.tail
              exact ⟨rfl, hS⟩
set_option maxHeartbeats 8000000 in
theorem SlicesCloneLint_ok  {w : World} {s : Sg} {R : List HP} {x0 : List Int} {a0 : Option Addr} {c0 : Nat} (hS : St w s (R)) (h0 : Sl 1 (RI .i64) s a0 c0 x0) {r : (List Int)} (hr : SlicesCloneLint x0 = some r) :
    Calls Try.prog 67 [.slice a0 x0.length c0].toArray w (fun e w => ∃ (a0 : Option Addr) (c0 n0 : Nat) (cs0 : List Value), e = .returned (.slice a0 n0 c0) ∧ Ev 1 (RI .i64) s cs0 r ∧ r.length = n0 ∧ St w s (vecC 3 1 a0 c0 n0 cs0 :: R)) := by
  refine enter Try.func67 rfl rfl rfl fun a hE => ?_
  rw [SlicesCloneLint] at hr
  refine W.seq ?_
  refine W.region ?_
  refine WL.vS hS hE (runs_plain rfl) (Gives.p hE rfl) rfl ?_; clear hE a; intro a hE
  refine WL.nil ?_
  refine W.seq ?_
  refine W.seq ?_
  refine W.region ?_
  refine WL.vS hS hE (runs_plain rfl) (Gives.p hE rfl) rfl ?_; clear hE a; intro a hE
  refine WL.vS hS hE (runs_plain rfl) (Gives.isNil hE rfl rfl isl22) rfl ?_; clear hE a; intro a hE
  refine WL.nil ?_
  rcases a0 with _ | g51
  · obtain rfl := h0.none_nil
    replace hr : some [] = _ := hr
    refine W.condT hE rfl rfl ?_
    refine W.seq ?_
    refine W.region ?_
    refine WL.vS hS hE (runs_plain rfl) (Gives.p hE rfl) rfl ?_; clear hE a; intro a hE
    refine WL.nil ?_
    refine W.ret ?_
    replace hS := hS.vecNil 3 1
    refine finG (fn := Try.f67) (rs := [.tmp 2]) (vs := [_]) hE rfl ⟨rfl, trivial⟩ ?_
    obtain rfl := Option.some.inj hr
    exact ⟨none, 0, 0, [], rfl, (Ev.nil), (rfl), hS⟩
  · skip
    refine W.condF hE rfl rfl ?_
    refine W.skip ?_
    refine W.seq ?_
    refine W.region ?_
    refine WL.lit hE hS (e := 3) (es := 1) (vs := []) (cs := []) (runs_plain rfl) rfl (by kernel_rfl) rfl ?_; clear hE hS a w; intro b53 a w hE hS
    replace hS := hS.ptVec (es := 1) (m := 0) rfl (by decide)
    have h55 : Ev 1 (RI .i64) s [] [] := (Ev.nil)
    refine WL.vS hS hE (runs_plain rfl) (Gives.p hE rfl) rfl ?_; clear hE a; intro a hE
    obtain ⟨x56, hx57, hr⟩ := bindS hr
    refine WL.appS hE hS 0 (runs_plain rfl) rfl rfl (xs := x0) rfl rfl ap22 RI.one h55 (rfl) h0 hx57 rfl ?_; clear hE hS a w; intro a58 c59 cs60 a w h61 hE hS
    refine WL.vS hS hE (runs_plain rfl) (Gives.p hE rfl) rfl ?_; clear hE a; intro a hE
    refine WL.nil ?_
    refine W.ret ?_
    refine finG (fn := Try.f67) (rs := [.tmp 2]) (vs := [_]) hE rfl ⟨rfl, trivial⟩ ?_
    obtain rfl := Option.some.inj hr
    exact ⟨a58, c59, x56.length, cs60, rfl, h61, (rfl), hS⟩
set_option maxHeartbeats 8000000 in
theorem MendRoundmean_1_v1_ok : ∀ {fu : Nat} {w : World} {s : Sg} {R : List HP} {pb0 : Nat} {pb1 : Nat} {pb2 : Nat} {pb3 : Nat} {pb4 : Nat} {x0 : Int} {x1 : Int} {x2 : List Bool} {a_v0 : Option Addr} {c_v0 n_v0 : Nat} {cs_v0 : List Value} {x3 : List Int} {a_v1 : Option Addr} {c_v1 n_v1 : Nat} {cs_v1 : List Value} {x4 : Int} {x5 : Int} {y0 : MendRound} {a_y0_1 : Option Addr} {c_y0_1 : Nat} {a_y0_2 : Option Addr} {c_y0_2 : Nat} {y1 : List Int} {a_y1_0 : Option Addr} {c_y1_0 : Nat} {y2 : Int} {y3 : Int} (_hS : St w s (pt pb0 (.cells #[.int .i64 y0.Period, .slice a_y0_1 y0.Plan.length c_y0_1, .slice a_y0_2 y0.Links.length c_y0_2] 25 (0, 0)) :: pt pb1 (.cells #[.slice a_y1_0 y1.length c_y1_0] 22 (0, 0)) :: pt pb2 (.cells #[.int .i64 y2] 3 (0, 0)) :: pt pb3 (.cells #[.int .i64 y3] 3 (0, 0)) :: pt pb4 (.cells #[.func (.func 83) #[] #[.pointer (some ⟨pb0, 0, none⟩), .pointer (some ⟨pb1, 0, none⟩), .pointer (some ⟨pb2, 0, none⟩), .pointer (some ⟨pb3, 0, none⟩), .pointer (some ⟨pb4, 0, none⟩)]] 121 (0, 0)) :: vecC 4 1 a_v0 c_v0 n_v0 cs_v0 :: vecC 3 1 a_v1 c_v1 n_v1 cs_v1 :: R)) (_h_v0 : Ev 1 RB s cs_v0 x2) (_hn_v0 : x2.length = n_v0) (_h_v1 : Ev 1 (RI .i64) s cs_v1 x3) (_hn_v1 : x3.length = n_v1) (_h_y0_1 : Sl 1 (RI .i64) s a_y0_1 c_y0_1 y0.Plan) (_h_y0_2 : Sl 4 RMendLink s a_y0_2 c_y0_2 y0.Links) (_h_y1_0 : Sl 1 (RI .i64) s a_y1_0 c_y1_0 y1) (_hz_y1_0 : y1 = [] → a_y1_0 = none) {r : (List Bool) × (List Int) × Int × Int} (_hr : MendRoundmean_1_v1 fu x0 x1 x2 x3 x4 x5 y0 y1 y2 y3 = some r),
    Calls Try.prog 83 [.int .i64 x0, .int .i64 x1, .slice a_v0 n_v0 c_v0, .slice a_v1 n_v1 c_v1, .int .i64 x4, .int .i64 x5, .pointer (some ⟨pb0, 0, none⟩), .pointer (some ⟨pb1, 0, none⟩), .pointer (some ⟨pb2, 0, none⟩), .pointer (some ⟨pb3, 0, none⟩), .pointer (some ⟨pb4, 0, none⟩)].toArray w (fun e w => ∃ (cs68 : List Value) (a71 : Option Addr) (c72 : Nat) (t : Sg), e = .returned (.tuple #[]) ∧ s.Le t ∧ Ev 1 RB t cs68 r.1 ∧ r.1.length = n_v0 ∧ Sl 1 (RI .i64) t a71 c72 r.2.1 ∧ (r.2.1 = [] → a71 = none) ∧ St w t (pt pb0 (.cells #[.int .i64 y0.Period, .slice a_y0_1 y0.Plan.length c_y0_1, .slice a_y0_2 y0.Links.length c_y0_2] 25 (0, 0)) :: pt pb1 (.cells #[.slice a71 r.2.1.length c72] 22 (0, 0)) :: pt pb2 (.cells #[.int .i64 r.2.2.1] 3 (0, 0)) :: pt pb3 (.cells #[.int .i64 r.2.2.2] 3 (0, 0)) :: pt pb4 (.cells #[.func (.func 83) #[] #[.pointer (some ⟨pb0, 0, none⟩), .pointer (some ⟨pb1, 0, none⟩), .pointer (some ⟨pb2, 0, none⟩), .pointer (some ⟨pb3, 0, none⟩), .pointer (some ⟨pb4, 0, none⟩)]] 121 (0, 0)) :: vecC 4 1 a_v0 c_v0 n_v0 cs68 :: vecC 3 1 a_v1 c_v1 n_v1 cs_v1 :: R)) := by
  intro fu
  induction fu with
  | zero => intro w s R pb0 pb1 pb2 pb3 pb4 x0 x1 x2 a_v0 c_v0 n_v0 cs_v0 x3 a_v1 c_v1 n_v1 cs_v1 x4 x5 y0 a_y0_1 c_y0_1 a_y0_2 c_y0_2 y1 a_y1_0 c_y1_0 y2 y3 hS h_v0 hn_v0 h_v1 hn_v1 h_y0_1 h_y0_2 h_y1_0 hz_y1_0 r hr; rw [MendRoundmean_1_v1] at hr; exact absurd hr (by simp)
  | succ fu ih_MendRoundmean_1_v1 =>
    intro w s R pb0 pb1 pb2 pb3 pb4 x0 x1 x2 a_v0 c_v0 n_v0 cs_v0 x3 a_v1 c_v1 n_v1 cs_v1 x4 x5 y0 a_y0_1 c_y0_1 a_y0_2 c_y0_2 y1 a_y1_0 c_y1_0 y2 y3 hS h_v0 hn_v0 h_v1 hn_v1 h_y0_1 h_y0_2 h_y1_0 hz_y1_0 r hr
    rw [MendRoundmean_1_v1] at hr
    generalize MendRoundmean_1_v1 fu = self_MendRoundmean_1_v1 at hr ih_MendRoundmean_1_v1
    refine enter Try.func83 rfl rfl rfl fun a hE => ?_
    subst hn_v0
    subst hn_v1
    refine W.seq ?_
    refine W.region ?_
    refine WL.vS hS hE (runs_plain rfl) (Gives.fld hE rfl fl25_2) rfl ?_; clear hE a; intro a hE
    refine WL.vS hS hE (runs_plain rfl) (Gives.loadB hE 0 rfl rfl rfl ty23) rfl ?_; clear hE a; intro a hE
    refine WL.vS hS hE (runs_plain rfl) (Gives.len hE rfl sl23) rfl ?_; clear hE a; intro a hE
    refine WL.vS hS hE (runs_plain rfl) (Gives.p hE rfl) rfl ?_; clear hE a; intro a hE
    refine WL.nil ?_
    obtain ⟨q78, hq77, hr⟩ := bindS hr
    refine W.cut (fun a w => ∃ (q88 : List Bool), ∃ (q94 : List Int), ∃ (q99 : Int), ∃ (q100 : Int), ∃ (cs92 : List Value), ∃ (a95 : Option Addr), ∃ (c96 : Nat), ∃ (s86 : Sg), s.Le s86 ∧ (q88, q94, q99, q100) = q78 ∧ Ev 1 RB s86 cs92 q88 ∧ q88.length = x2.length ∧ Sl 1 (RI .i64) s86 a95 c96 q94 ∧ (q94 = [] → a95 = none) ∧ Rep a 102 [] ∧ St w s86 (pt pb0 (.cells #[.int .i64 y0.Period, .slice a_y0_1 y0.Plan.length c_y0_1, .slice a_y0_2 y0.Links.length c_y0_2] 25 (0, 0)) :: pt pb1 (.cells #[.slice a95 q94.length c96] 22 (0, 0)) :: pt pb2 (.cells #[.int .i64 q99] 3 (0, 0)) :: pt pb3 (.cells #[.int .i64 q100] 3 (0, 0)) :: pt pb4 (.cells #[.func (.func 83) #[] #[.pointer (some ⟨pb0, 0, none⟩), .pointer (some ⟨pb1, 0, none⟩), .pointer (some ⟨pb2, 0, none⟩), .pointer (some ⟨pb3, 0, none⟩), .pointer (some ⟨pb4, 0, none⟩)]] 121 (0, 0)) :: vecC 4 1 a_v0 c_v0 x2.length cs92 :: vecC 3 1 a_v1 c_v1 x3.length cs_v1 :: R)) ?_ ?_
    · refine W.block ?_
      refine W.loop (fun m a w => ∃ (rest81 : List MendLink) (k79 : Nat), ∃ (q88 : List Bool), ∃ (q94 : List Int), ∃ (q99 : Int), ∃ (q100 : Int), ∃ (cs92 : List Value), ∃ (a95 : Option Addr), ∃ (c96 : Nat), ∃ (s86 : Sg), rest81.length = m ∧ y0.Links.drop k79 = rest81 ∧ s.Le s86 ∧ MendRoundmean_1_v1.loop1 x0 x1 x3 x4 x5 y0 self_MendRoundmean_1_v1 rest81 k79 q88 q94 q99 q100 = some q78 ∧ Ev 1 RB s86 cs92 q88 ∧ q88.length = x2.length ∧ Sl 1 (RI .i64) s86 a95 c96 q94 ∧ (q94 = [] → a95 = none) ∧ Rep a 102 [(0, .int .i64 x0), (1, .int .i64 x1), (2, .slice a_v0 x2.length c_v0), (3, .slice a_v1 x3.length c_v1), (4, .int .i64 x4), (5, .int .i64 x5), (7, .pointer (some ⟨pb1, 0, none⟩)), (8, .pointer (some ⟨pb2, 0, none⟩)), (9, .pointer (some ⟨pb3, 0, none⟩)), (10, .pointer (some ⟨pb4, 0, none⟩)), (22, .slice a_y0_2 y0.Links.length c_y0_2), (23, .int .i64 ((y0.Links).length : Int)), (24, .int .i64 ((k79 : Nat) : Int))] ∧ St w s86 (pt pb0 (.cells #[.int .i64 y0.Period, .slice a_y0_1 y0.Plan.length c_y0_1, .slice a_y0_2 y0.Links.length c_y0_2] 25 (0, 0)) :: pt pb1 (.cells #[.slice a95 q94.length c96] 22 (0, 0)) :: pt pb2 (.cells #[.int .i64 q99] 3 (0, 0)) :: pt pb3 (.cells #[.int .i64 q100] 3 (0, 0)) :: pt pb4 (.cells #[.func (.func 83) #[] #[.pointer (some ⟨pb0, 0, none⟩), .pointer (some ⟨pb1, 0, none⟩), .pointer (some ⟨pb2, 0, none⟩), .pointer (some ⟨pb3, 0, none⟩), .pointer (some ⟨pb4, 0, none⟩)]] 121 (0, 0)) :: vecC 4 1 a_v0 c_v0 x2.length cs92 :: vecC 3 1 a_v1 c_v1 x3.length cs_v1 :: R)) (m := y0.Links.length) ⟨y0.Links, 0, x2, y1, y2, y3, cs_v0, a_y1_0, c_y1_0, s, rfl, rfl, (Sg.Le.refl _), hq77, h_v0, (rfl), h_y1_0, hz_y1_0, hE.pick _ ⟨rfl, rfl, rfl, rfl, rfl, rfl, rfl, rfl, rfl, rfl, rfl, rfl, rfl, trivial⟩, hS⟩ ?_
      clear hE hS a w hq77; rintro m85 a w ⟨rest81, k79, q88, q94, q99, q100, cs92, a95, c96, s86, rfl, hd82, hle87, hq77, h91, hn93, h97, hz98, hE, hS⟩
      refine W.gen fun K101 hK101 => ?_
      replace h_y0_2 := Sl.mono RMendLink.mono hle87 h_y0_2
      replace h_y0_1 := Sl.mono RI.mono hle87 h_y0_1
      replace h_y1_0 := Sl.mono RI.mono hle87 h_y1_0
      replace h_v0 := Ev.mono RB.mono hle87 h_v0
      replace h_v1 := Ev.mono RI.mono hle87 h_v1
      rcases rest81 with _ | ⟨x80, rest81⟩
      · have hlt83 := drop_nil hd82
        refine W.seq ?_
        refine W.region ?_
        refine WL.vS hS hE (runs_plain rfl) (Gives.p hE rfl) rfl ?_; clear hE a; intro a hE
        refine WL.nil ?_
        refine W.seq ?_
        refine W.condF hE rfl (decide_eq_false (by omega)) ?_
        subst hK101
        refine W.exit rfl ?_
        exact ⟨q88, q94, q99, q100, cs92, a95, c96, s86, hle87, Option.some.inj hq77, h91, hn93, h97, hz98, hE.pick _ trivial, hS⟩
      · obtain ⟨hlt83, hx84, hd82⟩ := drop_cons hd82
        rw [MendRoundmean_1_v1.loop1] at hq77
        refine W.seq ?_
        refine W.region ?_
        refine WL.vS hS hE (runs_plain rfl) (Gives.p hE rfl) rfl ?_; clear hE a; intro a hE
        refine WL.nil ?_
        refine W.seq ?_
        refine W.condT hE rfl (decide_eq_true (by omega)) ?_
        refine W.skip ?_
        refine W.seq ?_
        refine W.block ?_
        refine W.seq ?_
        refine W.region ?_
        refine WL.vS hS hE (runs_plain rfl) (Gives.p hE rfl) rfl ?_; clear hE a; intro a hE
        obtain ⟨cs102, hl103, hR104, hat105⟩ := h_y0_2.at hx84
        subst hR104
        refine WL.vS hS hE (runs_plain rfl) (Gives.idx hE k79 rfl rfl sl23 rfl hlt83 (h_y0_2.aok hlt83)) rfl ?_; clear hE a; intro a hE
        refine WL.vS hS hE (runs_plain rfl) (Gives.loadA hE rfl (fun w h => hat105 w _ h) ty36) rfl ?_; clear hE a; intro a hE
        refine WL.alloc hE hS (runs_plain rfl) zr36 rfl ?_; clear hE hS a w; intro b106 a w hE hS
        refine WL.vS hS hE (runs_plain rfl) (Gives.p hE rfl) rfl ?_; clear hE a; intro a hE
        refine WL.storeI hE hS 0 rfl (MendLink.cells x80) (runs_plain rfl) rfl rfl rfl ty36 rfl rfl rfl rfl ?_; clear hE hS a w; intro a w hE hS
        refine WL.nil ?_
        refine W.seq ?_
        refine W.seq ?_
        obtain ⟨q108, hq107, hq77⟩ := bndS hq77
        refine W.cut (fun a w => ∃ (q111 : Bool), q111 = q108 ∧ Rep a 102 [(0, .int .i64 x0), (1, .int .i64 x1), (2, .slice a_v0 x2.length c_v0), (3, .slice a_v1 x3.length c_v1), (4, .int .i64 x4), (5, .int .i64 x5), (7, .pointer (some ⟨pb1, 0, none⟩)), (8, .pointer (some ⟨pb2, 0, none⟩)), (9, .pointer (some ⟨pb3, 0, none⟩)), (10, .pointer (some ⟨pb4, 0, none⟩)), (17, .int .i64 ((k79 : Nat) : Int)), (18, .pointer (some ⟨b106, 0, none⟩)), (22, .slice a_y0_2 y0.Links.length c_y0_2), (23, .int .i64 ((y0.Links).length : Int)), (24, .int .i64 ((k79 : Nat) : Int)), (38, .bool q111)] ∧ St w s86 (pt b106 (.cells (MendLink.cells x80).toArray 36 (0, 0)) :: pt pb0 (.cells #[.int .i64 y0.Period, .slice a_y0_1 y0.Plan.length c_y0_1, .slice a_y0_2 y0.Links.length c_y0_2] 25 (0, 0)) :: pt pb1 (.cells #[.slice a95 q94.length c96] 22 (0, 0)) :: pt pb2 (.cells #[.int .i64 q99] 3 (0, 0)) :: pt pb3 (.cells #[.int .i64 q100] 3 (0, 0)) :: pt pb4 (.cells #[.func (.func 83) #[] #[.pointer (some ⟨pb0, 0, none⟩), .pointer (some ⟨pb1, 0, none⟩), .pointer (some ⟨pb2, 0, none⟩), .pointer (some ⟨pb3, 0, none⟩), .pointer (some ⟨pb4, 0, none⟩)]] 121 (0, 0)) :: vecC 4 1 a_v0 c_v0 x2.length cs92 :: vecC 3 1 a_v1 c_v1 x3.length cs_v1 :: R)) ?_ ?_
        · refine W.gen fun K112 hK112 => ?_
          refine W.region ?_
          refine WL.vS hS hE (runs_plain rfl) (Gives.fld hE rfl fl36_0) rfl ?_; clear hE a; intro a hE
          refine WL.vS hS hE (runs_plain rfl) (Gives.loadB hE 0 rfl rfl rfl ty3) rfl ?_; clear hE a; intro a hE
          refine WL.vS hS hE (runs_plain rfl) (Gives.p hE rfl) rfl ?_; clear hE a; intro a hE
          refine WL.vS hS hE (runs_plain rfl) (Gives.p hE rfl) rfl ?_; clear hE a; intro a hE
          refine WL.vS hS hE (runs_plain rfl) (Gives.p hE rfl) rfl ?_; clear hE a; intro a hE
          rcases Bool.eq_false_or_eq_true (x80.From != x1) with hg113 | hg113
          · replace hq107 := iteT hg113 hq107
            refine WL.no hE (runs_not hE rfl rfl rfl (by rw [hg113]; decide)) rfl ?_; clear hE a; intro a hE
            refine WL.no hE (runs_not hE rfl rfl rfl (by rw [hg113]; decide)) rfl ?_; clear hE a; intro a hE
            refine WL.no hE (runs_not hE rfl rfl rfl (by rw [hg113]; decide)) rfl ?_; clear hE a; intro a hE
            refine WL.no hE (runs_not hE rfl rfl rfl (by rw [hg113]; decide)) rfl ?_; clear hE a; intro a hE
            refine WL.vS hS hE (runs_plain rfl) (Gives.pickT hE rfl hg113 rfl) rfl ?_; clear hE a; intro a hE
            refine WL.nil ?_
            subst hK112
            exact ⟨true, hq107, hE.pick _ ⟨rfl, rfl, rfl, rfl, rfl, rfl, rfl, rfl, rfl, rfl, rfl, rfl, rfl, rfl, rfl, rfl, trivial⟩, hS⟩
          · replace hq107 := iteF hg113 hq107
            refine WL.vS hS hE (runs_if hE rfl rfl rfl hg113) (Gives.fld hE rfl fl36_1) rfl ?_; clear hE a; intro a hE
            refine WL.vS hS hE (runs_if hE rfl rfl rfl hg113) (Gives.loadB hE 0 rfl rfl rfl ty3) rfl ?_; clear hE a; intro a hE
            refine WL.vS hS hE (runs_if hE rfl rfl rfl hg113) (Gives.p hE rfl) rfl ?_; clear hE a; intro a hE
            refine WL.vS hS hE (runs_if hE rfl rfl rfl hg113) (Gives.p hE rfl) rfl ?_; clear hE a; intro a hE
            refine WL.vS hS hE (runs_plain rfl) (Gives.pickF hE rfl hg113 rfl) rfl ?_; clear hE a; intro a hE
            refine WL.nil ?_
            subst hK112
            exact ⟨decide (x80.To < x0), hq107, hE.pick _ ⟨rfl, rfl, rfl, rfl, rfl, rfl, rfl, rfl, rfl, rfl, rfl, rfl, rfl, rfl, rfl, rfl, trivial⟩, hS⟩
        · clear hE hS a w; rintro a w ⟨q111, rfl, hE, hS⟩
          refine W.cond hE rfl (fun hc114 => ?_) (fun hc114 => ?_)
          · replace hq77 := iteT hc114 hq77
            refine W.exit rfl ?_
            refine W.region ?_
            refine WL.vS hS hE (runs_plain rfl) (Gives.inc hE rfl (by have := h_y0_2.small; omega)) rfl ?_; clear hE a; intro a hE
            refine WL.vS hS hE (runs_plain rfl) (Gives.p hE rfl) rfl ?_; clear hE a; intro a hE
            refine WL.nil ?_
            replace hS := hS.tail
            subst hK101
            exact ⟨rest81.length, Nat.lt_succ_self _, rest81, k79 + 1, q88, q94, q99, q100, cs92, a95, c96, s86, rfl, hd82, hle87, hq77, h91, hn93, h97, hz98, hE.pick _ ⟨rfl, rfl, rfl, rfl, rfl, rfl, rfl, rfl, rfl, rfl, rfl, rfl, rfl, trivial⟩, hS⟩
          · replace hq77 := iteF hc114 hq77
            refine W.skip ?_
            refine W.seq ?_
            refine W.region ?_
            refine WL.vS hS hE (runs_plain rfl) (Gives.fld hE rfl fl36_1) rfl ?_; clear hE a; intro a hE
            refine WL.vS hS hE (runs_plain rfl) (Gives.loadB hE 0 rfl rfl rfl ty3) rfl ?_; clear hE a; intro a hE
            refine WL.vS hS hE (runs_plain rfl) (Gives.p hE rfl) rfl ?_; clear hE a; intro a hE
            refine WL.vS hS hE (runs_plain rfl) (Gives.p hE rfl) rfl ?_; clear hE a; intro a hE
            refine WL.nil ?_
            obtain ⟨q116, hq115, hq77⟩ := bindS hq77
            refine W.cut (fun a w => ∃ (q119 : List Bool), ∃ (q125 : List Int), ∃ (q130 : Int), ∃ (q131 : Int), ∃ (cs123 : List Value), ∃ (a126 : Option Addr), ∃ (c127 : Nat), ∃ (s117 : Sg), s86.Le s117 ∧ (q119, q125, q130, q131) = q116 ∧ Ev 1 RB s117 cs123 q119 ∧ q119.length = x2.length ∧ Sl 1 (RI .i64) s117 a126 c127 q125 ∧ (q125 = [] → a126 = none) ∧ Rep a 102 [(0, .int .i64 x0), (1, .int .i64 x1), (2, .slice a_v0 x2.length c_v0), (3, .slice a_v1 x3.length c_v1), (4, .int .i64 x4), (5, .int .i64 x5), (7, .pointer (some ⟨pb1, 0, none⟩)), (8, .pointer (some ⟨pb2, 0, none⟩)), (9, .pointer (some ⟨pb3, 0, none⟩)), (10, .pointer (some ⟨pb4, 0, none⟩)), (22, .slice a_y0_2 y0.Links.length c_y0_2), (23, .int .i64 ((y0.Links).length : Int)), (24, .int .i64 ((k79 : Nat) : Int))] ∧ St w s117 (pt b106 (.cells (MendLink.cells x80).toArray 36 (0, 0)) :: pt pb0 (.cells #[.int .i64 y0.Period, .slice a_y0_1 y0.Plan.length c_y0_1, .slice a_y0_2 y0.Links.length c_y0_2] 25 (0, 0)) :: pt pb1 (.cells #[.slice a126 q125.length c127] 22 (0, 0)) :: pt pb2 (.cells #[.int .i64 q130] 3 (0, 0)) :: pt pb3 (.cells #[.int .i64 q131] 3 (0, 0)) :: pt pb4 (.cells #[.func (.func 83) #[] #[.pointer (some ⟨pb0, 0, none⟩), .pointer (some ⟨pb1, 0, none⟩), .pointer (some ⟨pb2, 0, none⟩), .pointer (some ⟨pb3, 0, none⟩), .pointer (some ⟨pb4, 0, none⟩)]] 121 (0, 0)) :: vecC 4 1 a_v0 c_v0 x2.length cs123 :: vecC 3 1 a_v1 c_v1 x3.length cs_v1 :: R)) ?_ ?_
            · refine W.gen fun K132 hK132 => ?_
              refine W.cond hE rfl (fun hc133 => ?_) (fun hc133 => ?_)
              · replace hq115 := iteT hc133 hq115
                refine W.seq ?_
                refine W.regionQ (C := fun w => St w s86 (pt b106 (.cells (MendLink.cells x80).toArray 36 (0, 0)) :: pt pb0 (.cells #[.int .i64 y0.Period, .slice a_y0_1 y0.Plan.length c_y0_1, .slice a_y0_2 y0.Links.length c_y0_2] 25 (0, 0)) :: pt pb1 (.cells #[.slice a95 q94.length c96] 22 (0, 0)) :: pt pb2 (.cells #[.int .i64 q99] 3 (0, 0)) :: pt pb3 (.cells #[.int .i64 q100] 3 (0, 0)) :: pt pb4 (.cells #[.func (.func 83) #[] #[.pointer (some ⟨pb0, 0, none⟩), .pointer (some ⟨pb1, 0, none⟩), .pointer (some ⟨pb2, 0, none⟩), .pointer (some ⟨pb3, 0, none⟩), .pointer (some ⟨pb4, 0, none⟩)]] 121 (0, 0)) :: vecC 4 1 a_v0 c_v0 x2.length cs92 :: vecC 3 1 a_v1 c_v1 x3.length cs_v1 :: R)) mixed (by kernel_rfl) hS.drew ?_
                refine QL.v hE (runs_plain rfl) (Gives.p hE rfl) rfl ?_; clear hE a; intro a hE
                refine QL.v hE (runs_plain rfl) (Gives.fld hE rfl fl36_2) rfl ?_; clear hE a; intro a hE
                refine QL.v hE (runs_plain rfl) (Gives.loadB hE 0 rfl rfl rfl ty3) rfl ?_; clear hE a; intro a hE
                refine QL.v hE (runs_plain rfl) (Gives.p hE rfl) rfl ?_; clear hE a; intro a hE
                refine QL.v hE (runs_plain rfl) (Gives.p hE rfl) rfl ?_; clear hE a; intro a hE
                refine QL.v hE (runs_plain rfl) (Gives.fld hE rfl fl36_3) rfl ?_; clear hE a; intro a hE
                refine QL.v hE (runs_plain rfl) (Gives.loadB hE 0 rfl rfl rfl ty3) rfl ?_; clear hE a; intro a hE
                refine QL.v hE (runs_plain rfl) (Gives.p hE rfl) rfl ?_; clear hE a; intro a hE
                refine QL.v hE (runs_plain rfl) (Gives.p hE rfl) rfl ?_; clear hE a; intro a hE
                refine QL.v hE (runs_plain rfl) (Gives.p hE rfl) rfl ?_; clear hE a; intro a hE
                refine QL.nil ?_; clear hS w; intro w hS
                refine W.seq ?_
                obtain ⟨q135, hq134, hq115⟩ := bndS hq115
                refine W.cut (fun a w => ∃ (q138 : Bool), q138 = q135 ∧ Rep a 102 [(0, .int .i64 x0), (1, .int .i64 x1), (2, .slice a_v0 x2.length c_v0), (3, .slice a_v1 x3.length c_v1), (4, .int .i64 x4), (5, .int .i64 x5), (7, .pointer (some ⟨pb1, 0, none⟩)), (8, .pointer (some ⟨pb2, 0, none⟩)), (9, .pointer (some ⟨pb3, 0, none⟩)), (10, .pointer (some ⟨pb4, 0, none⟩)), (17, .int .i64 ((k79 : Nat) : Int)), (19, .int .i64 (w64 (x4 + x80.Len))), (20, .int .i64 (w64 (x5 + x80.Back))), (22, .slice a_y0_2 y0.Links.length c_y0_2), (23, .int .i64 ((y0.Links).length : Int)), (24, .int .i64 ((k79 : Nat) : Int)), (61, .bool q138)] ∧ St w s86 (pt b106 (.cells (MendLink.cells x80).toArray 36 (0, 0)) :: pt pb0 (.cells #[.int .i64 y0.Period, .slice a_y0_1 y0.Plan.length c_y0_1, .slice a_y0_2 y0.Links.length c_y0_2] 25 (0, 0)) :: pt pb1 (.cells #[.slice a95 q94.length c96] 22 (0, 0)) :: pt pb2 (.cells #[.int .i64 q99] 3 (0, 0)) :: pt pb3 (.cells #[.int .i64 q100] 3 (0, 0)) :: pt pb4 (.cells #[.func (.func 83) #[] #[.pointer (some ⟨pb0, 0, none⟩), .pointer (some ⟨pb1, 0, none⟩), .pointer (some ⟨pb2, 0, none⟩), .pointer (some ⟨pb3, 0, none⟩), .pointer (some ⟨pb4, 0, none⟩)]] 121 (0, 0)) :: vecC 4 1 a_v0 c_v0 x2.length cs92 :: vecC 3 1 a_v1 c_v1 x3.length cs_v1 :: R)) ?_ ?_
                · refine W.gen fun K139 hK139 => ?_
                  refine W.region ?_
                  refine WL.vS hS hE (runs_plain rfl) (Gives.loadB hE 2 rfl rfl rfl ty22) rfl ?_; clear hE a; intro a hE
                  refine WL.vS hS hE (runs_plain rfl) (Gives.isNilZ hE (isNone_eq h97 hz98) rfl rfl isl22) rfl ?_; clear hE a; intro a hE
                  refine WL.vS hS hE (runs_plain rfl) (Gives.p hE rfl) rfl ?_; clear hE a; intro a hE
                  rcases Bool.eq_false_or_eq_true q94.isEmpty with hg140 | hg140
                  · replace hq134 := iteT hg140 hq134
                    refine WL.no hE (runs_not hE rfl rfl rfl (by rw [hg140]; decide)) rfl ?_; clear hE a; intro a hE
                    refine WL.no hE (runs_not hE rfl rfl rfl (by rw [hg140]; decide)) rfl ?_; clear hE a; intro a hE
                    refine WL.no hE (runs_not hE rfl rfl rfl (by rw [hg140]; decide)) rfl ?_; clear hE a; intro a hE
                    refine WL.no hE (runs_not hE rfl rfl rfl (by rw [hg140]; decide)) rfl ?_; clear hE a; intro a hE
                    refine WL.no hE (runs_not hE rfl rfl rfl (by rw [hg140]; decide)) rfl ?_; clear hE a; intro a hE
                    refine WL.no hE (runs_not hE rfl rfl rfl (by rw [hg140]; decide)) rfl ?_; clear hE a; intro a hE
                    refine WL.no hE (runs_not hE rfl rfl rfl (by rw [hg140]; decide)) rfl ?_; clear hE a; intro a hE
                    refine WL.vS hS hE (runs_plain rfl) (Gives.pickT hE rfl hg140 rfl) rfl ?_; clear hE a; intro a hE
                    refine WL.nil ?_
                    subst hK139
                    exact ⟨true, hq134, hE.pick _ ⟨rfl, rfl, rfl, rfl, rfl, rfl, rfl, rfl, rfl, rfl, rfl, rfl, rfl, rfl, rfl, rfl, rfl, trivial⟩, hS⟩
                  · replace hq134 := iteF hg140 hq134
                    refine WL.vS hS hE (runs_if hE rfl rfl rfl hg140) (Gives.p hE rfl) rfl ?_; clear hE a; intro a hE
                    refine WL.vS hS hE (runs_if hE rfl rfl rfl hg140) (Gives.loadB hE 3 rfl rfl rfl ty3) rfl ?_; clear hE a; intro a hE
                    refine WL.vS hS hE (runs_if hE rfl rfl rfl hg140) (Gives.p hE rfl) rfl ?_; clear hE a; intro a hE
                    refine WL.vS hS hE (runs_if hE rfl rfl rfl hg140) (Gives.loadB hE 4 rfl rfl rfl ty3) rfl ?_; clear hE a; intro a hE
                    refine WL.vS hS hE (runs_if hE rfl rfl rfl hg140) (Gives.p hE rfl) rfl ?_; clear hE a; intro a hE
                    refine WL.vS hS hE (runs_if hE rfl rfl rfl hg140) (Gives.p hE rfl) rfl ?_; clear hE a; intro a hE
                    refine WL.vS hS hE (runs_if hE rfl rfl rfl hg140) (Gives.p hE rfl) rfl ?_; clear hE a; intro a hE
                    refine WL.vS hS hE (runs_plain rfl) (Gives.pickF hE rfl hg140 rfl) rfl ?_; clear hE a; intro a hE
                    refine WL.nil ?_
                    subst hK139
                    exact ⟨decide ((w64 ((w64 (x4 + x80.Len)) * q99)) > (w64 (q100 * (w64 (x5 + x80.Back))))), hq134, hE.pick _ ⟨rfl, rfl, rfl, rfl, rfl, rfl, rfl, rfl, rfl, rfl, rfl, rfl, rfl, rfl, rfl, rfl, rfl, trivial⟩, hS⟩
                · clear hE hS a w; rintro a w ⟨q138, rfl, hE, hS⟩
                  obtain ⟨q142, hq141, hq115⟩ := bindS hq115
                  refine W.cut (fun a w => ∃ (q145 : List Int), ∃ (q150 : Int), ∃ (q151 : Int), ∃ (a146 : Option Addr), ∃ (c147 : Nat), ∃ (s143 : Sg), s86.Le s143 ∧ (q145, q150, q151) = q142 ∧ Sl 1 (RI .i64) s143 a146 c147 q145 ∧ (q145 = [] → a146 = none) ∧ Rep a 102 [(0, .int .i64 x0), (1, .int .i64 x1), (2, .slice a_v0 x2.length c_v0), (3, .slice a_v1 x3.length c_v1), (4, .int .i64 x4), (5, .int .i64 x5), (7, .pointer (some ⟨pb1, 0, none⟩)), (8, .pointer (some ⟨pb2, 0, none⟩)), (9, .pointer (some ⟨pb3, 0, none⟩)), (10, .pointer (some ⟨pb4, 0, none⟩)), (22, .slice a_y0_2 y0.Links.length c_y0_2), (23, .int .i64 ((y0.Links).length : Int)), (24, .int .i64 ((k79 : Nat) : Int))] ∧ St w s143 (pt b106 (.cells (MendLink.cells x80).toArray 36 (0, 0)) :: pt pb0 (.cells #[.int .i64 y0.Period, .slice a_y0_1 y0.Plan.length c_y0_1, .slice a_y0_2 y0.Links.length c_y0_2] 25 (0, 0)) :: pt pb1 (.cells #[.slice a146 q145.length c147] 22 (0, 0)) :: pt pb2 (.cells #[.int .i64 q150] 3 (0, 0)) :: pt pb3 (.cells #[.int .i64 q151] 3 (0, 0)) :: pt pb4 (.cells #[.func (.func 83) #[] #[.pointer (some ⟨pb0, 0, none⟩), .pointer (some ⟨pb1, 0, none⟩), .pointer (some ⟨pb2, 0, none⟩), .pointer (some ⟨pb3, 0, none⟩), .pointer (some ⟨pb4, 0, none⟩)]] 121 (0, 0)) :: vecC 4 1 a_v0 c_v0 x2.length cs92 :: vecC 3 1 a_v1 c_v1 x3.length cs_v1 :: R)) ?_ ?_
                  · refine W.gen fun K152 hK152 => ?_
                    refine W.cond hE rfl (fun hc153 => ?_) (fun hc153 => ?_)
                    · replace hq141 := iteT hc153 hq141
                      refine W.region ?_
                      refine WL.vS hS hE (runs_plain rfl) (Gives.p hE rfl) rfl ?_; clear hE a; intro a hE
                      refine WL.vS hS hE (runs_plain rfl) (Gives.p hE rfl) rfl ?_; clear hE a; intro a hE
                      refine WL.vS hS hE (runs_plain rfl) (Gives.p hE rfl) rfl ?_; clear hE a; intro a hE
                      obtain ⟨q154, hq155, hq141⟩ := bindS hq141
                      have hF := hS.lendV RI.mono 7 rfl h_v1 (rfl); clear hS; obtain ⟨t162, hle163, hS, hs164, bk165⟩ := hF
                      have hc_ := SlicesCloneLint_ok hS hs164 hq155
                      refine WL.fnq hE (hc_) (runs_plain rfl) bd67 rfl rfl rfl ?_
                      clear hE hS hc_; rintro e w ⟨a156, c157, n158, cs159, rfl, h160, rfl, hS⟩; refine ⟨_, rfl, ?_⟩; clear a; intro a hE
                      replace hS := bk165 _ _ hS
                      replace h160 := Ev.flat (s2 := s86) (fun _ _ _ _ h => h) h160
                      refine WL.vS hS hE (runs_plain rfl) (Gives.p hE rfl) rfl ?_; clear hE a; intro a hE
                      refine WL.lit hE hS (e := 3) (es := 1) (vs := [(0, .int .i64 ((k79 : Nat) : Int))]) (cs := [.int .i64 ((k79 : Nat) : Int)]) (runs_plain rfl) rfl (by kernel_rfl) rfl ?_; clear hE hS a w; intro b166 a w hE hS
                      obtain ⟨x167, hx168, hq141⟩ := bindS hq141
                      refine WL.appD hE hS 1 (m := 1) (runs_plain rfl) rfl rfl rfl ap22 rfl h160 rfl (xs := [((k79 : Nat) : Int)]) (Ev.cons (c1 := [.int .i64 ((k79 : Nat) : Int)]) rfl rfl (Ev.nil)) rfl rfl hx168 rfl ?_; clear hE hS a w; intro a169 c170 cs171 a w h172 hE hS
                      refine WL.storeI hE hS 6 rfl [.int .i64 (w64 (x4 + x80.Len))] (runs_plain rfl) rfl rfl rfl ty3 rfl rfl rfl rfl ?_; clear hE hS a w; intro a w hE hS
                      refine WL.storeI hE hS 5 rfl [.int .i64 (w64 (x5 + x80.Back))] (runs_plain rfl) rfl rfl rfl ty3 rfl rfl rfl rfl ?_; clear hE hS a w; intro a w hE hS
                      have hF := hS.fixD RI.mono 1 rfl h172 (rfl); clear hS; obtain ⟨s173, hle174, hS, h175⟩ := hF
                      replace h_y0_2 := Sl.mono RMendLink.mono hle174 h_y0_2
                      replace h_v1 := Ev.mono RI.mono hle174 h_v1
                      replace h_y0_1 := Sl.mono RI.mono hle174 h_y0_1
                      replace h97 := Sl.mono RI.mono hle174 h97
                      replace h91 := Ev.mono RB.mono hle174 h91
                      obtain ⟨_, hx176, hq141⟩ := bindS hq141
                      refine WL.storeI hE hS 3 rfl [.slice a169 x167.length c170] (runs_plain rfl) rfl rfl rfl ty22 rfl rfl rfl rfl ?_; clear hE hS a w; intro a w hE hS
                      refine WL.nil ?_
                      replace hS := hS.front 7 rfl
                      replace hS := hS.front 7 rfl
                      replace hS := hS.front 7 rfl
                      replace hS := hS.front 7 rfl
                      replace hS := hS.front 7 rfl
                      replace hS := hS.front 7 rfl
                      replace hS := hS.front 7 rfl
                      subst hK152
                      exact ⟨x167, w64 (x5 + x80.Back), w64 (x4 + x80.Len), a169, c170, s173, hle174, Option.some.inj hq141, h175, (nz_some hx176), hE.pick _ ⟨rfl, rfl, rfl, rfl, rfl, rfl, rfl, rfl, rfl, rfl, rfl, rfl, rfl, trivial⟩, hS⟩
                    · replace hq141 := iteF hc153 hq141
                      refine W.skip ?_
                      subst hK152
                      exact ⟨q94, q99, q100, a95, c96, s86, (Sg.Le.refl _), Option.some.inj hq141, h97, hz98, hE.pick _ ⟨rfl, rfl, rfl, rfl, rfl, rfl, rfl, rfl, rfl, rfl, rfl, rfl, rfl, trivial⟩, hS⟩
                  · clear hE hS a w; rintro a w ⟨q145, q150, q151, a146, c147, s143, hle144, rfl, h148, hz149, hE, hS⟩
                    dsimp only at hq115
                    replace h_y0_2 := Sl.mono RMendLink.mono hle144 h_y0_2
                    replace h_y0_1 := Sl.mono RI.mono hle144 h_y0_1
                    replace h97 := Sl.mono RI.mono hle144 h97
                    replace h91 := Ev.mono RB.mono hle144 h91
                    replace h_v1 := Ev.mono RI.mono hle144 h_v1
                    subst hK132
                    exact ⟨q88, q145, q150, q151, cs92, a146, c147, s143, hle144, Option.some.inj hq115, h91, hn93, h148, hz149, hE.pick _ ⟨rfl, rfl, rfl, rfl, rfl, rfl, rfl, rfl, rfl, rfl, rfl, rfl, rfl, trivial⟩, hS⟩
              · replace hq115 := iteF hc133 hq115
                refine W.seq ?_
                refine W.region ?_
                refine WL.vS hS hE (runs_plain rfl) (Gives.p hE rfl) rfl ?_; clear hE a; intro a hE
                refine WL.vS hS hE (runs_plain rfl) (Gives.fld hE rfl fl36_1) rfl ?_; clear hE a; intro a hE
                refine WL.vS hS hE (runs_plain rfl) (Gives.loadB hE 0 rfl rfl rfl ty3) rfl ?_; clear hE a; intro a hE
                obtain ⟨x177, hx178, hq115⟩ := bindS hq115
                obtain ⟨hi179, hlt180, hy181⟩ := gx_some hx178
                obtain ⟨vs182, hl183, hR184, hd185, hget186⟩ := h91.at hy181
                subst hR184
                refine WL.vS hS hE (runs_plain rfl) (Gives.idx hE ((x80.To).toNat) rfl rfl sl82 hi179 (by have := hn93; omega) (hS.vecAok 6 rfl (by have := hn93; omega : (x80.To).toNat < x2.length))) rfl ?_; clear hE a; intro a hE
                refine WL.vS hS hE (runs_plain rfl) (Gives.load1 hE rfl (fun w h => St.vecSees h 6 rfl ((x80.To).toNat * 1) _ hget186) ty4) rfl ?_; clear hE a; intro a hE
                refine WL.vS hS hE (runs_plain rfl) (Gives.p hE rfl) rfl ?_; clear hE a; intro a hE
                refine WL.nil ?_
                obtain ⟨q188, hq187, hq115⟩ := bindS hq115
                refine W.cut (fun a w => ∃ (q191 : List Bool), ∃ (q197 : List Int), ∃ (q202 : Int), ∃ (q203 : Int), ∃ (cs195 : List Value), ∃ (a198 : Option Addr), ∃ (c199 : Nat), ∃ (s189 : Sg), s86.Le s189 ∧ (q191, q197, q202, q203) = q188 ∧ Ev 1 RB s189 cs195 q191 ∧ q191.length = x2.length ∧ Sl 1 (RI .i64) s189 a198 c199 q197 ∧ (q197 = [] → a198 = none) ∧ Rep a 102 [(0, .int .i64 x0), (1, .int .i64 x1), (2, .slice a_v0 x2.length c_v0), (3, .slice a_v1 x3.length c_v1), (4, .int .i64 x4), (5, .int .i64 x5), (7, .pointer (some ⟨pb1, 0, none⟩)), (8, .pointer (some ⟨pb2, 0, none⟩)), (9, .pointer (some ⟨pb3, 0, none⟩)), (10, .pointer (some ⟨pb4, 0, none⟩)), (22, .slice a_y0_2 y0.Links.length c_y0_2), (23, .int .i64 ((y0.Links).length : Int)), (24, .int .i64 ((k79 : Nat) : Int))] ∧ St w s189 (pt b106 (.cells (MendLink.cells x80).toArray 36 (0, 0)) :: pt pb0 (.cells #[.int .i64 y0.Period, .slice a_y0_1 y0.Plan.length c_y0_1, .slice a_y0_2 y0.Links.length c_y0_2] 25 (0, 0)) :: pt pb1 (.cells #[.slice a198 q197.length c199] 22 (0, 0)) :: pt pb2 (.cells #[.int .i64 q202] 3 (0, 0)) :: pt pb3 (.cells #[.int .i64 q203] 3 (0, 0)) :: pt pb4 (.cells #[.func (.func 83) #[] #[.pointer (some ⟨pb0, 0, none⟩), .pointer (some ⟨pb1, 0, none⟩), .pointer (some ⟨pb2, 0, none⟩), .pointer (some ⟨pb3, 0, none⟩), .pointer (some ⟨pb4, 0, none⟩)]] 121 (0, 0)) :: vecC 4 1 a_v0 c_v0 x2.length cs195 :: vecC 3 1 a_v1 c_v1 x3.length cs_v1 :: R)) ?_ ?_
                · refine W.gen fun K204 hK204 => ?_
                  refine W.cond hE rfl (fun hc205 => ?_) (fun hc205 => ?_)
                  · replace hq187 := iteT hc205 hq187
                    refine W.seq ?_
                    refine W.region ?_
                    refine WL.vS hS hE (runs_plain rfl) (Gives.p hE rfl) rfl ?_; clear hE a; intro a hE
                    refine WL.vS hS hE (runs_plain rfl) (Gives.fld hE rfl fl36_1) rfl ?_; clear hE a; intro a hE
                    refine WL.vS hS hE (runs_plain rfl) (Gives.loadB hE 0 rfl rfl rfl ty3) rfl ?_; clear hE a; intro a hE
                    obtain ⟨_, hx207, hq187⟩ := bindS hq187
                    obtain ⟨h208, h209⟩ := ix_some hx207
                    refine WL.vS hS hE (runs_plain rfl) (Gives.idx hE ((x80.To).toNat) rfl rfl sl82 h208 (by have := hn93; omega) (hS.vecAok 6 rfl (by have := hn93; omega : (x80.To).toNat < x2.length))) rfl ?_; clear hE a; intro a hE
                    obtain ⟨x211, hx212, hq187⟩ := bindS hq187
                    refine WL.setD hE hS 6 rfl (runs_plain rfl) rfl rfl (vs := [.bool true]) rfl ty4 rfl rfl rfl h91 hn93 (sx_some hx212).1 hx212 rfl rfl ?_; clear hE hS a w; intro cs213 a w h214 hn215 hE hS
                    refine WL.nil ?_
                    refine W.seq ?_
                    refine W.gen fun K216 hK216 => ?_
                    refine W.regionE (sel (fun w => St w s86 (pt b106 (.cells (MendLink.cells x80).toArray 36 (0, 0)) :: pt pb0 (.cells #[.int .i64 y0.Period, .slice a_y0_1 y0.Plan.length c_y0_1, .slice a_y0_2 y0.Links.length c_y0_2] 25 (0, 0)) :: pt pb1 (.cells #[.slice a95 q94.length c96] 22 (0, 0)) :: pt pb2 (.cells #[.int .i64 q99] 3 (0, 0)) :: pt pb3 (.cells #[.int .i64 q100] 3 (0, 0)) :: pt pb4 (.cells #[.func (.func 83) #[] #[.pointer (some ⟨pb0, 0, none⟩), .pointer (some ⟨pb1, 0, none⟩), .pointer (some ⟨pb2, 0, none⟩), .pointer (some ⟨pb3, 0, none⟩), .pointer (some ⟨pb4, 0, none⟩)]] 121 (0, 0)) :: vecC 4 1 a_v0 c_v0 x2.length cs213 :: vecC 3 1 a_v1 c_v1 x3.length cs_v1 :: R)) (fun w => St w s86 (pt b106 (.cells (MendLink.cells x80).toArray 36 (0, 0)) :: pt pb0 (.cells #[.int .i64 y0.Period, .slice a_y0_1 y0.Plan.length c_y0_1, .slice a_y0_2 y0.Links.length c_y0_2] 25 (0, 0)) :: pt pb4 (.cells #[.func (.func 83) #[] #[.pointer (some ⟨pb0, 0, none⟩), .pointer (some ⟨pb1, 0, none⟩), .pointer (some ⟨pb2, 0, none⟩), .pointer (some ⟨pb3, 0, none⟩), .pointer (some ⟨pb4, 0, none⟩)]] 121 (0, 0)) :: R))) (fun b i => cond b ([0, 1, 2, 3, 4, 5, 6, 7, 9, 10, 11, 12, 13, 14, 15, 16].contains i) ([0, 1, 2, 3, 4, 5, 6, 7, 8, 9, 10, 11, 12, 13, 14, 15, 16, 17].contains i)) mixed ?_
                    replace hS := hS.drew
                    have hT := tw_sel (A := fun w => St w s86 (pt b106 (.cells (MendLink.cells x80).toArray 36 (0, 0)) :: pt pb0 (.cells #[.int .i64 y0.Period, .slice a_y0_1 y0.Plan.length c_y0_1, .slice a_y0_2 y0.Links.length c_y0_2] 25 (0, 0)) :: pt pb1 (.cells #[.slice a95 q94.length c96] 22 (0, 0)) :: pt pb2 (.cells #[.int .i64 q99] 3 (0, 0)) :: pt pb3 (.cells #[.int .i64 q100] 3 (0, 0)) :: pt pb4 (.cells #[.func (.func 83) #[] #[.pointer (some ⟨pb0, 0, none⟩), .pointer (some ⟨pb1, 0, none⟩), .pointer (some ⟨pb2, 0, none⟩), .pointer (some ⟨pb3, 0, none⟩), .pointer (some ⟨pb4, 0, none⟩)]] 121 (0, 0)) :: vecC 4 1 a_v0 c_v0 x2.length cs213 :: vecC 3 1 a_v1 c_v1 x3.length cs_v1 :: R)) (B := fun w => St w s86 (pt b106 (.cells (MendLink.cells x80).toArray 36 (0, 0)) :: pt pb0 (.cells #[.int .i64 y0.Period, .slice a_y0_1 y0.Plan.length c_y0_1, .slice a_y0_2 y0.Links.length c_y0_2] 25 (0, 0)) :: pt pb4 (.cells #[.func (.func 83) #[] #[.pointer (some ⟨pb0, 0, none⟩), .pointer (some ⟨pb1, 0, none⟩), .pointer (some ⟨pb2, 0, none⟩), .pointer (some ⟨pb3, 0, none⟩), .pointer (some ⟨pb4, 0, none⟩)]] 121 (0, 0)) :: R)) (w := _) (x := true) (y := true) (fun _ => hS) (fun _ => (((((hS.dropAt 2).dropAt 2).dropAt 2).dropAt 3).dropAt 3))
                    have hF := hS; replace hS := (((((hS.dropAt 2).dropAt 2).dropAt 2).dropAt 3).dropAt 3)
                    refine Rg.take (i := 0) false rfl hE rfl (by kernel_rfl) (runs_plain rfl) (Gives.loadB hE 2 rfl rfl rfl ty121) rfl hT ?_; clear hE a; intro a hE
                    replace hS := hF; clear hF hT
                    refine Rg.takeP (i := 1) hE rfl (by kernel_rfl) (runs_plain rfl) (Gives.p hE rfl) rfl (tw_sel (fun _ => hS) (fun _ => (((((hS.dropAt 2).dropAt 2).dropAt 2).dropAt 3).dropAt 3))) ?_; clear hE a; intro a hE
                    refine Rg.takeP (i := 2) hE rfl (by kernel_rfl) (runs_plain rfl) (Gives.fld hE rfl fl36_1) rfl (tw_sel (fun _ => hS) (fun _ => (((((hS.dropAt 2).dropAt 2).dropAt 2).dropAt 3).dropAt 3))) ?_; clear hE a; intro a hE
                    have hT := tw_sel (A := fun w => St w s86 (pt b106 (.cells (MendLink.cells x80).toArray 36 (0, 0)) :: pt pb0 (.cells #[.int .i64 y0.Period, .slice a_y0_1 y0.Plan.length c_y0_1, .slice a_y0_2 y0.Links.length c_y0_2] 25 (0, 0)) :: pt pb1 (.cells #[.slice a95 q94.length c96] 22 (0, 0)) :: pt pb2 (.cells #[.int .i64 q99] 3 (0, 0)) :: pt pb3 (.cells #[.int .i64 q100] 3 (0, 0)) :: pt pb4 (.cells #[.func (.func 83) #[] #[.pointer (some ⟨pb0, 0, none⟩), .pointer (some ⟨pb1, 0, none⟩), .pointer (some ⟨pb2, 0, none⟩), .pointer (some ⟨pb3, 0, none⟩), .pointer (some ⟨pb4, 0, none⟩)]] 121 (0, 0)) :: vecC 4 1 a_v0 c_v0 x2.length cs213 :: vecC 3 1 a_v1 c_v1 x3.length cs_v1 :: R)) (B := fun w => St w s86 (pt b106 (.cells (MendLink.cells x80).toArray 36 (0, 0)) :: pt pb0 (.cells #[.int .i64 y0.Period, .slice a_y0_1 y0.Plan.length c_y0_1, .slice a_y0_2 y0.Links.length c_y0_2] 25 (0, 0)) :: pt pb4 (.cells #[.func (.func 83) #[] #[.pointer (some ⟨pb0, 0, none⟩), .pointer (some ⟨pb1, 0, none⟩), .pointer (some ⟨pb2, 0, none⟩), .pointer (some ⟨pb3, 0, none⟩), .pointer (some ⟨pb4, 0, none⟩)]] 121 (0, 0)) :: R)) (w := _) (x := true) (y := true) (fun _ => hS) (fun _ => (((((hS.dropAt 2).dropAt 2).dropAt 2).dropAt 3).dropAt 3))
                    have hF := hS; replace hS := (((((hS.dropAt 2).dropAt 2).dropAt 2).dropAt 3).dropAt 3)
                    refine Rg.take (i := 3) false rfl hE rfl (by kernel_rfl) (runs_plain rfl) (Gives.loadB hE 0 rfl rfl rfl ty3) rfl hT ?_; clear hE a; intro a hE
                    replace hS := hF; clear hF hT
                    refine Rg.takeP (i := 4) hE rfl (by kernel_rfl) (runs_plain rfl) (Gives.p hE rfl) rfl (tw_sel (fun _ => hS) (fun _ => (((((hS.dropAt 2).dropAt 2).dropAt 2).dropAt 3).dropAt 3))) ?_; clear hE a; intro a hE
                    refine Rg.takeP (i := 5) hE rfl (by kernel_rfl) (runs_plain rfl) (Gives.p hE rfl) rfl (tw_sel (fun _ => hS) (fun _ => (((((hS.dropAt 2).dropAt 2).dropAt 2).dropAt 3).dropAt 3))) ?_; clear hE a; intro a hE
                    refine Rg.takeP (i := 6) hE rfl (by kernel_rfl) (runs_plain rfl) (Gives.p hE rfl) rfl (tw_sel (fun _ => hS) (fun _ => (((((hS.dropAt 2).dropAt 2).dropAt 2).dropAt 3).dropAt 3))) ?_; clear hE a; intro a hE
                    refine Rg.takeP (i := 9) hE rfl (by kernel_rfl) (runs_plain rfl) (Gives.p hE rfl) rfl (tw_sel (fun _ => hS) (fun _ => (((((hS.dropAt 2).dropAt 2).dropAt 2).dropAt 3).dropAt 3))) ?_; clear hE a; intro a hE
                    refine Rg.takeP (i := 10) hE rfl (by kernel_rfl) (runs_plain rfl) (Gives.fld hE rfl fl36_2) rfl (tw_sel (fun _ => hS) (fun _ => (((((hS.dropAt 2).dropAt 2).dropAt 2).dropAt 3).dropAt 3))) ?_; clear hE a; intro a hE
                    have hT := tw_sel (A := fun w => St w s86 (pt b106 (.cells (MendLink.cells x80).toArray 36 (0, 0)) :: pt pb0 (.cells #[.int .i64 y0.Period, .slice a_y0_1 y0.Plan.length c_y0_1, .slice a_y0_2 y0.Links.length c_y0_2] 25 (0, 0)) :: pt pb1 (.cells #[.slice a95 q94.length c96] 22 (0, 0)) :: pt pb2 (.cells #[.int .i64 q99] 3 (0, 0)) :: pt pb3 (.cells #[.int .i64 q100] 3 (0, 0)) :: pt pb4 (.cells #[.func (.func 83) #[] #[.pointer (some ⟨pb0, 0, none⟩), .pointer (some ⟨pb1, 0, none⟩), .pointer (some ⟨pb2, 0, none⟩), .pointer (some ⟨pb3, 0, none⟩), .pointer (some ⟨pb4, 0, none⟩)]] 121 (0, 0)) :: vecC 4 1 a_v0 c_v0 x2.length cs213 :: vecC 3 1 a_v1 c_v1 x3.length cs_v1 :: R)) (B := fun w => St w s86 (pt b106 (.cells (MendLink.cells x80).toArray 36 (0, 0)) :: pt pb0 (.cells #[.int .i64 y0.Period, .slice a_y0_1 y0.Plan.length c_y0_1, .slice a_y0_2 y0.Links.length c_y0_2] 25 (0, 0)) :: pt pb4 (.cells #[.func (.func 83) #[] #[.pointer (some ⟨pb0, 0, none⟩), .pointer (some ⟨pb1, 0, none⟩), .pointer (some ⟨pb2, 0, none⟩), .pointer (some ⟨pb3, 0, none⟩), .pointer (some ⟨pb4, 0, none⟩)]] 121 (0, 0)) :: R)) (w := _) (x := true) (y := true) (fun _ => hS) (fun _ => (((((hS.dropAt 2).dropAt 2).dropAt 2).dropAt 3).dropAt 3))
                    have hF := hS; replace hS := (((((hS.dropAt 2).dropAt 2).dropAt 2).dropAt 3).dropAt 3)
                    refine Rg.take (i := 11) false rfl hE rfl (by kernel_rfl) (runs_plain rfl) (Gives.loadB hE 0 rfl rfl rfl ty3) rfl hT ?_; clear hE a; intro a hE
                    replace hS := hF; clear hF hT
                    refine Rg.takeP (i := 12) hE rfl (by kernel_rfl) (runs_plain rfl) (Gives.p hE rfl) rfl (tw_sel (fun _ => hS) (fun _ => (((((hS.dropAt 2).dropAt 2).dropAt 2).dropAt 3).dropAt 3))) ?_; clear hE a; intro a hE
                    refine Rg.takeP (i := 13) hE rfl (by kernel_rfl) (runs_plain rfl) (Gives.p hE rfl) rfl (tw_sel (fun _ => hS) (fun _ => (((((hS.dropAt 2).dropAt 2).dropAt 2).dropAt 3).dropAt 3))) ?_; clear hE a; intro a hE
                    refine Rg.takeP (i := 14) hE rfl (by kernel_rfl) (runs_plain rfl) (Gives.fld hE rfl fl36_3) rfl (tw_sel (fun _ => hS) (fun _ => (((((hS.dropAt 2).dropAt 2).dropAt 2).dropAt 3).dropAt 3))) ?_; clear hE a; intro a hE
                    have hT := tw_sel (A := fun w => St w s86 (pt b106 (.cells (MendLink.cells x80).toArray 36 (0, 0)) :: pt pb0 (.cells #[.int .i64 y0.Period, .slice a_y0_1 y0.Plan.length c_y0_1, .slice a_y0_2 y0.Links.length c_y0_2] 25 (0, 0)) :: pt pb1 (.cells #[.slice a95 q94.length c96] 22 (0, 0)) :: pt pb2 (.cells #[.int .i64 q99] 3 (0, 0)) :: pt pb3 (.cells #[.int .i64 q100] 3 (0, 0)) :: pt pb4 (.cells #[.func (.func 83) #[] #[.pointer (some ⟨pb0, 0, none⟩), .pointer (some ⟨pb1, 0, none⟩), .pointer (some ⟨pb2, 0, none⟩), .pointer (some ⟨pb3, 0, none⟩), .pointer (some ⟨pb4, 0, none⟩)]] 121 (0, 0)) :: vecC 4 1 a_v0 c_v0 x2.length cs213 :: vecC 3 1 a_v1 c_v1 x3.length cs_v1 :: R)) (B := fun w => St w s86 (pt b106 (.cells (MendLink.cells x80).toArray 36 (0, 0)) :: pt pb0 (.cells #[.int .i64 y0.Period, .slice a_y0_1 y0.Plan.length c_y0_1, .slice a_y0_2 y0.Links.length c_y0_2] 25 (0, 0)) :: pt pb4 (.cells #[.func (.func 83) #[] #[.pointer (some ⟨pb0, 0, none⟩), .pointer (some ⟨pb1, 0, none⟩), .pointer (some ⟨pb2, 0, none⟩), .pointer (some ⟨pb3, 0, none⟩), .pointer (some ⟨pb4, 0, none⟩)]] 121 (0, 0)) :: R)) (w := _) (x := true) (y := true) (fun _ => hS) (fun _ => (((((hS.dropAt 2).dropAt 2).dropAt 2).dropAt 3).dropAt 3))
                    have hF := hS; replace hS := (((((hS.dropAt 2).dropAt 2).dropAt 2).dropAt 3).dropAt 3)
                    refine Rg.take (i := 15) false rfl hE rfl (by kernel_rfl) (runs_plain rfl) (Gives.loadB hE 0 rfl rfl rfl ty3) rfl hT ?_; clear hE a; intro a hE
                    replace hS := hF; clear hF hT
                    refine Rg.takeP (i := 16) hE rfl (by kernel_rfl) (runs_plain rfl) (Gives.p hE rfl) rfl (tw_sel (fun _ => hS) (fun _ => (((((hS.dropAt 2).dropAt 2).dropAt 2).dropAt 3).dropAt 3))) ?_; clear hE a; intro a hE
                    refine Rg.one (i := 7) true true rfl (by kernel_rfl) (by kernel_rfl) (by kernel_rfl) ?_
                    refine WL.lit hE hS (e := 3) (es := 1) (vs := [(0, .int .i64 ((k79 : Nat) : Int))]) (cs := [.int .i64 ((k79 : Nat) : Int)]) (runs_plain rfl) rfl (by kernel_rfl) rfl ?_; clear hE hS a w; intro b217 a w hE hS
                    refine WL.nil ?_
                    refine ⟨⟨fun _ => (hS.tail), fun _ => ((((((hS.tail).dropAt 2).dropAt 2).dropAt 2).dropAt 3).dropAt 3)⟩, ?_⟩
                    refine Rg.one (i := 8) false true rfl (by kernel_rfl) (by kernel_rfl) (by kernel_rfl) ?_
                    obtain ⟨x218, hx219, hq187⟩ := bindS hq187
                    refine WL.appB hE hS 7 (m := 1) (runs_plain rfl) rfl rfl rfl ap22 rfl h_v1 (rfl) (xs := [((k79 : Nat) : Int)]) (Ev.cons (c1 := [.int .i64 ((k79 : Nat) : Int)]) rfl rfl (Ev.nil)) rfl rfl hx219 rfl ?_; clear hE hS a w; intro a220 c221 cs222 F224 a w h223 hb225 hE hS
                    refine WL.nil ?_
                    refine ⟨⟨fun h => absurd h (by decide), fun _ => ((((((hS.tail).tail).dropAt 2).dropAt 2).dropAt 2).dropAt 3)⟩, ?_⟩
                    refine Rg.one (i := 17) false true rfl (by kernel_rfl) (by kernel_rfl) (by kernel_rfl) ?_
                    obtain ⟨q227, hq228, hq187⟩ := bindS hq187
                    replace hS := hS.front 0 rfl
                    replace hS := hS.front 8 rfl
                    replace hS := hS.front 8 rfl
                    replace hS := hS.front 8 rfl
                    replace hS := hS.front 8 rfl
                    replace hS := hS.front 8 rfl
                    replace hS := hS.front 8 rfl
                    have hc_ := ih_MendRoundmean_1_v1 (y0 := y0) hS h214 hn215 h223 (rfl) h_y0_1 h_y0_2 h97 hz98 hq228
                    refine WL.fnw hE (hc_) rfl (runs_plain rfl) bd83 rfl rfl rfl ?_
                    clear hE hS hc_; rintro e w ⟨cs229, a232, c233, s236, rfl, hle237, h230, hn231, h234, hz235, hS⟩; refine ⟨_, rfl, ?_⟩; clear a; intro a hE
                    replace h_y0_2 := Sl.mono RMendLink.mono hle237 h_y0_2
                    replace h_y0_1 := Sl.mono RI.mono hle237 h_y0_1
                    replace h97 := Sl.mono RI.mono hle237 h97
                    replace h214 := Ev.mono RB.mono hle237 h214
                    replace h_v1 := Ev.mono RI.mono hle237 h_v1
                    replace h223 := Ev.mono RI.mono hle237 h223
                    replace hS := hS.front 7 rfl
                    replace hS := hS.front 7 rfl
                    replace hS := hb225 _ _ _ hS
                    refine WL.nil ?_
                    refine ⟨⟨fun h => absurd h (by decide), fun _ => (St.down hle237 (St.front (St.front (St.front (((((hS.tail).dropAt 1).dropAt 1).dropAt 1).dropAt 2) 1 rfl) 1 rfl) 2 rfl))⟩, ?_⟩
                    refine Rg.done (by kernel_rfl) ?_
                    subst hK216
                    refine W.region ?_
                    refine WL.vS hS hE (runs_plain rfl) (Gives.p hE rfl) rfl ?_; clear hE a; intro a hE
                    refine WL.vS hS hE (runs_plain rfl) (Gives.fld hE rfl fl36_1) rfl ?_; clear hE a; intro a hE
                    refine WL.vS hS hE (runs_plain rfl) (Gives.loadB hE 7 rfl rfl rfl ty3) rfl ?_; clear hE a; intro a hE
                    obtain ⟨_, hx239, hq187⟩ := bindS hq187
                    obtain ⟨h240, h241⟩ := ix_some hx239
                    refine WL.vS hS hE (runs_plain rfl) (Gives.idx hE ((x80.To).toNat) rfl rfl sl82 h240 (by have := hn231; omega) (hS.vecAok 6 rfl (by have := hn231; omega : (x80.To).toNat < x2.length))) rfl ?_; clear hE a; intro a hE
                    obtain ⟨x243, hx244, hq187⟩ := bindS hq187
                    refine WL.setD hE hS 6 rfl (runs_plain rfl) rfl rfl (vs := [.bool false]) rfl ty4 rfl rfl rfl h230 hn231 (sx_some hx244).1 hx244 rfl rfl ?_; clear hE hS a w; intro cs245 a w h246 hn247 hE hS
                    refine WL.nil ?_
                    replace hS := hS.front 6 rfl
                    replace hS := hS.front 6 rfl
                    replace hS := hS.front 6 rfl
                    replace hS := hS.front 6 rfl
                    replace hS := hS.front 6 rfl
                    replace hS := hS.front 6 rfl
                    replace hS := hS.front 7 rfl
                    subst hK204
                    exact ⟨x243, q227.2.1, q227.2.2.1, q227.2.2.2, cs245, a232, c233, s236, hle237, Option.some.inj hq187, h246, hn247, h234, hz235, hE.pick _ ⟨rfl, rfl, rfl, rfl, rfl, rfl, rfl, rfl, rfl, rfl, rfl, rfl, rfl, trivial⟩, hS⟩
                  · replace hq187 := iteF hc205 hq187
                    refine W.skip ?_
                    subst hK204
                    exact ⟨q88, q94, q99, q100, cs92, a95, c96, s86, (Sg.Le.refl _), Option.some.inj hq187, h91, hn93, h97, hz98, hE.pick _ ⟨rfl, rfl, rfl, rfl, rfl, rfl, rfl, rfl, rfl, rfl, rfl, rfl, rfl, trivial⟩, hS⟩
                · clear hE hS a w; rintro a w ⟨q191, q197, q202, q203, cs195, a198, c199, s189, hle190, rfl, h194, hn196, h200, hz201, hE, hS⟩
                  dsimp only at hq115
                  replace h_y0_2 := Sl.mono RMendLink.mono hle190 h_y0_2
                  replace h_y0_1 := Sl.mono RI.mono hle190 h_y0_1
                  replace h97 := Sl.mono RI.mono hle190 h97
                  replace h91 := Ev.mono RB.mono hle190 h91
                  replace h_v1 := Ev.mono RI.mono hle190 h_v1
                  subst hK132
                  exact ⟨q191, q197, q202, q203, cs195, a198, c199, s189, hle190, Option.some.inj hq115, h194, hn196, h200, hz201, hE.pick _ ⟨rfl, rfl, rfl, rfl, rfl, rfl, rfl, rfl, rfl, rfl, rfl, rfl, rfl, trivial⟩, hS⟩
            · clear hE hS a w; rintro a w ⟨q119, q125, q130, q131, cs123, a126, c127, s117, hle118, rfl, h122, hn124, h128, hz129, hE, hS⟩
              dsimp only at hq77
              replace h_y0_2 := Sl.mono RMendLink.mono hle118 h_y0_2
              replace h_y0_1 := Sl.mono RI.mono hle118 h_y0_1
              replace h97 := Sl.mono RI.mono hle118 h97
              replace h91 := Ev.mono RB.mono hle118 h91
              replace h_v1 := Ev.mono RI.mono hle118 h_v1
              refine W.region ?_
              refine WL.vS hS hE (runs_plain rfl) (Gives.inc hE rfl (by have := h_y0_2.small; omega)) rfl ?_; clear hE a; intro a hE
              refine WL.vS hS hE (runs_plain rfl) (Gives.p hE rfl) rfl ?_; clear hE a; intro a hE
              refine WL.nil ?_
              replace hS := hS.tail
              subst hK101
              exact ⟨rest81.length, Nat.lt_succ_self _, rest81, k79 + 1, q119, q125, q130, q131, cs123, a126, c127, s117, rfl, hd82, (Sg.Le.trans hle87 hle118), hq77, h122, hn124, h128, hz129, hE.pick _ ⟨rfl, rfl, rfl, rfl, rfl, rfl, rfl, rfl, rfl, rfl, rfl, rfl, rfl, trivial⟩, hS⟩
    · clear hE hS a w; rintro a w ⟨q88, q94, q99, q100, cs92, a95, c96, s86, hle87, rfl, h91, hn93, h97, hz98, hE, hS⟩
      dsimp only at hr
      replace h_y0_2 := Sl.mono RMendLink.mono hle87 h_y0_2
      replace h_y0_1 := Sl.mono RI.mono hle87 h_y0_1
      replace h_y1_0 := Sl.mono RI.mono hle87 h_y1_0
      replace h_v0 := Ev.mono RB.mono hle87 h_v0
      replace h_v1 := Ev.mono RI.mono hle87 h_v1
      refine finG (fn := Try.f83) (rs := []) (vs := []) hE rfl trivial ?_
      obtain rfl := Option.some.inj hr
      exact ⟨cs92, a95, c96, s86, rfl, hle87, h91, hn93, h97, hz98, hS⟩
set_option maxHeartbeats 8000000 in
theorem MendRoundmean_ok {fu : Nat}  {w : World} {s : Sg} {R : List HP} {x0 : MendRound} {a0_0 : Option Addr} {c0_0 : Nat} {a0_1 : Option Addr} {c0_1 : Nat} (hS : St w s (R)) (h0_0 : Sl 1 (RI .i64) s a0_0 c0_0 x0.Plan) (h0_1 : Sl 4 RMendLink s a0_1 c0_1 x0.Links) {r : Int × Int × (List Int)} (hr : MendRoundmean fu x0 = some r) :
    Calls Try.prog 49 [.agg [.int .i64 x0.Period, .slice a0_0 x0.Plan.length c0_0, .slice a0_1 x0.Links.length c0_1].toArray].toArray w (fun e w => ∃ (a2 : Option Addr) (c2 : Nat) (t : Sg), e = .returned (.tuple #[.int .i64 r.1, .int .i64 r.2.1, .slice a2 r.2.2.length c2]) ∧ s.Le t ∧ Sl 1 (RI .i64) t a2 c2 r.2.2 ∧ (r.2.2 = [] → a2 = none) ∧ St w t (R)) := by
  refine enter Try.func49 rfl rfl rfl fun a hE => ?_
  rw [MendRoundmean] at hr
  refine W.seq ?_
  refine W.region ?_
  refine WL.box hE hS (runs_plain rfl) rfl rfl rfl ?_; clear hE hS a w; intro b51 a w hE hS
  refine WL.alloc hE hS (runs_plain rfl) zr3 rfl ?_; clear hE hS a w; intro b52 a w hE hS
  refine WL.alloc hE hS (runs_plain rfl) zr3 rfl ?_; clear hE hS a w; intro b53 a w hE hS
  refine WL.alloc hE hS (runs_plain rfl) zr22 rfl ?_; clear hE hS a w; intro b54 a w hE hS
  refine WL.nil ?_
  refine W.seq ?_
  refine W.region ?_
  refine WL.alloc hE hS (runs_plain rfl) zr121 rfl ?_; clear hE hS a w; intro b55 a w hE hS
  refine WL.nil ?_
  refine W.seq ?_
  refine W.region ?_
  refine WL.vS hS hE (runs_plain rfl) (Gives.mkfn hE (vs := [.pointer (some ⟨b51, 0, none⟩), .pointer (some ⟨b54, 0, none⟩), .pointer (some ⟨b53, 0, none⟩), .pointer (some ⟨b52, 0, none⟩), .pointer (some ⟨b55, 0, none⟩)]) rfl) rfl ?_; clear hE a; intro a hE
  refine WL.storeI hE hS 0 rfl [.func (.func 83) #[] #[.pointer (some ⟨b51, 0, none⟩), .pointer (some ⟨b54, 0, none⟩), .pointer (some ⟨b53, 0, none⟩), .pointer (some ⟨b52, 0, none⟩), .pointer (some ⟨b55, 0, none⟩)]] (runs_plain rfl) rfl rfl rfl ty121 rfl rfl rfl rfl ?_; clear hE hS a w; intro a w hE hS
  refine WL.nil ?_
  refine W.seq ?_
  refine W.seq ?_
  refine W.region ?_
  refine WL.vS hS hE (runs_plain rfl) (Gives.fld hE rfl fl25_1) rfl ?_; clear hE a; intro a hE
  refine WL.vS hS hE (runs_plain rfl) (Gives.loadB hE 4 rfl rfl rfl ty22) rfl ?_; clear hE a; intro a hE
  refine WL.vS hS hE (runs_plain rfl) (Gives.len hE rfl sl22) rfl ?_; clear hE a; intro a hE
  refine WL.vS hS hE (runs_plain rfl) (Gives.p hE rfl) rfl ?_; clear hE a; intro a hE
  refine WL.nil ?_
  obtain ⟨q57, hq56, hr⟩ := bindS hr
  refine W.cut (fun a w => ∃ (q67 : Int), ∃ (q68 : Int), ∃ (q69 : List Int), ∃ (a70 : Option Addr), ∃ (c71 : Nat), ∃ (s65 : Sg), s.Le s65 ∧ (q67, q68, q69) = q57 ∧ Sl 1 (RI .i64) s65 a70 c71 q69 ∧ (q69 = [] → a70 = none) ∧ Rep a 28 [(2, .pointer (some ⟨b52, 0, none⟩)), (3, .pointer (some ⟨b53, 0, none⟩)), (4, .pointer (some ⟨b54, 0, none⟩))] ∧ St w s65 (pt b55 (.cells #[.func (.func 83) #[] #[.pointer (some ⟨b51, 0, none⟩), .pointer (some ⟨b54, 0, none⟩), .pointer (some ⟨b53, 0, none⟩), .pointer (some ⟨b52, 0, none⟩), .pointer (some ⟨b55, 0, none⟩)]] 121 (0, 0)) :: pt b54 (.cells #[.slice a70 q69.length c71] 22 (0, 0)) :: pt b53 (.cells #[.int .i64 q68] 3 (0, 0)) :: pt b52 (.cells #[.int .i64 q67] 3 (0, 0)) :: pt b51 (.cells #[.int .i64 x0.Period, .slice a0_0 x0.Plan.length c0_0, .slice a0_1 x0.Links.length c0_1] 25 (0, 0)) :: R)) ?_ ?_
  · refine W.block ?_
    refine W.loop (fun m a w => ∃ (rest60 : List Int) (k58 : Nat), ∃ (q67 : Int), ∃ (q68 : Int), ∃ (q69 : List Int), ∃ (a70 : Option Addr), ∃ (c71 : Nat), ∃ (s65 : Sg), rest60.length = m ∧ x0.Plan.drop k58 = rest60 ∧ s.Le s65 ∧ MendRoundmean.loop1 x0 fu rest60 k58 q67 q68 q69 = some q57 ∧ Sl 1 (RI .i64) s65 a70 c71 q69 ∧ (q69 = [] → a70 = none) ∧ Rep a 28 [(1, .pointer (some ⟨b51, 0, none⟩)), (2, .pointer (some ⟨b52, 0, none⟩)), (3, .pointer (some ⟨b53, 0, none⟩)), (4, .pointer (some ⟨b54, 0, none⟩)), (5, .pointer (some ⟨b55, 0, none⟩)), (11, .int .i64 ((x0.Plan).length : Int)), (12, .int .i64 ((k58 : Nat) : Int))] ∧ St w s65 (pt b55 (.cells #[.func (.func 83) #[] #[.pointer (some ⟨b51, 0, none⟩), .pointer (some ⟨b54, 0, none⟩), .pointer (some ⟨b53, 0, none⟩), .pointer (some ⟨b52, 0, none⟩), .pointer (some ⟨b55, 0, none⟩)]] 121 (0, 0)) :: pt b54 (.cells #[.slice a70 q69.length c71] 22 (0, 0)) :: pt b53 (.cells #[.int .i64 q68] 3 (0, 0)) :: pt b52 (.cells #[.int .i64 q67] 3 (0, 0)) :: pt b51 (.cells #[.int .i64 x0.Period, .slice a0_0 x0.Plan.length c0_0, .slice a0_1 x0.Links.length c0_1] 25 (0, 0)) :: R)) (m := x0.Plan.length) ⟨x0.Plan, 0, 0, 0, [], none, 0, s, rfl, rfl, (Sg.Le.refl _), hq56, Sl.nil, (fun _ => rfl), hE.pick _ ⟨rfl, rfl, rfl, rfl, rfl, rfl, rfl, trivial⟩, hS⟩ ?_
    clear hE hS a w hq56; rintro m64 a w ⟨rest60, k58, q67, q68, q69, a70, c71, s65, rfl, hd61, hle66, hq56, h72, hz73, hE, hS⟩
    refine W.gen fun K74 hK74 => ?_
    replace h0_0 := Sl.mono RI.mono hle66 h0_0
    replace h0_1 := Sl.mono RMendLink.mono hle66 h0_1
    rcases rest60 with _ | ⟨x59, rest60⟩
    · have hlt62 := drop_nil hd61
      refine W.seq ?_
      refine W.region ?_
      refine WL.vS hS hE (runs_plain rfl) (Gives.p hE rfl) rfl ?_; clear hE a; intro a hE
      refine WL.nil ?_
      refine W.seq ?_
      refine W.condF hE rfl (decide_eq_false (by omega)) ?_
      subst hK74
      refine W.exit rfl ?_
      exact ⟨q67, q68, q69, a70, c71, s65, hle66, Option.some.inj hq56, h72, hz73, hE.pick _ ⟨rfl, rfl, rfl, trivial⟩, hS⟩
    · obtain ⟨hlt62, hx63, hd61⟩ := drop_cons hd61
      rw [MendRoundmean.loop1] at hq56
      refine W.seq ?_
      refine W.region ?_
      refine WL.vS hS hE (runs_plain rfl) (Gives.p hE rfl) rfl ?_; clear hE a; intro a hE
      refine WL.nil ?_
      refine W.seq ?_
      refine W.condT hE rfl (decide_eq_true (by omega)) ?_
      refine W.skip ?_
      refine W.seq ?_
      refine W.block ?_
      refine W.seq ?_
      refine W.region ?_
      refine WL.vS hS hE (runs_plain rfl) (Gives.p hE rfl) rfl ?_; clear hE a; intro a hE
      refine WL.vS hS hE (runs_plain rfl) (Gives.p hE rfl) rfl ?_; clear hE a; intro a hE
      refine WL.nil ?_
      refine W.seq ?_
      refine W.region ?_
      refine WL.vS hS hE (runs_plain rfl) (Gives.fld hE rfl fl25_1) rfl ?_; clear hE a; intro a hE
      refine WL.vS hS hE (runs_plain rfl) (Gives.loadB hE 4 rfl rfl rfl ty22) rfl ?_; clear hE a; intro a hE
      refine WL.vS hS hE (runs_plain rfl) (Gives.len hE rfl sl22) rfl ?_; clear hE a; intro a hE
      obtain ⟨x75, hx76, hq56⟩ := bindS hq56
      refine WL.mkD (Rr := RB) hE hS (runs_plain rfl) rfl rfl ap82 zr4 rfl hx76 rfl ?_; clear hE hS a w; intro b77 cs78 a w h79 hE hS
      refine WL.vS hS hE (runs_plain rfl) (Gives.p hE rfl) rfl ?_; clear hE a; intro a hE
      refine WL.nil ?_
      refine W.region ?_
      refine WL.vS hS hE (runs_plain rfl) (Gives.loadB hE 1 rfl rfl rfl ty121) rfl ?_; clear hE a; intro a hE
      refine WL.vS hS hE (runs_plain rfl) (Gives.p hE rfl) rfl ?_; clear hE a; intro a hE
      refine WL.vS hS hE (runs_plain rfl) (Gives.p hE rfl) rfl ?_; clear hE a; intro a hE
      refine WL.vS hS hE (runs_plain rfl) (Gives.p hE rfl) rfl ?_; clear hE a; intro a hE
      replace hS := hS.vecNil 3 1
      obtain ⟨q82, hq83, hq56⟩ := bindS hq56
      replace hS := hS.front 0 rfl
      replace hS := hS.front 1 rfl
      replace hS := hS.front 2 rfl
      replace hS := hS.front 5 rfl
      replace hS := hS.front 5 rfl
      replace hS := hS.front 5 rfl
      replace hS := hS.front 6 rfl
      have hc_ := MendRoundmean_1_v1_ok (y0 := x0) hS h79 (rfl) (Ev.nil) (rfl) h0_0 h0_1 h72 hz73 hq83
      refine WL.fnw hE (hc_) rfl (runs_plain rfl) bd83 rfl rfl rfl ?_
      clear hE hS hc_; rintro e w ⟨cs84, a87, c88, s91, rfl, hle92, h85, hn86, h89, hz90, hS⟩; refine ⟨_, rfl, ?_⟩; clear a; intro a hE
      replace h0_0 := Sl.mono RI.mono hle92 h0_0
      replace h0_1 := Sl.mono RMendLink.mono hle92 h0_1
      replace h72 := Sl.mono RI.mono hle92 h72
      replace h79 := Ev.mono RB.mono hle92 h79
      refine WL.nil ?_
      refine W.region ?_
      refine WL.vS hS hE (runs_plain rfl) (Gives.inc hE rfl (by have := h0_0.small; omega)) rfl ?_; clear hE a; intro a hE
      refine WL.vS hS hE (runs_plain rfl) (Gives.p hE rfl) rfl ?_; clear hE a; intro a hE
      refine WL.nil ?_
      replace hS := hS.dropAt 5
      replace hS := hS.dropAt 5
      replace hS := hS.front 3 rfl
      replace hS := hS.front 3 rfl
      replace hS := hS.front 3 rfl
      replace hS := hS.front 4 rfl
      subst hK74
      exact ⟨rest60.length, Nat.lt_succ_self _, rest60, k58 + 1, q82.2.2.2, q82.2.2.1, q82.2.1, a87, c88, s91, rfl, hd61, (Sg.Le.trans hle66 hle92), hq56, h89, hz90, hE.pick _ ⟨rfl, rfl, rfl, rfl, rfl, rfl, rfl, trivial⟩, hS⟩
  · clear hE hS a w; rintro a w ⟨q67, q68, q69, a70, c71, s65, hle66, rfl, h72, hz73, hE, hS⟩
    dsimp only at hr
    replace h0_0 := Sl.mono RI.mono hle66 h0_0
    replace h0_1 := Sl.mono RMendLink.mono hle66 h0_1
    refine W.seq ?_
    refine W.gen fun K93 hK93 => ?_
    refine W.regionE (sel (fun w => St w s65 (pt b55 (.cells #[.func (.func 83) #[] #[.pointer (some ⟨b51, 0, none⟩), .pointer (some ⟨b54, 0, none⟩), .pointer (some ⟨b53, 0, none⟩), .pointer (some ⟨b52, 0, none⟩), .pointer (some ⟨b55, 0, none⟩)]] 121 (0, 0)) :: pt b54 (.cells #[.slice a70 q69.length c71] 22 (0, 0)) :: pt b53 (.cells #[.int .i64 q68] 3 (0, 0)) :: pt b52 (.cells #[.int .i64 q67] 3 (0, 0)) :: pt b51 (.cells #[.int .i64 x0.Period, .slice a0_0 x0.Plan.length c0_0, .slice a0_1 x0.Links.length c0_1] 25 (0, 0)) :: R)) (fun w => St w s65 (pt b55 (.cells #[.func (.func 83) #[] #[.pointer (some ⟨b51, 0, none⟩), .pointer (some ⟨b54, 0, none⟩), .pointer (some ⟨b53, 0, none⟩), .pointer (some ⟨b52, 0, none⟩), .pointer (some ⟨b55, 0, none⟩)]] 121 (0, 0)) :: pt b51 (.cells #[.int .i64 x0.Period, .slice a0_0 x0.Plan.length c0_0, .slice a0_1 x0.Links.length c0_1] 25 (0, 0)) :: R))) (fun b i => cond b ([0, 1, 2].contains i) ([0, 1, 2, 3, 4, 5].contains i)) mixed ?_
    replace hS := hS.drew
    have hT := tw_sel (A := fun w => St w s65 (pt b55 (.cells #[.func (.func 83) #[] #[.pointer (some ⟨b51, 0, none⟩), .pointer (some ⟨b54, 0, none⟩), .pointer (some ⟨b53, 0, none⟩), .pointer (some ⟨b52, 0, none⟩), .pointer (some ⟨b55, 0, none⟩)]] 121 (0, 0)) :: pt b54 (.cells #[.slice a70 q69.length c71] 22 (0, 0)) :: pt b53 (.cells #[.int .i64 q68] 3 (0, 0)) :: pt b52 (.cells #[.int .i64 q67] 3 (0, 0)) :: pt b51 (.cells #[.int .i64 x0.Period, .slice a0_0 x0.Plan.length c0_0, .slice a0_1 x0.Links.length c0_1] 25 (0, 0)) :: R)) (B := fun w => St w s65 (pt b55 (.cells #[.func (.func 83) #[] #[.pointer (some ⟨b51, 0, none⟩), .pointer (some ⟨b54, 0, none⟩), .pointer (some ⟨b53, 0, none⟩), .pointer (some ⟨b52, 0, none⟩), .pointer (some ⟨b55, 0, none⟩)]] 121 (0, 0)) :: pt b51 (.cells #[.int .i64 x0.Period, .slice a0_0 x0.Plan.length c0_0, .slice a0_1 x0.Links.length c0_1] 25 (0, 0)) :: R)) (w := _) (x := true) (y := true) (fun _ => hS) (fun _ => (((hS.dropAt 1).dropAt 1).dropAt 1))
    have hF := hS; replace hS := hS
    refine Rg.take (i := 0) true rfl hE rfl (by kernel_rfl) (runs_plain rfl) (Gives.loadB hE 3 rfl rfl rfl ty3) rfl hT ?_; clear hE a; intro a hE
    replace hS := hF; clear hF hT
    suffices key : ∀ (a : Act) (w : World), Sl 1 (RI .i64) s65 a70 c71 q69 → (q69 = [] → a70 = none) → Sl 1 (RI .i64) s65 a0_0 c0_0 x0.Plan → Sl 4 RMendLink s65 a0_1 c0_1 x0.Links → Rep a 28 [(2, .pointer (some ⟨b52, 0, none⟩)), (3, .pointer (some ⟨b53, 0, none⟩)), (4, .pointer (some ⟨b54, 0, none⟩))] → St w s65 (pt b55 (.cells #[.func (.func 83) #[] #[.pointer (some ⟨b51, 0, none⟩), .pointer (some ⟨b54, 0, none⟩), .pointer (some ⟨b53, 0, none⟩), .pointer (some ⟨b52, 0, none⟩), .pointer (some ⟨b55, 0, none⟩)]] 121 (0, 0)) :: pt b54 (.cells #[.slice a70 q69.length c71] 22 (0, 0)) :: pt b53 (.cells #[.int .i64 q68] 3 (0, 0)) :: pt b52 (.cells #[.int .i64 q67] 3 (0, 0)) :: pt b51 (.cells #[.int .i64 x0.Period, .slice a0_0 x0.Plan.length c0_0, .slice a0_1 x0.Links.length c0_1] 25 (0, 0)) :: R) → K93.nor a w by
      refine Rg.many 1 [2, 3] (by kernel_rfl) ⟨?_, ?_, ?_, trivial⟩
      · refine Br.mk (i := 1) true true rfl (by kernel_rfl) (by kernel_rfl) ?_
        refine WL.vS hS hE (runs_plain rfl) (Gives.loadB hE 2 rfl rfl rfl ty3) rfl ?_; clear hE a; intro a hE
        refine WL.nil ?_
        refine ⟨⟨fun _ => hS, fun _ => (((hS.dropAt 1).dropAt 1).dropAt 1)⟩, ?_⟩
        refine Rg.many 2 [3] (by kernel_rfl) ⟨?_, ?_, trivial⟩
        · refine Br.mk (i := 2) true true rfl (by kernel_rfl) (by kernel_rfl) ?_
          refine WL.vS hS hE (runs_plain rfl) (Gives.loadB hE 1 rfl rfl rfl ty22) rfl ?_; clear hE a; intro a hE
          refine WL.nil ?_
          refine ⟨⟨fun _ => hS, fun _ => (((hS.dropAt 1).dropAt 1).dropAt 1)⟩, ?_⟩
          refine Rg.one (i := 3) false true rfl (by kernel_rfl) (by kernel_rfl) (by kernel_rfl) ?_
          refine WL.storeI hE hS 3 rfl [.int .i64 q67] (runs_plain rfl) rfl rfl rfl ty3 rfl rfl rfl rfl ?_; clear hE hS a w; intro a w hE hS
          refine WL.nil ?_
          refine ⟨⟨fun h => absurd h (by decide), fun _ => (((hS.dropAt 1).dropAt 1).dropAt 1)⟩, ?_⟩
          refine Rg.one (i := 4) false true rfl (by kernel_rfl) (by kernel_rfl) (by kernel_rfl) ?_
          refine WL.storeI hE hS 2 rfl [.int .i64 q68] (runs_plain rfl) rfl rfl rfl ty3 rfl rfl rfl rfl ?_; clear hE hS a w; intro a w hE hS
          refine WL.nil ?_
          refine ⟨⟨fun h => absurd h (by decide), fun _ => (((hS.dropAt 1).dropAt 1).dropAt 1)⟩, ?_⟩
          refine Rg.one (i := 5) false true rfl (by kernel_rfl) (by kernel_rfl) (by kernel_rfl) ?_
          refine WL.storeI hE hS 1 rfl [.slice a70 q69.length c71] (runs_plain rfl) rfl rfl rfl ty22 rfl rfl rfl rfl ?_; clear hE hS a w; intro a w hE hS
          refine WL.nil ?_
          refine ⟨⟨fun h => absurd h (by decide), fun _ => (((hS.dropAt 1).dropAt 1).dropAt 1)⟩, ?_⟩
          refine Rg.done (by kernel_rfl) ?_
          exact key  _ _ h72 hz73 h0_0 h0_1 (hE.pick _ ⟨rfl, rfl, rfl, trivial⟩) hS
        · refine Br.mk (i := 3) false true rfl (by kernel_rfl) (by kernel_rfl) ?_
          refine WL.storeI hE hS 3 rfl [.int .i64 q67] (runs_plain rfl) rfl rfl rfl ty3 rfl rfl rfl rfl ?_; clear hE hS a w; intro a w hE hS
          refine WL.nil ?_
          refine ⟨⟨fun h => absurd h (by decide), fun _ => (((hS.dropAt 1).dropAt 1).dropAt 1)⟩, ?_⟩
          refine Rg.many 2 [4] (by kernel_rfl) ⟨?_, ?_, trivial⟩
          · refine Br.mk (i := 2) false true rfl (by kernel_rfl) (by kernel_rfl) ?_
            refine WL.vS hS hE (runs_plain rfl) (Gives.loadB hE 1 rfl rfl rfl ty22) rfl ?_; clear hE a; intro a hE
            refine WL.nil ?_
            refine ⟨⟨fun h => absurd h (by decide), fun _ => (((hS.dropAt 1).dropAt 1).dropAt 1)⟩, ?_⟩
            refine Rg.one (i := 4) false true rfl (by kernel_rfl) (by kernel_rfl) (by kernel_rfl) ?_
            refine WL.storeI hE hS 2 rfl [.int .i64 q68] (runs_plain rfl) rfl rfl rfl ty3 rfl rfl rfl rfl ?_; clear hE hS a w; intro a w hE hS
            refine WL.nil ?_
            refine ⟨⟨fun h => absurd h (by decide), fun _ => (((hS.dropAt 1).dropAt 1).dropAt 1)⟩, ?_⟩
            refine Rg.one (i := 5) false true rfl (by kernel_rfl) (by kernel_rfl) (by kernel_rfl) ?_
            refine WL.storeI hE hS 1 rfl [.slice a70 q69.length c71] (runs_plain rfl) rfl rfl rfl ty22 rfl rfl rfl rfl ?_; clear hE hS a w; intro a w hE hS
            refine WL.nil ?_
            refine ⟨⟨fun h => absurd h (by decide), fun _ => (((hS.dropAt 1).dropAt 1).dropAt 1)⟩, ?_⟩
            refine Rg.done (by kernel_rfl) ?_
            exact key  _ _ h72 hz73 h0_0 h0_1 (hE.pick _ ⟨rfl, rfl, rfl, trivial⟩) hS
          · refine Br.mk (i := 4) false true rfl (by kernel_rfl) (by kernel_rfl) ?_
            refine WL.storeI hE hS 2 rfl [.int .i64 q68] (runs_plain rfl) rfl rfl rfl ty3 rfl rfl rfl rfl ?_; clear hE hS a w; intro a w hE hS
            refine WL.nil ?_
            refine ⟨⟨fun h => absurd h (by decide), fun _ => (((hS.dropAt 1).dropAt 1).dropAt 1)⟩, ?_⟩
            refine Rg.one (i := 2) false true rfl (by kernel_rfl) (by kernel_rfl) (by kernel_rfl) ?_
            refine WL.vS hS hE (runs_plain rfl) (Gives.loadB hE 1 rfl rfl rfl ty22) rfl ?_; clear hE a; intro a hE
            refine WL.nil ?_
            refine ⟨⟨fun h => absurd h (by decide), fun _ => (((hS.dropAt 1).dropAt 1).dropAt 1)⟩, ?_⟩
            refine Rg.one (i := 5) false true rfl (by kernel_rfl) (by kernel_rfl) (by kernel_rfl) ?_
            refine WL.storeI hE hS 1 rfl [.slice a70 q69.length c71] (runs_plain rfl) rfl rfl rfl ty22 rfl rfl rfl rfl ?_; clear hE hS a w; intro a w hE hS
            refine WL.nil ?_
            refine ⟨⟨fun h => absurd h (by decide), fun _ => (((hS.dropAt 1).dropAt 1).dropAt 1)⟩, ?_⟩
            refine Rg.done (by kernel_rfl) ?_
            exact key  _ _ h72 hz73 h0_0 h0_1 (hE.pick _ ⟨rfl, rfl, rfl, trivial⟩) hS
      · refine Br.mk (i := 2) true true rfl (by kernel_rfl) (by kernel_rfl) ?_
        refine WL.vS hS hE (runs_plain rfl) (Gives.loadB hE 1 rfl rfl rfl ty22) rfl ?_; clear hE a; intro a hE
        refine WL.nil ?_
        refine ⟨⟨fun _ => hS, fun _ => (((hS.dropAt 1).dropAt 1).dropAt 1)⟩, ?_⟩
        refine Rg.many 1 [3] (by kernel_rfl) ⟨?_, ?_, trivial⟩
        · refine Br.mk (i := 1) true true rfl (by kernel_rfl) (by kernel_rfl) ?_
          refine WL.vS hS hE (runs_plain rfl) (Gives.loadB hE 2 rfl rfl rfl ty3) rfl ?_; clear hE a; intro a hE
          refine WL.nil ?_
          refine ⟨⟨fun _ => hS, fun _ => (((hS.dropAt 1).dropAt 1).dropAt 1)⟩, ?_⟩
          refine Rg.one (i := 3) false true rfl (by kernel_rfl) (by kernel_rfl) (by kernel_rfl) ?_
          refine WL.storeI hE hS 3 rfl [.int .i64 q67] (runs_plain rfl) rfl rfl rfl ty3 rfl rfl rfl rfl ?_; clear hE hS a w; intro a w hE hS
          refine WL.nil ?_
          refine ⟨⟨fun h => absurd h (by decide), fun _ => (((hS.dropAt 1).dropAt 1).dropAt 1)⟩, ?_⟩
          refine Rg.one (i := 4) false true rfl (by kernel_rfl) (by kernel_rfl) (by kernel_rfl) ?_
          refine WL.storeI hE hS 2 rfl [.int .i64 q68] (runs_plain rfl) rfl rfl rfl ty3 rfl rfl rfl rfl ?_; clear hE hS a w; intro a w hE hS
          refine WL.nil ?_
          refine ⟨⟨fun h => absurd h (by decide), fun _ => (((hS.dropAt 1).dropAt 1).dropAt 1)⟩, ?_⟩
          refine Rg.one (i := 5) false true rfl (by kernel_rfl) (by kernel_rfl) (by kernel_rfl) ?_
          refine WL.storeI hE hS 1 rfl [.slice a70 q69.length c71] (runs_plain rfl) rfl rfl rfl ty22 rfl rfl rfl rfl ?_; clear hE hS a w; intro a w hE hS
          refine WL.nil ?_
          refine ⟨⟨fun h => absurd h (by decide), fun _ => (((hS.dropAt 1).dropAt 1).dropAt 1)⟩, ?_⟩
          refine Rg.done (by kernel_rfl) ?_
          exact key  _ _ h72 hz73 h0_0 h0_1 (hE.pick _ ⟨rfl, rfl, rfl, trivial⟩) hS
        · refine Br.mk (i := 3) false true rfl (by kernel_rfl) (by kernel_rfl) ?_
          refine WL.storeI hE hS 3 rfl [.int .i64 q67] (runs_plain rfl) rfl rfl rfl ty3 rfl rfl rfl rfl ?_; clear hE hS a w; intro a w hE hS
          refine WL.nil ?_
          refine ⟨⟨fun h => absurd h (by decide), fun _ => (((hS.dropAt 1).dropAt 1).dropAt 1)⟩, ?_⟩
          refine Rg.one (i := 1) false true rfl (by kernel_rfl) (by kernel_rfl) (by kernel_rfl) ?_
          refine WL.vS hS hE (runs_plain rfl) (Gives.loadB hE 2 rfl rfl rfl ty3) rfl ?_; clear hE a; intro a hE
          refine WL.nil ?_
          refine ⟨⟨fun h => absurd h (by decide), fun _ => (((hS.dropAt 1).dropAt 1).dropAt 1)⟩, ?_⟩
          refine Rg.one (i := 4) false true rfl (by kernel_rfl) (by kernel_rfl) (by kernel_rfl) ?_
          refine WL.storeI hE hS 2 rfl [.int .i64 q68] (runs_plain rfl) rfl rfl rfl ty3 rfl rfl rfl rfl ?_; clear hE hS a w; intro a w hE hS
          refine WL.nil ?_
          refine ⟨⟨fun h => absurd h (by decide), fun _ => (((hS.dropAt 1).dropAt 1).dropAt 1)⟩, ?_⟩
          refine Rg.one (i := 5) false true rfl (by kernel_rfl) (by kernel_rfl) (by kernel_rfl) ?_
          refine WL.storeI hE hS 1 rfl [.slice a70 q69.length c71] (runs_plain rfl) rfl rfl rfl ty22 rfl rfl rfl rfl ?_; clear hE hS a w; intro a w hE hS
          refine WL.nil ?_
          refine ⟨⟨fun h => absurd h (by decide), fun _ => (((hS.dropAt 1).dropAt 1).dropAt 1)⟩, ?_⟩
          refine Rg.done (by kernel_rfl) ?_
          exact key  _ _ h72 hz73 h0_0 h0_1 (hE.pick _ ⟨rfl, rfl, rfl, trivial⟩) hS
      · refine Br.mk (i := 3) false true rfl (by kernel_rfl) (by kernel_rfl) ?_
        refine WL.storeI hE hS 3 rfl [.int .i64 q67] (runs_plain rfl) rfl rfl rfl ty3 rfl rfl rfl rfl ?_; clear hE hS a w; intro a w hE hS
        refine WL.nil ?_
        refine ⟨⟨fun h => absurd h (by decide), fun _ => (((hS.dropAt 1).dropAt 1).dropAt 1)⟩, ?_⟩
        refine Rg.many 1 [2] (by kernel_rfl) ⟨?_, ?_, trivial⟩
        · refine Br.mk (i := 1) false true rfl (by kernel_rfl) (by kernel_rfl) ?_
          refine WL.vS hS hE (runs_plain rfl) (Gives.loadB hE 2 rfl rfl rfl ty3) rfl ?_; clear hE a; intro a hE
          refine WL.nil ?_
          refine ⟨⟨fun h => absurd h (by decide), fun _ => (((hS.dropAt 1).dropAt 1).dropAt 1)⟩, ?_⟩
          refine Rg.many 2 [4] (by kernel_rfl) ⟨?_, ?_, trivial⟩
          · refine Br.mk (i := 2) false true rfl (by kernel_rfl) (by kernel_rfl) ?_
            refine WL.vS hS hE (runs_plain rfl) (Gives.loadB hE 1 rfl rfl rfl ty22) rfl ?_; clear hE a; intro a hE
            refine WL.nil ?_
            refine ⟨⟨fun h => absurd h (by decide), fun _ => (((hS.dropAt 1).dropAt 1).dropAt 1)⟩, ?_⟩
            refine Rg.one (i := 4) false true rfl (by kernel_rfl) (by kernel_rfl) (by kernel_rfl) ?_
            refine WL.storeI hE hS 2 rfl [.int .i64 q68] (runs_plain rfl) rfl rfl rfl ty3 rfl rfl rfl rfl ?_; clear hE hS a w; intro a w hE hS
            refine WL.nil ?_
            refine ⟨⟨fun h => absurd h (by decide), fun _ => (((hS.dropAt 1).dropAt 1).dropAt 1)⟩, ?_⟩
            refine Rg.one (i := 5) false true rfl (by kernel_rfl) (by kernel_rfl) (by kernel_rfl) ?_
            refine WL.storeI hE hS 1 rfl [.slice a70 q69.length c71] (runs_plain rfl) rfl rfl rfl ty22 rfl rfl rfl rfl ?_; clear hE hS a w; intro a w hE hS
            refine WL.nil ?_
            refine ⟨⟨fun h => absurd h (by decide), fun _ => (((hS.dropAt 1).dropAt 1).dropAt 1)⟩, ?_⟩
            refine Rg.done (by kernel_rfl) ?_
            exact key  _ _ h72 hz73 h0_0 h0_1 (hE.pick _ ⟨rfl, rfl, rfl, trivial⟩) hS
          · refine Br.mk (i := 4) false true rfl (by kernel_rfl) (by kernel_rfl) ?_
            refine WL.storeI hE hS 2 rfl [.int .i64 q68] (runs_plain rfl) rfl rfl rfl ty3 rfl rfl rfl rfl ?_; clear hE hS a w; intro a w hE hS
            refine WL.nil ?_
            refine ⟨⟨fun h => absurd h (by decide), fun _ => (((hS.dropAt 1).dropAt 1).dropAt 1)⟩, ?_⟩
            refine Rg.one (i := 2) false true rfl (by kernel_rfl) (by kernel_rfl) (by kernel_rfl) ?_
            refine WL.vS hS hE (runs_plain rfl) (Gives.loadB hE 1 rfl rfl rfl ty22) rfl ?_; clear hE a; intro a hE
            refine WL.nil ?_
            refine ⟨⟨fun h => absurd h (by decide), fun _ => (((hS.dropAt 1).dropAt 1).dropAt 1)⟩, ?_⟩
            refine Rg.one (i := 5) false true rfl (by kernel_rfl) (by kernel_rfl) (by kernel_rfl) ?_
            refine WL.storeI hE hS 1 rfl [.slice a70 q69.length c71] (runs_plain rfl) rfl rfl rfl ty22 rfl rfl rfl rfl ?_; clear hE hS a w; intro a w hE hS
            refine WL.nil ?_
            refine ⟨⟨fun h => absurd h (by decide), fun _ => (((hS.dropAt 1).dropAt 1).dropAt 1)⟩, ?_⟩
            refine Rg.done (by kernel_rfl) ?_
            exact key  _ _ h72 hz73 h0_0 h0_1 (hE.pick _ ⟨rfl, rfl, rfl, trivial⟩) hS
        · refine Br.mk (i := 2) false true rfl (by kernel_rfl) (by kernel_rfl) ?_
          refine WL.vS hS hE (runs_plain rfl) (Gives.loadB hE 1 rfl rfl rfl ty22) rfl ?_; clear hE a; intro a hE
          refine WL.nil ?_
          refine ⟨⟨fun h => absurd h (by decide), fun _ => (((hS.dropAt 1).dropAt 1).dropAt 1)⟩, ?_⟩
          refine Rg.one (i := 1) false true rfl (by kernel_rfl) (by kernel_rfl) (by kernel_rfl) ?_
          refine WL.vS hS hE (runs_plain rfl) (Gives.loadB hE 2 rfl rfl rfl ty3) rfl ?_; clear hE a; intro a hE
          refine WL.nil ?_
          refine ⟨⟨fun h => absurd h (by decide), fun _ => (((hS.dropAt 1).dropAt 1).dropAt 1)⟩, ?_⟩
          refine Rg.one (i := 4) false true rfl (by kernel_rfl) (by kernel_rfl) (by kernel_rfl) ?_
          refine WL.storeI hE hS 2 rfl [.int .i64 q68] (runs_plain rfl) rfl rfl rfl ty3 rfl rfl rfl rfl ?_; clear hE hS a w; intro a w hE hS
          refine WL.nil ?_
          refine ⟨⟨fun h => absurd h (by decide), fun _ => (((hS.dropAt 1).dropAt 1).dropAt 1)⟩, ?_⟩
          refine Rg.one (i := 5) false true rfl (by kernel_rfl) (by kernel_rfl) (by kernel_rfl) ?_
          refine WL.storeI hE hS 1 rfl [.slice a70 q69.length c71] (runs_plain rfl) rfl rfl rfl ty22 rfl rfl rfl rfl ?_; clear hE hS a w; intro a w hE hS
          refine WL.nil ?_
          refine ⟨⟨fun h => absurd h (by decide), fun _ => (((hS.dropAt 1).dropAt 1).dropAt 1)⟩, ?_⟩
          refine Rg.done (by kernel_rfl) ?_
          exact key  _ _ h72 hz73 h0_0 h0_1 (hE.pick _ ⟨rfl, rfl, rfl, trivial⟩) hS
    clear hE hS a w; intro a w h72 hz73 h0_0 h0_1 hE hS
    subst hK93
    refine W.ret ?_
    refine finG (fn := Try.f49) (rs := [.cell 2 3, .cell 3 3, .cell 4 22]) (vs := [_, _, _]) hE rfl ⟨⟨_, rfl, .inr ⟨hS.seesAt 3 rfl, ty3⟩⟩, ⟨_, rfl, .inr ⟨hS.seesAt 2 rfl, ty3⟩⟩, ⟨_, rfl, .inr ⟨hS.seesAt 1 rfl, ty22⟩⟩, trivial⟩ ?_
    obtain rfl := Option.some.inj hr
    replace hS := hS.tail
    replace hS := hS.tail
    replace hS := hS.tail
    replace hS := hS.tail
    replace hS := hS.tail
    exact ⟨a70, c71, s65, rfl, hle66, h72, hz73, hS⟩
set_option maxHeartbeats 8000000 in
theorem MendRoundstable_ok {fu : Nat}  {w : World} {s : Sg} {R : List HP} {x0 : MendRound} {a0_0 : Option Addr} {c0_0 : Nat} {a0_1 : Option Addr} {c0_1 : Nat} (hS : St w s (R)) (h0_0 : Sl 1 (RI .i64) s a0_0 c0_0 x0.Plan) (h0_1 : Sl 4 RMendLink s a0_1 c0_1 x0.Links) {r : Bool} (hr : MendRoundstable fu x0 = some r) :
    Calls Try.prog 50 [.agg [.int .i64 x0.Period, .slice a0_0 x0.Plan.length c0_0, .slice a0_1 x0.Links.length c0_1].toArray].toArray w (fun e w => e = .returned (.bool r) ∧ St w s (R)) := by
  refine enter Try.func50 rfl rfl rfl fun a hE => ?_
  rw [MendRoundstable] at hr
  refine W.seq ?_
  refine W.region ?_
  refine WL.box hE hS (runs_plain rfl) rfl rfl rfl ?_; clear hE hS a w; intro b51 a w hE hS
  refine WL.vS hS hE (runs_plain rfl) (Gives.p hE rfl) rfl ?_; clear hE a; intro a hE
  refine WL.nil ?_
  refine W.seq ?_
  refine W.region ?_
  refine WL.vS hS hE (runs_plain rfl) (Gives.loadBA hE 0 rfl rfl ty25) rfl ?_; clear hE a; intro a hE
  obtain ⟨q52, hq53, hr⟩ := bindS hr
  have hc_ := MendRoundmean_ok hS h0_0 h0_1 hq53
  refine WL.fnq hE (hc_) (runs_plain rfl) bd49 rfl rfl rfl ?_
  clear hE hS hc_; rintro e w ⟨a54, c55, s58, rfl, hle59, h56, hz57, hS⟩; refine ⟨_, rfl, ?_⟩; clear a; intro a hE
  replace h0_0 := Sl.mono RI.mono hle59 h0_0
  replace h0_1 := Sl.mono RMendLink.mono hle59 h0_1
  refine WL.vS hS hE (runs_plain rfl) (Gives.p hE rfl) rfl ?_; clear hE a; intro a hE
  refine WL.vS hS hE (runs_plain rfl) (Gives.p hE rfl) rfl ?_; clear hE a; intro a hE
  refine WL.vS hS hE (runs_plain rfl) (Gives.p hE rfl) rfl ?_; clear hE a; intro a hE
  refine WL.vS hS hE (runs_plain rfl) (Gives.p hE rfl) rfl ?_; clear hE a; intro a hE
  refine WL.vS hS hE (runs_plain rfl) (Gives.p hE rfl) rfl ?_; clear hE a; intro a hE
  refine WL.vS hS hE (runs_plain rfl) (Gives.p hE rfl) rfl ?_; clear hE a; intro a hE
  refine WL.vS hS hE (runs_plain rfl) (Gives.p hE rfl) rfl ?_; clear hE a; intro a hE
  refine WL.nil ?_
  refine W.seq ?_
  obtain ⟨q61, hq60, hr⟩ := bndS hr
  refine W.cut (fun a w => ∃ (q64 : Bool), q64 = q61 ∧ Rep a 22 [(2, .bool q64)] ∧ St w s58 (pt b51 (.cells #[.int .i64 x0.Period, .slice a0_0 x0.Plan.length c0_0, .slice a0_1 x0.Links.length c0_1] 25 (0, 0)) :: R)) ?_ ?_
  · refine W.gen fun K65 hK65 => ?_
    refine W.region ?_
    refine WL.vS hS hE (runs_plain rfl) (Gives.p hE rfl) rfl ?_; clear hE a; intro a hE
    refine WL.vS hS hE (runs_plain rfl) (Gives.isNilZ hE (isNone_eq h56 hz57) rfl rfl isl22) rfl ?_; clear hE a; intro a hE
    refine WL.vS hS hE (runs_plain rfl) (Gives.p hE rfl) rfl ?_; clear hE a; intro a hE
    rcases Bool.eq_false_or_eq_true q52.2.2.isEmpty with hg66 | hg66
    · replace hq60 := iteT hg66 hq60
      refine WL.no hE (runs_not hE rfl rfl rfl (by rw [hg66]; decide)) rfl ?_; clear hE a; intro a hE
      refine WL.no hE (runs_not hE rfl rfl rfl (by rw [hg66]; decide)) rfl ?_; clear hE a; intro a hE
      refine WL.no hE (runs_not hE rfl rfl rfl (by rw [hg66]; decide)) rfl ?_; clear hE a; intro a hE
      refine WL.no hE (runs_not hE rfl rfl rfl (by rw [hg66]; decide)) rfl ?_; clear hE a; intro a hE
      refine WL.no hE (runs_not hE rfl rfl rfl (by rw [hg66]; decide)) rfl ?_; clear hE a; intro a hE
      refine WL.no hE (runs_not hE rfl rfl rfl (by rw [hg66]; decide)) rfl ?_; clear hE a; intro a hE
      refine WL.vS hS hE (runs_plain rfl) (Gives.pickT hE rfl hg66 rfl) rfl ?_; clear hE a; intro a hE
      refine WL.vS hS hE (runs_plain rfl) (Gives.p hE rfl) rfl ?_; clear hE a; intro a hE
      refine WL.nil ?_
      subst hK65
      exact ⟨true, hq60, hE.pick _ ⟨rfl, trivial⟩, hS⟩
    · replace hq60 := iteF hg66 hq60
      refine WL.vS hS hE (runs_if hE rfl rfl rfl hg66) (Gives.p hE rfl) rfl ?_; clear hE a; intro a hE
      refine WL.vS hS hE (runs_if hE rfl rfl rfl hg66) (Gives.p hE rfl) rfl ?_; clear hE a; intro a hE
      refine WL.vS hS hE (runs_if hE rfl rfl rfl hg66) (Gives.fld hE rfl fl25_0) rfl ?_; clear hE a; intro a hE
      refine WL.vS hS hE (runs_if hE rfl rfl rfl hg66) (Gives.loadB hE 0 rfl rfl rfl ty3) rfl ?_; clear hE a; intro a hE
      refine WL.vS hS hE (runs_if hE rfl rfl rfl hg66) (Gives.p hE rfl) rfl ?_; clear hE a; intro a hE
      refine WL.vS hS hE (runs_if hE rfl rfl rfl hg66) (Gives.p hE rfl) rfl ?_; clear hE a; intro a hE
      refine WL.vS hS hE (runs_plain rfl) (Gives.pickF hE rfl hg66 rfl) rfl ?_; clear hE a; intro a hE
      refine WL.vS hS hE (runs_plain rfl) (Gives.p hE rfl) rfl ?_; clear hE a; intro a hE
      refine WL.nil ?_
      subst hK65
      exact ⟨decide (q52.1 < (w64 (q52.2.1 * x0.Period))), hq60, hE.pick _ ⟨rfl, trivial⟩, hS⟩
  · clear hE hS a w; rintro a w ⟨q64, rfl, hE, hS⟩
    refine W.ret ?_
    refine finG (fn := Try.f50) (rs := [.tmp 2]) (vs := [_]) hE rfl ⟨rfl, trivial⟩ ?_
    obtain rfl := Option.some.inj hr
    replace hS := hS.tail
    exact ⟨rfl, (hS.down hle59)⟩
set_option maxHeartbeats 8000000 in
theorem MathBitsMul64_ok  {w : World} {s : Sg} {R : List HP} {x0 : Int} {x1 : Int} (hS : St w s (R))  {r : Int × Int} (hr : MathBitsMul64 x0 x1 = r) :
    Calls Try.prog 93 [.int .u64 x0, .int .u64 x1].toArray w (fun e w => e = .returned (.tuple #[.int .u64 r.1, .int .u64 r.2]) ∧ St w s (R)) := by
  refine enter Try.func93 rfl rfl rfl fun a hE => ?_
  rw [MathBitsMul64] at hr
  refine W.seq ?_
  refine W.region ?_
  refine WL.vS hS hE (runs_plain rfl) (Gives.p hE rfl) rfl ?_; clear hE a; intro a hE
  refine WL.vS hS hE (runs_plain rfl) (Gives.p hE rfl) rfl ?_; clear hE a; intro a hE
  refine WL.nil ?_
  refine W.seq ?_
  refine W.region ?_
  refine WL.vS hS hE (runs_plain rfl) (Gives.p hE rfl) rfl ?_; clear hE a; intro a hE
  refine WL.vS hS hE (runs_plain rfl) (Gives.p hE rfl) rfl ?_; clear hE a; intro a hE
  refine WL.vS hS hE (runs_plain rfl) (Gives.p hE rfl) rfl ?_; clear hE a; intro a hE
  refine WL.nil ?_
  refine W.seq ?_
  refine W.region ?_
  refine WL.vS hS hE (runs_plain rfl) (Gives.p hE rfl) rfl ?_; clear hE a; intro a hE
  refine WL.vS hS hE (runs_plain rfl) (Gives.shr hE rfl rfl (by decide)) rfl ?_; clear hE a; intro a hE
  refine WL.vS hS hE (runs_plain rfl) (Gives.p hE rfl) rfl ?_; clear hE a; intro a hE
  refine WL.nil ?_
  refine W.seq ?_
  refine W.region ?_
  refine WL.vS hS hE (runs_plain rfl) (Gives.p hE rfl) rfl ?_; clear hE a; intro a hE
  refine WL.vS hS hE (runs_plain rfl) (Gives.p hE rfl) rfl ?_; clear hE a; intro a hE
  refine WL.vS hS hE (runs_plain rfl) (Gives.p hE rfl) rfl ?_; clear hE a; intro a hE
  refine WL.nil ?_
  refine W.seq ?_
  refine W.region ?_
  refine WL.vS hS hE (runs_plain rfl) (Gives.p hE rfl) rfl ?_; clear hE a; intro a hE
  refine WL.vS hS hE (runs_plain rfl) (Gives.shr hE rfl rfl (by decide)) rfl ?_; clear hE a; intro a hE
  refine WL.vS hS hE (runs_plain rfl) (Gives.p hE rfl) rfl ?_; clear hE a; intro a hE
  refine WL.nil ?_
  refine W.seq ?_
  refine W.region ?_
  refine WL.vS hS hE (runs_plain rfl) (Gives.p hE rfl) rfl ?_; clear hE a; intro a hE
  refine WL.vS hS hE (runs_plain rfl) (Gives.p hE rfl) rfl ?_; clear hE a; intro a hE
  refine WL.vS hS hE (runs_plain rfl) (Gives.p hE rfl) rfl ?_; clear hE a; intro a hE
  refine WL.vS hS hE (runs_plain rfl) (Gives.p hE rfl) rfl ?_; clear hE a; intro a hE
  refine WL.nil ?_
  refine W.seq ?_
  refine W.region ?_
  refine WL.vS hS hE (runs_plain rfl) (Gives.p hE rfl) rfl ?_; clear hE a; intro a hE
  refine WL.vS hS hE (runs_plain rfl) (Gives.p hE rfl) rfl ?_; clear hE a; intro a hE
  refine WL.vS hS hE (runs_plain rfl) (Gives.p hE rfl) rfl ?_; clear hE a; intro a hE
  refine WL.vS hS hE (runs_plain rfl) (Gives.p hE rfl) rfl ?_; clear hE a; intro a hE
  refine WL.vS hS hE (runs_plain rfl) (Gives.shr hE rfl rfl (by decide)) rfl ?_; clear hE a; intro a hE
  refine WL.vS hS hE (runs_plain rfl) (Gives.p hE rfl) rfl ?_; clear hE a; intro a hE
  refine WL.vS hS hE (runs_plain rfl) (Gives.p hE rfl) rfl ?_; clear hE a; intro a hE
  refine WL.nil ?_
  refine W.seq ?_
  refine W.region ?_
  refine WL.vS hS hE (runs_plain rfl) (Gives.p hE rfl) rfl ?_; clear hE a; intro a hE
  refine WL.vS hS hE (runs_plain rfl) (Gives.p hE rfl) rfl ?_; clear hE a; intro a hE
  refine WL.vS hS hE (runs_plain rfl) (Gives.p hE rfl) rfl ?_; clear hE a; intro a hE
  refine WL.nil ?_
  refine W.seq ?_
  refine W.region ?_
  refine WL.vS hS hE (runs_plain rfl) (Gives.p hE rfl) rfl ?_; clear hE a; intro a hE
  refine WL.vS hS hE (runs_plain rfl) (Gives.shr hE rfl rfl (by decide)) rfl ?_; clear hE a; intro a hE
  refine WL.vS hS hE (runs_plain rfl) (Gives.p hE rfl) rfl ?_; clear hE a; intro a hE
  refine WL.nil ?_
  refine W.seq ?_
  refine W.region ?_
  refine WL.vS hS hE (runs_plain rfl) (Gives.p hE rfl) rfl ?_; clear hE a; intro a hE
  refine WL.vS hS hE (runs_plain rfl) (Gives.p hE rfl) rfl ?_; clear hE a; intro a hE
  refine WL.vS hS hE (runs_plain rfl) (Gives.p hE rfl) rfl ?_; clear hE a; intro a hE
  refine WL.vS hS hE (runs_plain rfl) (Gives.p hE rfl) rfl ?_; clear hE a; intro a hE
  refine WL.vS hS hE (runs_plain rfl) (Gives.p hE rfl) rfl ?_; clear hE a; intro a hE
  refine WL.vS hS hE (runs_plain rfl) (Gives.p hE rfl) rfl ?_; clear hE a; intro a hE
  refine WL.nil ?_
  refine W.seq ?_
  refine W.region ?_
  refine WL.vS hS hE (runs_plain rfl) (Gives.p hE rfl) rfl ?_; clear hE a; intro a hE
  refine WL.vS hS hE (runs_plain rfl) (Gives.p hE rfl) rfl ?_; clear hE a; intro a hE
  refine WL.vS hS hE (runs_plain rfl) (Gives.p hE rfl) rfl ?_; clear hE a; intro a hE
  refine WL.vS hS hE (runs_plain rfl) (Gives.p hE rfl) rfl ?_; clear hE a; intro a hE
  refine WL.vS hS hE (runs_plain rfl) (Gives.p hE rfl) rfl ?_; clear hE a; intro a hE
  refine WL.vS hS hE (runs_plain rfl) (Gives.p hE rfl) rfl ?_; clear hE a; intro a hE
  refine WL.vS hS hE (runs_plain rfl) (Gives.shr hE rfl rfl (by decide)) rfl ?_; clear hE a; intro a hE
  refine WL.vS hS hE (runs_plain rfl) (Gives.p hE rfl) rfl ?_; clear hE a; intro a hE
  refine WL.vS hS hE (runs_plain rfl) (Gives.p hE rfl) rfl ?_; clear hE a; intro a hE
  refine WL.nil ?_
  refine W.seq ?_
  refine W.region ?_
  refine WL.vS hS hE (runs_plain rfl) (Gives.p hE rfl) rfl ?_; clear hE a; intro a hE
  refine WL.vS hS hE (runs_plain rfl) (Gives.p hE rfl) rfl ?_; clear hE a; intro a hE
  refine WL.vS hS hE (runs_plain rfl) (Gives.p hE rfl) rfl ?_; clear hE a; intro a hE
  refine WL.vS hS hE (runs_plain rfl) (Gives.p hE rfl) rfl ?_; clear hE a; intro a hE
  refine WL.nil ?_
  refine W.ret ?_
  refine finG (fn := Try.f93) (rs := [.tmp 4, .tmp 5]) (vs := [_, _]) hE rfl ⟨rfl, rfl, trivial⟩ ?_
  subst hr
  exact ⟨rfl, hS⟩
set_option maxHeartbeats 8000000 in
theorem MathBitsMul_ok  {w : World} {s : Sg} {R : List HP} {x0 : Int} {x1 : Int} (hS : St w s (R))  {r : Int × Int} (hr : MathBitsMul x0 x1 = r) :
    Calls Try.prog 85 [.int .u64 x0, .int .u64 x1].toArray w (fun e w => e = .returned (.tuple #[.int .u64 r.1, .int .u64 r.2]) ∧ St w s (R)) := by
  refine enter Try.func85 rfl rfl rfl fun a hE => ?_
  rw [MathBitsMul] at hr
  refine W.seq ?_
  refine W.region ?_
  refine WL.vS hS hE (runs_plain rfl) (Gives.p hE rfl) rfl ?_; clear hE a; intro a hE
  refine WL.vS hS hE (runs_plain rfl) (Gives.p hE rfl) rfl ?_; clear hE a; intro a hE
  refine WL.nil ?_
  refine W.seq ?_
  refine W.condF hE rfl rfl ?_
  refine W.skip ?_
  refine W.seq ?_
  refine W.region ?_
  refine WL.vS hS hE (runs_plain rfl) (Gives.p hE rfl) rfl ?_; clear hE a; intro a hE
  refine WL.vS hS hE (runs_plain rfl) (Gives.p hE rfl) rfl ?_; clear hE a; intro a hE
  obtain ⟨q51, hq52, hr⟩ := bndS hr
  have hc_ := MathBitsMul64_ok hS  hq52
  refine WL.fnq hE (hc_) (runs_plain rfl) bd93 rfl rfl rfl ?_
  clear hE hS hc_; rintro e w ⟨rfl, hS⟩; refine ⟨_, rfl, ?_⟩; clear a; intro a hE
  refine WL.vS hS hE (runs_plain rfl) (Gives.p hE rfl) rfl ?_; clear hE a; intro a hE
  refine WL.vS hS hE (runs_plain rfl) (Gives.p hE rfl) rfl ?_; clear hE a; intro a hE
  refine WL.vS hS hE (runs_plain rfl) (Gives.p hE rfl) rfl ?_; clear hE a; intro a hE
  refine WL.vS hS hE (runs_plain rfl) (Gives.p hE rfl) rfl ?_; clear hE a; intro a hE
  refine WL.vS hS hE (runs_plain rfl) (Gives.p hE rfl) rfl ?_; clear hE a; intro a hE
  refine WL.nil ?_
  refine W.seq ?_
  refine W.region ?_
  refine WL.vS hS hE (runs_plain rfl) (Gives.p hE rfl) rfl ?_; clear hE a; intro a hE
  refine WL.vS hS hE (runs_plain rfl) (Gives.p hE rfl) rfl ?_; clear hE a; intro a hE
  refine WL.vS hS hE (runs_plain rfl) (Gives.p hE rfl) rfl ?_; clear hE a; intro a hE
  refine WL.vS hS hE (runs_plain rfl) (Gives.p hE rfl) rfl ?_; clear hE a; intro a hE
  refine WL.nil ?_
  refine W.ret ?_
  refine finG (fn := Try.f85) (rs := [.tmp 4, .tmp 5]) (vs := [_, _]) hE rfl ⟨rfl, rfl, trivial⟩ ?_
  subst hr
  exact ⟨rfl, hS⟩
set_option maxHeartbeats 8000000 in
theorem SlicesRepeatLint_ok {fu : Nat}  {w : World} {s : Sg} {R : List HP} {x0 : List Int} {a0 : Option Addr} {c0 : Nat} {x1 : Int} (hS : St w s (R)) (h0 : Sl 1 (RI .i64) s a0 c0 x0) {r : (List Int)} (hr : SlicesRepeatLint fu x0 x1 = some r) :
    Calls Try.prog 57 [.slice a0 x0.length c0, .int .i64 x1].toArray w (fun e w => ∃ (a0 : Option Addr) (c0 n0 : Nat) (cs0 : List Value), e = .returned (.slice a0 n0 c0) ∧ Ev 1 (RI .i64) s cs0 r ∧ r.length = n0 ∧ St w s (vecC 3 1 a0 c0 n0 cs0 :: R)) := by
  refine enter Try.func57 rfl rfl rfl fun a hE => ?_
  rw [SlicesRepeatLint] at hr
  refine W.seq ?_
  refine W.region ?_
  refine WL.vS hS hE (runs_plain rfl) (Gives.p hE rfl) rfl ?_; clear hE a; intro a hE
  refine WL.nil ?_
  refine W.seq ?_
  refine W.seq ?_
  refine W.region ?_
  refine WL.vS hS hE (runs_plain rfl) (Gives.p hE rfl) rfl ?_; clear hE a; intro a hE
  refine WL.vS hS hE (runs_plain rfl) (Gives.p hE rfl) rfl ?_; clear hE a; intro a hE
  refine WL.nil ?_
  refine W.cond hE rfl (fun hc51 => ?_) (fun hc51 => ?_)
  · replace hr := iteT hc51 hr
    refine W.region ?_
    exact absurd hr (by simp)
  · replace hr := iteF hc51 hr
    refine W.skip ?_
    refine W.seq ?_
    refine W.region ?_
    refine WL.vS hS hE (runs_plain rfl) (Gives.p hE rfl) rfl ?_; clear hE a; intro a hE
    refine WL.vS hS hE (runs_plain rfl) (Gives.len hE rfl sl22) rfl ?_; clear hE a; intro a hE
    refine WL.vS hS hE (runs_plain rfl) (Gives.conv hE rfl hu3 ui123) rfl ?_; clear hE a; intro a hE
    refine WL.vS hS hE (runs_plain rfl) (Gives.p hE rfl) rfl ?_; clear hE a; intro a hE
    refine WL.vS hS hE (runs_plain rfl) (Gives.conv hE rfl hu3 ui123) rfl ?_; clear hE a; intro a hE
    obtain ⟨q52, hq53, hr⟩ := bndS hr
    have hc_ := MathBitsMul_ok hS  hq53
    refine WL.fnq hE (hc_) (runs_plain rfl) bd85 rfl rfl rfl ?_
    clear hE hS hc_; rintro e w ⟨rfl, hS⟩; refine ⟨_, rfl, ?_⟩; clear a; intro a hE
    refine WL.vS hS hE (runs_plain rfl) (Gives.p hE rfl) rfl ?_; clear hE a; intro a hE
    refine WL.vS hS hE (runs_plain rfl) (Gives.p hE rfl) rfl ?_; clear hE a; intro a hE
    refine WL.vS hS hE (runs_plain rfl) (Gives.p hE rfl) rfl ?_; clear hE a; intro a hE
    refine WL.vS hS hE (runs_plain rfl) (Gives.p hE rfl) rfl ?_; clear hE a; intro a hE
    refine WL.vS hS hE (runs_plain rfl) (Gives.p hE rfl) rfl ?_; clear hE a; intro a hE
    refine WL.nil ?_
    refine W.seq ?_
    refine W.seq ?_
    obtain ⟨q55, hq54, hr⟩ := bndS hr
    refine W.cut (fun a w => ∃ (q58 : Bool), q58 = q55 ∧ Rep a 48 [(0, .slice a0 x0.length c0), (6, .int .u64 q52.2), (26, .bool q58)] ∧ St w s (R)) ?_ ?_
    · refine W.gen fun K59 hK59 => ?_
      refine W.region ?_
      refine WL.vS hS hE (runs_plain rfl) (Gives.p hE rfl) rfl ?_; clear hE a; intro a hE
      refine WL.vS hS hE (runs_plain rfl) (Gives.p hE rfl) rfl ?_; clear hE a; intro a hE
      refine WL.vS hS hE (runs_plain rfl) (Gives.p hE rfl) rfl ?_; clear hE a; intro a hE
      rcases Bool.eq_false_or_eq_true (decide (q52.1 > 0)) with hg60 | hg60
      · replace hq54 := iteT hg60 hq54
        refine WL.no hE (runs_not hE rfl rfl rfl (by rw [hg60]; decide)) rfl ?_; clear hE a; intro a hE
        refine WL.no hE (runs_not hE rfl rfl rfl (by rw [hg60]; decide)) rfl ?_; clear hE a; intro a hE
        refine WL.vS hS hE (runs_plain rfl) (Gives.pickT hE rfl hg60 rfl) rfl ?_; clear hE a; intro a hE
        refine WL.nil ?_
        subst hK59
        exact ⟨true, hq54, hE.pick _ ⟨rfl, rfl, rfl, trivial⟩, hS⟩
      · replace hq54 := iteF hg60 hq54
        refine WL.vS hS hE (runs_if hE rfl rfl rfl hg60) (Gives.p hE rfl) rfl ?_; clear hE a; intro a hE
        refine WL.vS hS hE (runs_if hE rfl rfl rfl hg60) (Gives.p hE rfl) rfl ?_; clear hE a; intro a hE
        refine WL.vS hS hE (runs_plain rfl) (Gives.pickF hE rfl hg60 rfl) rfl ?_; clear hE a; intro a hE
        refine WL.nil ?_
        subst hK59
        exact ⟨decide (q52.2 > 9223372036854775807), hq54, hE.pick _ ⟨rfl, rfl, rfl, trivial⟩, hS⟩
    · clear hE hS a w; rintro a w ⟨q58, rfl, hE, hS⟩
      refine W.cond hE rfl (fun hc61 => ?_) (fun hc61 => ?_)
      · replace hr := iteT hc61 hr
        refine W.region ?_
        exact absurd hr (by simp)
      · replace hr := iteF hc61 hr
        refine W.skip ?_
        refine W.seq ?_
        refine W.region ?_
        refine WL.vS hS hE (runs_plain rfl) (Gives.p hE rfl) rfl ?_; clear hE a; intro a hE
        refine WL.vS hS hE (runs_plain rfl) (Gives.conv hE rfl hu123 ui3) rfl ?_; clear hE a; intro a hE
        obtain ⟨x62, hx63, hr⟩ := bindS hr
        refine WL.mkD (Rr := RI .i64) hE hS (runs_plain rfl) rfl rfl ap22 zr3 rfl hx63 rfl ?_; clear hE hS a w; intro b64 cs65 a w h66 hE hS
        refine WL.vS hS hE (runs_plain rfl) (Gives.p hE rfl) rfl ?_; clear hE a; intro a hE
        refine WL.nil ?_
        refine W.seq ?_
        refine W.region ?_
        refine WL.vS hS hE (runs_plain rfl) (Gives.p hE rfl) rfl ?_; clear hE a; intro a hE
        refine WL.vS hS hE (runs_plain rfl) (Gives.p hE rfl) rfl ?_; clear hE a; intro a hE
        obtain ⟨x68, hx69, hr⟩ := bndS hr
        refine WL.cpS hE hS 0 (runs_plain rfl) cp22 (by rw [sliced_zero]; rfl) rfl rfl (Nat.zero_le _) (Nat.le_refl _) h66 rfl RI.one h0 rfl rfl ?_; clear hE hS a w; intro cs70 a w h71 hE hS
        have hn72 : x68.length = x62.length := by rw [← hx69, cpl_length (Nat.zero_le _) (by omega)]; try rfl
        rw [hx69] at h71
        refine WL.vS hS hE (runs_plain rfl) (Gives.p hE rfl) rfl ?_; clear hE a; intro a hE
        refine WL.nil ?_
        refine W.seq ?_
        obtain ⟨q74, hq73, hr⟩ := bindS hr
        refine W.cut (fun a w => ∃ (q79 : Int), ∃ (q80 : List Int), ∃ (cs84 : List Value), (q79, q80) = q74 ∧ Ev 1 (RI .i64) s cs84 q80 ∧ q80.length = x62.length ∧ Rep a 48 [(7, .slice (some ⟨b64, 0, none⟩) x62.length x62.length)] ∧ St w s (vecC 3 1 (some ⟨b64, 0, none⟩) x62.length x62.length cs84 :: R)) ?_ ?_
        · refine W.block ?_
          refine W.loop (fun m a w => ∃ (n75 : Nat), ∃ (q79 : Int), ∃ (q80 : List Int), ∃ (cs84 : List Value), n75 = m ∧ SlicesRepeatLint.loop1 x62 n75 q79 q80 = some q74 ∧ Ev 1 (RI .i64) s cs84 q80 ∧ q80.length = x62.length ∧ Rep a 48 [(7, .slice (some ⟨b64, 0, none⟩) x62.length x62.length), (8, .int .i64 q79)] ∧ St w s (vecC 3 1 (some ⟨b64, 0, none⟩) x62.length x62.length cs84 :: R)) (m := fu) ⟨fu, ((min x0.length (x62.length - 0) : Nat) : Int), x68, cs70, rfl, hq73, h71, hn72, hE.pick _ ⟨rfl, rfl, trivial⟩, hS⟩ ?_
          clear hE hS a w hq73; rintro m76 a w ⟨n75, q79, q80, cs84, rfl, hq73, h83, hn85, hE, hS⟩
          refine W.gen fun K86 hK86 => ?_
          rcases n75 with _ | n75
          · rw [SlicesRepeatLint.loop1] at hq73; exact absurd hq73 (by simp)
          rw [SlicesRepeatLint.loop1] at hq73
          refine W.seq ?_
          refine W.seq ?_
          refine W.region ?_
          refine WL.vS hS hE (runs_plain rfl) (Gives.p hE rfl) rfl ?_; clear hE a; intro a hE
          refine WL.vS hS hE (runs_plain rfl) (Gives.p hE rfl) rfl ?_; clear hE a; intro a hE
          refine WL.vS hS hE (runs_plain rfl) (Gives.len hE rfl sl22) rfl ?_; clear hE a; intro a hE
          refine WL.vS hS hE (runs_plain rfl) (Gives.p hE rfl) rfl ?_; clear hE a; intro a hE
          refine WL.nil ?_
          refine W.cond hE rfl (fun hc87 => ?_) (fun hc87 => ?_)
          · replace hq73 := iteT hc87 hq73
            refine W.skip ?_
            refine W.block ?_
            refine W.gen fun K88 hK88 => ?_
            refine W.regionE (sel (fun w => St w s (R)) (fun w => St w s (R))) (fun b i => cond b ([0, 1, 2, 3, 4, 5, 6, 7, 8, 9].contains i) ([0, 1, 2, 3, 4, 5, 6, 7, 8, 9].contains i)) mixed ?_
            replace hS := hS.drew
            refine Rg.takeP (i := 0) hE rfl (by kernel_rfl) (runs_plain rfl) (Gives.p hE rfl) rfl (tw_sel (fun _ => (hS.tail)) (fun _ => (hS.tail))) ?_; clear hE a; intro a hE
            refine Rg.takeP (i := 1) hE rfl (by kernel_rfl) (runs_plain rfl) (Gives.p hE rfl) rfl (tw_sel (fun _ => (hS.tail)) (fun _ => (hS.tail))) ?_; clear hE a; intro a hE
            refine Rg.takeP (i := 2) hE rfl (by kernel_rfl) (runs_plain rfl) (Gives.p hE rfl) rfl (tw_sel (fun _ => (hS.tail)) (fun _ => (hS.tail))) ?_; clear hE a; intro a hE
            obtain ⟨x89, hx90, hq73⟩ := bindS hq73
            obtain ⟨h91, h92, h93, h94, h95, h96⟩ := cutl_some hx90
            have h97 := (hS.vecCap 0 rfl).1
            refine Rg.takeP (i := 3) hE rfl (by kernel_rfl) (runs_plain rfl) (Gives.slL hE sl22 rfl rfl h91 (by have := hn85; omega) rfl) rfl (tw_sel (fun _ => (hS.tail)) (fun _ => (hS.tail))) ?_; clear hE a; intro a hE
            refine Rg.takeP (i := 4) hE rfl (by kernel_rfl) (runs_plain rfl) (Gives.p hE rfl) rfl (tw_sel (fun _ => (hS.tail)) (fun _ => (hS.tail))) ?_; clear hE a; intro a hE
            refine Rg.takeP (i := 5) hE rfl (by kernel_rfl) (runs_plain rfl) (Gives.p hE rfl) rfl (tw_sel (fun _ => (hS.tail)) (fun _ => (hS.tail))) ?_; clear hE a; intro a hE
            obtain ⟨x98, hx99, hq73⟩ := bindS hq73
            obtain ⟨h100, h101, h102, h103, h104, h105⟩ := cutl_some hx99
            have h106 := (hS.vecCap 0 rfl).1
            refine Rg.takeP (i := 6) hE rfl (by kernel_rfl) (runs_plain rfl) (Gives.slH hE sl22 rfl rfl h101 (Int.le_trans h102 (by have := hn85; omega)) rfl) rfl (tw_sel (fun _ => (hS.tail)) (fun _ => (hS.tail))) ?_; clear hE a; intro a hE
            refine Rg.one (i := 7) true true rfl (by kernel_rfl) (by kernel_rfl) (by kernel_rfl) ?_
            obtain ⟨x107, hx108, hq73⟩ := bndS hq73
            refine WL.cpO (lo2 := 0) (hi2 := (q79).toNat) hE hS 0 (runs_plain rfl) cp22 rfl rfl rfl (by have := hn85; omega) (by have := hn85; omega) (by have := hn85; omega) (by have := hn85; omega) h83 hn85 (h83.allOne RI.one) rfl ?_; clear hE hS a w; intro cs109 a w h110 hE hS
            have hn111 : x107.length = x62.length := by rw [← hx108, cpl_length (by have := hn85; omega) (by have := hn85; omega)]; try exact hn85
            rw [hx108] at h110
            refine WL.nil ?_
            refine ⟨⟨fun _ => (hS.tail), fun _ => (hS.tail)⟩, ?_⟩
            refine Rg.takeP (i := 8) hE rfl (by kernel_rfl) (runs_plain rfl) (Gives.p hE rfl) rfl (tw_sel (fun _ => (hS.tail)) (fun _ => (hS.tail))) ?_; clear hE a; intro a hE
            refine Rg.takeP (i := 9) hE rfl (by kernel_rfl) (runs_plain rfl) (Gives.p hE rfl) rfl (tw_sel (fun _ => (hS.tail)) (fun _ => (hS.tail))) ?_; clear hE a; intro a hE
            refine Rg.done (by kernel_rfl) ?_
            subst hK88
            subst hK86
            exact ⟨n75, Nat.lt_succ_self _, n75, (w64 (q79 + ((min ((q80.take ((q79).toNat)).drop 0).length (x62.length - ((q79).toNat)) : Nat) : Int))), x107, cs109, rfl, hq73, h110, hn111, hE.pick _ ⟨rfl, rfl, trivial⟩, hS⟩
          · replace hq73 := iteF hc87 hq73
            subst hK86
            refine W.exit rfl ?_
            exact ⟨q79, q80, cs84, Option.some.inj hq73, h83, hn85, hE.pick _ ⟨rfl, trivial⟩, hS⟩
        · clear hE hS a w; rintro a w ⟨q79, q80, cs84, rfl, h83, hn85, hE, hS⟩
          dsimp only at hr
          refine W.seq ?_
          refine W.region ?_
          refine WL.vS hS hE (runs_plain rfl) (Gives.p hE rfl) rfl ?_; clear hE a; intro a hE
          refine WL.vS hS hE (runs_plain rfl) (Gives.p hE rfl) rfl ?_; clear hE a; intro a hE
          refine WL.nil ?_
          refine W.ret ?_
          refine finG (fn := Try.f57) (rs := [.tmp 4]) (vs := [_]) hE rfl ⟨rfl, trivial⟩ ?_
          obtain rfl := Option.some.inj hr
          exact ⟨(some ⟨b64, 0, none⟩), x62.length, x62.length, cs84, rfl, h83, hn85, hS⟩
set_option maxHeartbeats 8000000 in
theorem MendRoundfollow_ok {fu : Nat}  {w : World} {s : Sg} {R : List HP} {x0 : MendRound} {a0_0 : Option Addr} {c0_0 : Nat} {a0_1 : Option Addr} {c0_1 : Nat} {x1 : List Int} {a1 : Option Addr} {c1 : Nat} {x2 : List (List Int)} {a2 : Option Addr} {c2 : Nat} (hS : St w s (R)) (h0_0 : Sl 1 (RI .i64) s a0_0 c0_0 x0.Plan) (h0_1 : Sl 4 RMendLink s a0_1 c0_1 x0.Links) (h1 : Sl 1 (RI .i64) s a1 c1 x1) (h2 : Sl 1 (RL 1 (RI .i64)) s a2 c2 x2) {r : (List Int)} (hr : MendRoundfollow fu x0 x1 x2 = some r) :
    Calls Try.prog 60 [.agg [.int .i64 x0.Period, .slice a0_0 x0.Plan.length c0_0, .slice a0_1 x0.Links.length c0_1].toArray, .slice a1 x1.length c1, .slice a2 x2.length c2].toArray w (fun e w => ∃ (a0 : Option Addr) (c0 n0 : Nat) (cs0 : List Value), e = .returned (.slice a0 n0 c0) ∧ Ev 1 (RI .i64) s cs0 r ∧ r.length = n0 ∧ St w s (vecC 3 1 a0 c0 n0 cs0 :: R)) := by
  refine enter Try.func60 rfl rfl rfl fun a hE => ?_
  rw [MendRoundfollow] at hr
  refine W.seq ?_
  refine W.region ?_
  refine WL.box hE hS (runs_plain rfl) rfl rfl rfl ?_; clear hE hS a w; intro b51 a w hE hS
  refine WL.vS hS hE (runs_plain rfl) (Gives.p hE rfl) rfl ?_; clear hE a; intro a hE
  refine WL.nil ?_
  refine W.seq ?_
  refine W.region ?_
  refine WL.vS hS hE (runs_plain rfl) (Gives.p hE rfl) rfl ?_; clear hE a; intro a hE
  obtain ⟨q52, hq53, hr⟩ := bindS hr
  have hc_ := SlicesCloneLint_ok hS h1 hq53
  refine WL.fnq hE (hc_) (runs_plain rfl) bd67 rfl rfl rfl ?_
  clear hE hS hc_; rintro e w ⟨a54, c55, n56, cs57, rfl, h58, rfl, hS⟩; refine ⟨_, rfl, ?_⟩; clear a; intro a hE
  refine WL.vS hS hE (runs_plain rfl) (Gives.p hE rfl) rfl ?_; clear hE a; intro a hE
  refine WL.nil ?_
  refine W.seq ?_
  refine W.seq ?_
  refine W.region ?_
  refine WL.vS hS hE (runs_plain rfl) (Gives.p hE rfl) rfl ?_; clear hE a; intro a hE
  refine WL.nil ?_
  obtain ⟨q61, hq60, hr⟩ := bindS hr
  refine W.cut (fun a w => ∃ (q66 : Bool), ∃ (q67 : List Int), ∃ (cs71 : List Value), (q66, q67) = q61 ∧ Ev 1 (RI .i64) s cs71 q67 ∧ q67.length = q52.length ∧ Rep a 60 [(1, .slice a54 q52.length c55)] ∧ St w s (vecC 3 1 a54 c55 q52.length cs71 :: pt b51 (.cells #[.int .i64 x0.Period, .slice a0_0 x0.Plan.length c0_0, .slice a0_1 x0.Links.length c0_1] 25 (0, 0)) :: R)) ?_ ?_
  · refine W.block ?_
    refine W.loop (fun m a w => ∃ (n62 : Nat), ∃ (q66 : Bool), ∃ (q67 : List Int), ∃ (cs71 : List Value), n62 = m ∧ MendRoundfollow.loop1 x0 x2 n62 q66 q67 = some q61 ∧ Ev 1 (RI .i64) s cs71 q67 ∧ q67.length = q52.length ∧ Rep a 60 [(1, .slice a54 q52.length c55), (2, .slice a2 x2.length c2), (3, .pointer (some ⟨b51, 0, none⟩)), (7, .bool q66)] ∧ St w s (vecC 3 1 a54 c55 q52.length cs71 :: pt b51 (.cells #[.int .i64 x0.Period, .slice a0_0 x0.Plan.length c0_0, .slice a0_1 x0.Links.length c0_1] 25 (0, 0)) :: R)) (m := fu) ⟨fu, true, q52, cs57, rfl, hq60, h58, rfl, hE.pick _ ⟨rfl, rfl, rfl, rfl, trivial⟩, hS⟩ ?_
    clear hE hS a w hq60; rintro m63 a w ⟨n62, q66, q67, cs71, rfl, hq60, h70, hn72, hE, hS⟩
    refine W.gen fun K73 hK73 => ?_
    rcases n62 with _ | n62
    · rw [MendRoundfollow.loop1] at hq60; exact absurd hq60 (by simp)
    rw [MendRoundfollow.loop1] at hq60
    refine W.seq ?_
    refine W.seq ?_
    refine W.region ?_
    refine WL.vS hS hE (runs_plain rfl) (Gives.p hE rfl) rfl ?_; clear hE a; intro a hE
    refine WL.nil ?_
    refine W.cond hE rfl (fun hc74 => ?_) (fun hc74 => ?_)
    · replace hq60 := iteT hc74 hq60
      refine W.skip ?_
      refine W.block ?_
      refine W.seq ?_
      refine W.region ?_
      refine WL.vS hS hE (runs_plain rfl) (Gives.p hE rfl) rfl ?_; clear hE a; intro a hE
      refine WL.nil ?_
      refine W.seq ?_
      refine W.region ?_
      refine WL.vS hS hE (runs_plain rfl) (Gives.fld hE rfl fl25_2) rfl ?_; clear hE a; intro a hE
      refine WL.vS hS hE (runs_plain rfl) (Gives.loadB hE 1 rfl rfl rfl ty23) rfl ?_; clear hE a; intro a hE
      refine WL.vS hS hE (runs_plain rfl) (Gives.len hE rfl sl23) rfl ?_; clear hE a; intro a hE
      refine WL.vS hS hE (runs_plain rfl) (Gives.p hE rfl) rfl ?_; clear hE a; intro a hE
      refine WL.nil ?_
      obtain ⟨q76, hq75, hq60⟩ := bindS hq60
      refine W.cut (fun a w => ∃ (q86 : Bool), ∃ (q87 : List Int), ∃ (cs91 : List Value), (q86, q87) = q76 ∧ Ev 1 (RI .i64) s cs91 q87 ∧ q87.length = q52.length ∧ Rep a 60 [(1, .slice a54 q52.length c55), (2, .slice a2 x2.length c2), (3, .pointer (some ⟨b51, 0, none⟩)), (7, .bool q86)] ∧ St w s (vecC 3 1 a54 c55 q52.length cs91 :: pt b51 (.cells #[.int .i64 x0.Period, .slice a0_0 x0.Plan.length c0_0, .slice a0_1 x0.Links.length c0_1] 25 (0, 0)) :: R)) ?_ ?_
      · refine W.block ?_
        refine W.loop (fun m a w => ∃ (rest79 : List MendLink) (k77 : Nat), ∃ (q86 : Bool), ∃ (q87 : List Int), ∃ (cs91 : List Value), rest79.length = m ∧ x0.Links.drop k77 = rest79 ∧ MendRoundfollow.loop2 x0 x2 rest79 q86 q87 = some q76 ∧ Ev 1 (RI .i64) s cs91 q87 ∧ q87.length = q52.length ∧ Rep a 60 [(1, .slice a54 q52.length c55), (2, .slice a2 x2.length c2), (3, .pointer (some ⟨b51, 0, none⟩)), (7, .bool q86), (16, .slice a0_1 x0.Links.length c0_1), (17, .int .i64 ((x0.Links).length : Int)), (18, .int .i64 ((k77 : Nat) : Int))] ∧ St w s (vecC 3 1 a54 c55 q52.length cs91 :: pt b51 (.cells #[.int .i64 x0.Period, .slice a0_0 x0.Plan.length c0_0, .slice a0_1 x0.Links.length c0_1] 25 (0, 0)) :: R)) (m := x0.Links.length) ⟨x0.Links, 0, false, q67, cs71, rfl, rfl, hq75, h70, hn72, hE.pick _ ⟨rfl, rfl, rfl, rfl, rfl, rfl, rfl, trivial⟩, hS⟩ ?_
        clear hE hS a w hq75; rintro m83 a w ⟨rest79, k77, q86, q87, cs91, rfl, hd80, hq75, h90, hn92, hE, hS⟩
        refine W.gen fun K93 hK93 => ?_
        rcases rest79 with _ | ⟨x78, rest79⟩
        · have hlt81 := drop_nil hd80
          refine W.seq ?_
          refine W.region ?_
          refine WL.vS hS hE (runs_plain rfl) (Gives.p hE rfl) rfl ?_; clear hE a; intro a hE
          refine WL.nil ?_
          refine W.seq ?_
          refine W.condF hE rfl (decide_eq_false (by omega)) ?_
          subst hK93
          refine W.exit rfl ?_
          exact ⟨q86, q87, cs91, Option.some.inj hq75, h90, hn92, hE.pick _ ⟨rfl, rfl, rfl, rfl, trivial⟩, hS⟩
        · obtain ⟨hlt81, hx82, hd80⟩ := drop_cons hd80
          rw [MendRoundfollow.loop2] at hq75
          refine W.seq ?_
          refine W.region ?_
          refine WL.vS hS hE (runs_plain rfl) (Gives.p hE rfl) rfl ?_; clear hE a; intro a hE
          refine WL.nil ?_
          refine W.seq ?_
          refine W.condT hE rfl (decide_eq_true (by omega)) ?_
          refine W.skip ?_
          refine W.seq ?_
          refine W.block ?_
          refine W.seq ?_
          refine W.region ?_
          obtain ⟨cs94, hl95, hR96, hat97⟩ := h0_1.at hx82
          subst hR96
          refine WL.vS hS hE (runs_plain rfl) (Gives.idx hE k77 rfl rfl sl23 rfl hlt81 (h0_1.aok hlt81)) rfl ?_; clear hE a; intro a hE
          refine WL.vS hS hE (runs_plain rfl) (Gives.loadA hE rfl (fun w h => hat97 w _ h) ty36) rfl ?_; clear hE a; intro a hE
          refine WL.alloc hE hS (runs_plain rfl) zr36 rfl ?_; clear hE hS a w; intro b98 a w hE hS
          refine WL.storeI hE hS 0 rfl (MendLink.cells x78) (runs_plain rfl) rfl rfl rfl ty36 rfl rfl rfl rfl ?_; clear hE hS a w; intro a w hE hS
          refine WL.nil ?_
          refine W.seq ?_
          refine W.region ?_
          refine WL.vS hS hE (runs_plain rfl) (Gives.p hE rfl) rfl ?_; clear hE a; intro a hE
          refine WL.vS hS hE (runs_plain rfl) (Gives.p hE rfl) rfl ?_; clear hE a; intro a hE
          refine WL.nil ?_
          refine W.seq ?_
          refine W.seq ?_
          refine W.region ?_
          refine WL.vS hS hE (runs_plain rfl) (Gives.fld hE rfl fl36_3) rfl ?_; clear hE a; intro a hE
          refine WL.vS hS hE (runs_plain rfl) (Gives.loadB hE 0 rfl rfl rfl ty3) rfl ?_; clear hE a; intro a hE
          refine WL.vS hS hE (runs_plain rfl) (Gives.p hE rfl) rfl ?_; clear hE a; intro a hE
          refine WL.nil ?_
          refine W.cond hE rfl (fun hc99 => ?_) (fun hc99 => ?_)
          · replace hq75 := iteT hc99 hq75
            refine W.seq ?_
            refine W.seq ?_
            refine W.region ?_
            refine WL.vS hS hE (runs_plain rfl) (Gives.fld hE rfl fl36_3) rfl ?_; clear hE a; intro a hE
            refine WL.vS hS hE (runs_plain rfl) (Gives.loadB hE 0 rfl rfl rfl ty3) rfl ?_; clear hE a; intro a hE
            refine WL.vS hS hE (runs_plain rfl) (Gives.p hE rfl) rfl ?_; clear hE a; intro a hE
            refine WL.vS hS hE (runs_plain rfl) (Gives.len hE rfl sl40) rfl ?_; clear hE a; intro a hE
            refine WL.vS hS hE (runs_plain rfl) (Gives.p hE rfl) rfl ?_; clear hE a; intro a hE
            refine WL.nil ?_
            refine W.cond hE rfl (fun hc100 => ?_) (fun hc100 => ?_)
            · replace hq75 := iteT hc100 hq75
              refine W.exit rfl ?_
              refine W.region ?_
              refine WL.vS hS hE (runs_plain rfl) (Gives.inc hE rfl (by have := h0_1.small; omega)) rfl ?_; clear hE a; intro a hE
              refine WL.vS hS hE (runs_plain rfl) (Gives.p hE rfl) rfl ?_; clear hE a; intro a hE
              refine WL.nil ?_
              replace hS := hS.tail
              subst hK93
              exact ⟨rest79.length, Nat.lt_succ_self _, rest79, k77 + 1, q86, q87, cs91, rfl, hd80, hq75, h90, hn92, hE.pick _ ⟨rfl, rfl, rfl, rfl, rfl, rfl, rfl, trivial⟩, hS⟩
            · replace hq75 := iteF hc100 hq75
              refine W.skip ?_
              refine W.region ?_
              refine WL.vS hS hE (runs_plain rfl) (Gives.p hE rfl) rfl ?_; clear hE a; intro a hE
              refine WL.vS hS hE (runs_plain rfl) (Gives.fld hE rfl fl36_3) rfl ?_; clear hE a; intro a hE
              refine WL.vS hS hE (runs_plain rfl) (Gives.loadB hE 0 rfl rfl rfl ty3) rfl ?_; clear hE a; intro a hE
              refine WL.vS hS hE (runs_plain rfl) (Gives.p hE rfl) rfl ?_; clear hE a; intro a hE
              obtain ⟨x101, hx102, hq75⟩ := bindS hq75
              obtain ⟨hi103, hlt104, hy105⟩ := gx_some hx102
              obtain ⟨cs106, hl107, hR108, hat109⟩ := h2.at hy105
              obtain ⟨a110, c111, rfl, h112⟩ := hR108
              refine WL.vS hS hE (runs_plain rfl) (Gives.idx hE (w64 (x78.Back - 1)).toNat rfl rfl sl40 hi103 hlt104 (h2.aok hlt104)) rfl ?_; clear hE a; intro a hE
              refine WL.vS hS hE (runs_plain rfl) (Gives.load1 hE rfl (fun w h => hat109 w _ h) ty22) rfl ?_; clear hE a; intro a hE
              refine WL.vS hS hE (runs_plain rfl) (Gives.p hE rfl) rfl ?_; clear hE a; intro a hE
              refine WL.nil ?_
              refine W.seq ?_
              refine W.regionQ (C := fun w => St w s (pt b98 (.cells (MendLink.cells x78).toArray 36 (0, 0)) :: vecC 3 1 a54 c55 q52.length cs91 :: pt b51 (.cells #[.int .i64 x0.Period, .slice a0_0 x0.Plan.length c0_0, .slice a0_1 x0.Links.length c0_1] 25 (0, 0)) :: R)) mixed (by kernel_rfl) hS.drew ?_
              refine QL.v hE (runs_plain rfl) (Gives.p hE rfl) rfl ?_; clear hE a; intro a hE
              refine QL.v hE (runs_plain rfl) (Gives.fld hE rfl fl36_0) rfl ?_; clear hE a; intro a hE
              refine QL.v hE (runs_plain rfl) (Gives.loadB hE 0 rfl rfl rfl ty3) rfl ?_; clear hE a; intro a hE
              obtain ⟨x113, hx114, hq75⟩ := bindS hq75
              obtain ⟨hi115, hlt116, hy117⟩ := gx_some hx114
              obtain ⟨cs118, hl119, hR120, hat121⟩ := h112.at hy117
              subst hR120
              refine QL.v hE (runs_plain rfl) (Gives.idx hE (x78.From).toNat rfl rfl sl22 hi115 hlt116 (h112.aok hlt116)) rfl ?_; clear hE a; intro a hE
              refine QL.v hE (runs_plain rfl) (Gives.load1 hE rfl (fun w h => hat121 w _ h) ty3) rfl ?_; clear hE a; intro a hE
              refine QL.v hE (runs_plain rfl) (Gives.loadBA hE 2 rfl rfl ty25) rfl ?_; clear hE a; intro a hE
              refine QL.v hE (runs_plain rfl) (Gives.loadBA hE 0 rfl rfl ty36) rfl ?_; clear hE a; intro a hE
              obtain ⟨q122, hq123, hq75⟩ := bindS hq75
              refine QL.fnq hE (fun w hS => MendRoundslack_ok hS h0_0 h0_1 hq123) (runs_plain rfl) bd55 rfl rfl rfl ?_; clear hE a; intro a hE
              refine QL.v hE (runs_plain rfl) (Gives.p hE rfl) rfl ?_; clear hE a; intro a hE
              refine QL.v hE (runs_plain rfl) (Gives.p hE rfl) rfl ?_; clear hE a; intro a hE
              refine QL.nil ?_; clear hS w; intro w hS
              refine W.seq ?_
              refine W.region ?_
              refine WL.vS hS hE (runs_plain rfl) (Gives.p hE rfl) rfl ?_; clear hE a; intro a hE
              refine WL.vS hS hE (runs_plain rfl) (Gives.p hE rfl) rfl ?_; clear hE a; intro a hE
              refine WL.vS hS hE (runs_plain rfl) (Gives.fld hE rfl fl36_1) rfl ?_; clear hE a; intro a hE
              refine WL.vS hS hE (runs_plain rfl) (Gives.loadB hE 0 rfl rfl rfl ty3) rfl ?_; clear hE a; intro a hE
              obtain ⟨x124, hx125, hq75⟩ := bindS hq75
              obtain ⟨hi126, hlt127, hy128⟩ := gx_some hx125
              obtain ⟨vs129, hl130, hR131, hd132, hget133⟩ := h90.at hy128
              subst hR131
              refine WL.vS hS hE (runs_plain rfl) (Gives.idx hE ((x78.To).toNat) rfl rfl sl22 hi126 (by have := hn92; omega) (hS.vecAok 1 rfl (by have := hn92; omega : (x78.To).toNat < q52.length))) rfl ?_; clear hE a; intro a hE
              refine WL.vS hS hE (runs_plain rfl) (Gives.load1 hE rfl (fun w h => St.vecSees h 1 rfl ((x78.To).toNat * 1) _ hget133) ty3) rfl ?_; clear hE a; intro a hE
              refine WL.vS hS hE (runs_plain rfl) (Gives.p hE rfl) rfl ?_; clear hE a; intro a hE
              refine WL.nil ?_
              obtain ⟨q135, hq134, hq75⟩ := bindS hq75
              refine W.cut (fun a w => ∃ (q138 : Bool), ∃ (q139 : List Int), ∃ (cs143 : List Value), (q138, q139) = q135 ∧ Ev 1 (RI .i64) s cs143 q139 ∧ q139.length = q52.length ∧ Rep a 60 [(1, .slice a54 q52.length c55), (2, .slice a2 x2.length c2), (3, .pointer (some ⟨b51, 0, none⟩)), (7, .bool q138), (16, .slice a0_1 x0.Links.length c0_1), (17, .int .i64 ((x0.Links).length : Int)), (18, .int .i64 ((k77 : Nat) : Int))] ∧ St w s (pt b98 (.cells (MendLink.cells x78).toArray 36 (0, 0)) :: vecC 3 1 a54 c55 q52.length cs143 :: pt b51 (.cells #[.int .i64 x0.Period, .slice a0_0 x0.Plan.length c0_0, .slice a0_1 x0.Links.length c0_1] 25 (0, 0)) :: R)) ?_ ?_
              · refine W.gen fun K145 hK145 => ?_
                refine W.cond hE rfl (fun hc146 => ?_) (fun hc146 => ?_)
                · replace hq134 := iteT hc146 hq134
                  refine W.region ?_
                  refine WL.vS hS hE (runs_plain rfl) (Gives.p hE rfl) rfl ?_; clear hE a; intro a hE
                  refine WL.vS hS hE (runs_plain rfl) (Gives.fld hE rfl fl36_1) rfl ?_; clear hE a; intro a hE
                  refine WL.vS hS hE (runs_plain rfl) (Gives.loadB hE 0 rfl rfl rfl ty3) rfl ?_; clear hE a; intro a hE
                  refine WL.vS hS hE (runs_plain rfl) (Gives.p hE rfl) rfl ?_; clear hE a; intro a hE
                  obtain ⟨_, hx148, hq134⟩ := bindS hq134
                  obtain ⟨h149, h150⟩ := ix_some hx148
                  refine WL.vS hS hE (runs_plain rfl) (Gives.idx hE ((x78.To).toNat) rfl rfl sl22 h149 (by have := hn92; omega) (hS.vecAok 1 rfl (by have := hn92; omega : (x78.To).toNat < q52.length))) rfl ?_; clear hE a; intro a hE
                  obtain ⟨x152, hx153, hq134⟩ := bindS hq134
                  refine WL.setD hE hS 1 rfl (runs_plain rfl) rfl rfl (vs := [.int .i64 (w64 (x113 - q122))]) rfl ty3 rfl rfl rfl h90 hn92 (sx_some hx153).1 hx153 rfl rfl ?_; clear hE hS a w; intro cs154 a w h155 hn156 hE hS
                  refine WL.vS hS hE (runs_plain rfl) (Gives.p hE rfl) rfl ?_; clear hE a; intro a hE
                  refine WL.nil ?_
                  subst hK145
                  exact ⟨true, x152, cs154, Option.some.inj hq134, h155, hn156, hE.pick _ ⟨rfl, rfl, rfl, rfl, rfl, rfl, rfl, trivial⟩, hS⟩
                · replace hq134 := iteF hc146 hq134
                  refine W.skip ?_
                  subst hK145
                  exact ⟨q86, q87, cs91, Option.some.inj hq134, h90, hn92, hE.pick _ ⟨rfl, rfl, rfl, rfl, rfl, rfl, rfl, trivial⟩, hS⟩
              · clear hE hS a w; rintro a w ⟨q138, q139, cs143, rfl, h142, hn144, hE, hS⟩
                dsimp only at hq75
                refine W.region ?_
                refine WL.vS hS hE (runs_plain rfl) (Gives.inc hE rfl (by have := h0_1.small; omega)) rfl ?_; clear hE a; intro a hE
                refine WL.vS hS hE (runs_plain rfl) (Gives.p hE rfl) rfl ?_; clear hE a; intro a hE
                refine WL.nil ?_
                replace hS := hS.tail
                subst hK93
                exact ⟨rest79.length, Nat.lt_succ_self _, rest79, k77 + 1, q138, q139, cs143, rfl, hd80, hq75, h142, hn144, hE.pick _ ⟨rfl, rfl, rfl, rfl, rfl, rfl, rfl, trivial⟩, hS⟩
          · replace hq75 := iteF hc99 hq75
            refine W.skip ?_
            refine W.seq ?_
            refine W.regionQ (C := fun w => St w s (pt b98 (.cells (MendLink.cells x78).toArray 36 (0, 0)) :: vecC 3 1 a54 c55 q52.length cs91 :: pt b51 (.cells #[.int .i64 x0.Period, .slice a0_0 x0.Plan.length c0_0, .slice a0_1 x0.Links.length c0_1] 25 (0, 0)) :: R)) mixed (by kernel_rfl) hS.drew ?_
            refine QL.v hE (runs_plain rfl) (Gives.p hE rfl) rfl ?_; clear hE a; intro a hE
            refine QL.v hE (runs_plain rfl) (Gives.fld hE rfl fl36_0) rfl ?_; clear hE a; intro a hE
            refine QL.v hE (runs_plain rfl) (Gives.loadB hE 0 rfl rfl rfl ty3) rfl ?_; clear hE a; intro a hE
            obtain ⟨x157, hx158, hq75⟩ := bindS hq75
            obtain ⟨hi159, hlt160, hy161⟩ := gx_some hx158
            obtain ⟨vs162, hl163, hR164, hd165, hget166⟩ := h90.at hy161
            subst hR164
            refine QL.v hE (runs_plain rfl) (Gives.idx hE ((x78.From).toNat) rfl rfl sl22 hi159 (by have := hn92; omega) (hS.vecAok 1 rfl (by have := hn92; omega : (x78.From).toNat < q52.length))) rfl ?_; clear hE a; intro a hE
            refine QL.v hE (runs_plain rfl) (Gives.load1 hE rfl (fun w h => St.vecSees h 1 rfl ((x78.From).toNat * 1) _ hget166) ty3) rfl ?_; clear hE a; intro a hE
            refine QL.v hE (runs_plain rfl) (Gives.loadBA hE 2 rfl rfl ty25) rfl ?_; clear hE a; intro a hE
            refine QL.v hE (runs_plain rfl) (Gives.loadBA hE 0 rfl rfl ty36) rfl ?_; clear hE a; intro a hE
            obtain ⟨q167, hq168, hq75⟩ := bindS hq75
            refine QL.fnq hE (fun w hS => MendRoundslack_ok hS h0_0 h0_1 hq168) (runs_plain rfl) bd55 rfl rfl rfl ?_; clear hE a; intro a hE
            refine QL.v hE (runs_plain rfl) (Gives.p hE rfl) rfl ?_; clear hE a; intro a hE
            refine QL.v hE (runs_plain rfl) (Gives.p hE rfl) rfl ?_; clear hE a; intro a hE
            refine QL.nil ?_; clear hS w; intro w hS
            refine W.seq ?_
            refine W.region ?_
            refine WL.vS hS hE (runs_plain rfl) (Gives.p hE rfl) rfl ?_; clear hE a; intro a hE
            refine WL.vS hS hE (runs_plain rfl) (Gives.p hE rfl) rfl ?_; clear hE a; intro a hE
            refine WL.vS hS hE (runs_plain rfl) (Gives.fld hE rfl fl36_1) rfl ?_; clear hE a; intro a hE
            refine WL.vS hS hE (runs_plain rfl) (Gives.loadB hE 0 rfl rfl rfl ty3) rfl ?_; clear hE a; intro a hE
            obtain ⟨x169, hx170, hq75⟩ := bindS hq75
            obtain ⟨hi171, hlt172, hy173⟩ := gx_some hx170
            obtain ⟨vs174, hl175, hR176, hd177, hget178⟩ := h90.at hy173
            subst hR176
            refine WL.vS hS hE (runs_plain rfl) (Gives.idx hE ((x78.To).toNat) rfl rfl sl22 hi171 (by have := hn92; omega) (hS.vecAok 1 rfl (by have := hn92; omega : (x78.To).toNat < q52.length))) rfl ?_; clear hE a; intro a hE
            refine WL.vS hS hE (runs_plain rfl) (Gives.load1 hE rfl (fun w h => St.vecSees h 1 rfl ((x78.To).toNat * 1) _ hget178) ty3) rfl ?_; clear hE a; intro a hE
            refine WL.vS hS hE (runs_plain rfl) (Gives.p hE rfl) rfl ?_; clear hE a; intro a hE
            refine WL.nil ?_
            obtain ⟨q180, hq179, hq75⟩ := bindS hq75
            refine W.cut (fun a w => ∃ (q183 : Bool), ∃ (q184 : List Int), ∃ (cs188 : List Value), (q183, q184) = q180 ∧ Ev 1 (RI .i64) s cs188 q184 ∧ q184.length = q52.length ∧ Rep a 60 [(1, .slice a54 q52.length c55), (2, .slice a2 x2.length c2), (3, .pointer (some ⟨b51, 0, none⟩)), (7, .bool q183), (16, .slice a0_1 x0.Links.length c0_1), (17, .int .i64 ((x0.Links).length : Int)), (18, .int .i64 ((k77 : Nat) : Int))] ∧ St w s (pt b98 (.cells (MendLink.cells x78).toArray 36 (0, 0)) :: vecC 3 1 a54 c55 q52.length cs188 :: pt b51 (.cells #[.int .i64 x0.Period, .slice a0_0 x0.Plan.length c0_0, .slice a0_1 x0.Links.length c0_1] 25 (0, 0)) :: R)) ?_ ?_
            · refine W.gen fun K190 hK190 => ?_
              refine W.cond hE rfl (fun hc191 => ?_) (fun hc191 => ?_)
              · replace hq179 := iteT hc191 hq179
                refine W.region ?_
                refine WL.vS hS hE (runs_plain rfl) (Gives.p hE rfl) rfl ?_; clear hE a; intro a hE
                refine WL.vS hS hE (runs_plain rfl) (Gives.fld hE rfl fl36_1) rfl ?_; clear hE a; intro a hE
                refine WL.vS hS hE (runs_plain rfl) (Gives.loadB hE 0 rfl rfl rfl ty3) rfl ?_; clear hE a; intro a hE
                refine WL.vS hS hE (runs_plain rfl) (Gives.p hE rfl) rfl ?_; clear hE a; intro a hE
                obtain ⟨_, hx193, hq179⟩ := bindS hq179
                obtain ⟨h194, h195⟩ := ix_some hx193
                refine WL.vS hS hE (runs_plain rfl) (Gives.idx hE ((x78.To).toNat) rfl rfl sl22 h194 (by have := hn92; omega) (hS.vecAok 1 rfl (by have := hn92; omega : (x78.To).toNat < q52.length))) rfl ?_; clear hE a; intro a hE
                obtain ⟨x197, hx198, hq179⟩ := bindS hq179
                refine WL.setD hE hS 1 rfl (runs_plain rfl) rfl rfl (vs := [.int .i64 (w64 (x157 - q167))]) rfl ty3 rfl rfl rfl h90 hn92 (sx_some hx198).1 hx198 rfl rfl ?_; clear hE hS a w; intro cs199 a w h200 hn201 hE hS
                refine WL.vS hS hE (runs_plain rfl) (Gives.p hE rfl) rfl ?_; clear hE a; intro a hE
                refine WL.nil ?_
                subst hK190
                exact ⟨true, x197, cs199, Option.some.inj hq179, h200, hn201, hE.pick _ ⟨rfl, rfl, rfl, rfl, rfl, rfl, rfl, trivial⟩, hS⟩
              · replace hq179 := iteF hc191 hq179
                refine W.skip ?_
                subst hK190
                exact ⟨q86, q87, cs91, Option.some.inj hq179, h90, hn92, hE.pick _ ⟨rfl, rfl, rfl, rfl, rfl, rfl, rfl, trivial⟩, hS⟩
            · clear hE hS a w; rintro a w ⟨q183, q184, cs188, rfl, h187, hn189, hE, hS⟩
              dsimp only at hq75
              refine W.region ?_
              refine WL.vS hS hE (runs_plain rfl) (Gives.inc hE rfl (by have := h0_1.small; omega)) rfl ?_; clear hE a; intro a hE
              refine WL.vS hS hE (runs_plain rfl) (Gives.p hE rfl) rfl ?_; clear hE a; intro a hE
              refine WL.nil ?_
              replace hS := hS.tail
              subst hK93
              exact ⟨rest79.length, Nat.lt_succ_self _, rest79, k77 + 1, q183, q184, cs188, rfl, hd80, hq75, h187, hn189, hE.pick _ ⟨rfl, rfl, rfl, rfl, rfl, rfl, rfl, trivial⟩, hS⟩
      · clear hE hS a w; rintro a w ⟨q86, q87, cs91, rfl, h90, hn92, hE, hS⟩
        dsimp only at hq60
        subst hK73
        exact ⟨n62, Nat.lt_succ_self _, n62, q86, q87, cs91, rfl, hq60, h90, hn92, hE.pick _ ⟨rfl, rfl, rfl, rfl, trivial⟩, hS⟩
    · replace hq60 := iteF hc74 hq60
      subst hK73
      refine W.exit rfl ?_
      exact ⟨q66, q67, cs71, Option.some.inj hq60, h70, hn72, hE.pick _ ⟨rfl, trivial⟩, hS⟩
  · clear hE hS a w; rintro a w ⟨q66, q67, cs71, rfl, h70, hn72, hE, hS⟩
    dsimp only at hr
    refine W.seq ?_
    refine W.region ?_
    refine WL.vS hS hE (runs_plain rfl) (Gives.p hE rfl) rfl ?_; clear hE a; intro a hE
    refine WL.vS hS hE (runs_plain rfl) (Gives.p hE rfl) rfl ?_; clear hE a; intro a hE
    refine WL.nil ?_
    refine W.ret ?_
    refine finG (fn := Try.f60) (rs := [.tmp 6]) (vs := [_]) hE rfl ⟨rfl, trivial⟩ ?_
    obtain rfl := Option.some.inj hr
    replace hS := hS.dropAt 1
    exact ⟨a54, c55, q52.length, cs71, rfl, h70, hn72, hS⟩
set_option maxHeartbeats 8000000 in
theorem Mendgreatestint_ok  {w : World} {s : Sg} {R : List HP} {x0 : Int} {x1 : List Int} {a1 : Option Addr} {c1 : Nat} (hS : St w s (R)) (h1 : Sl 1 (RI .i64) s a1 c1 x1) {r : Int} (hr : Mendgreatestint x0 x1 = r) :
    Calls Try.prog 76 [.int .i64 x0, .slice a1 x1.length c1].toArray w (fun e w => e = .returned (.int .i64 r) ∧ St w s (R)) := by
  refine enter Try.func76 rfl rfl rfl fun a hE => ?_
  rw [Mendgreatestint] at hr
  refine W.seq ?_
  refine W.region ?_
  refine WL.vS hS hE (runs_plain rfl) (Gives.p hE rfl) rfl ?_; clear hE a; intro a hE
  refine WL.nil ?_
  refine W.seq ?_
  refine W.seq ?_
  refine W.region ?_
  refine WL.vS hS hE (runs_plain rfl) (Gives.p hE rfl) rfl ?_; clear hE a; intro a hE
  refine WL.vS hS hE (runs_plain rfl) (Gives.len hE rfl sl22) rfl ?_; clear hE a; intro a hE
  refine WL.vS hS hE (runs_plain rfl) (Gives.p hE rfl) rfl ?_; clear hE a; intro a hE
  refine WL.nil ?_
  obtain ⟨q52, hq51, hr⟩ := bndS hr
  refine W.cut (fun a w => ∃ (q62 : Int), q62 = q52 ∧ Rep a 18 [(0, .int .i64 q62)] ∧ St w s (R)) ?_ ?_
  · refine W.block ?_
    refine W.loop (fun m a w => ∃ (rest55 : List Int) (k53 : Nat), ∃ (q62 : Int), rest55.length = m ∧ x1.drop k53 = rest55 ∧ Mendgreatestint.loop1 rest55 q62 = q52 ∧ Rep a 18 [(0, .int .i64 q62), (7, .slice a1 x1.length c1), (8, .int .i64 ((x1).length : Int)), (9, .int .i64 ((k53 : Nat) : Int))] ∧ St w s (R)) (m := x1.length) ⟨x1, 0, x0, rfl, rfl, hq51, hE.pick _ ⟨rfl, rfl, rfl, rfl, trivial⟩, hS⟩ ?_
    clear hE hS a w hq51; rintro m59 a w ⟨rest55, k53, q62, rfl, hd56, hq51, hE, hS⟩
    refine W.gen fun K63 hK63 => ?_
    rcases rest55 with _ | ⟨x54, rest55⟩
    · have hlt57 := drop_nil hd56
      refine W.seq ?_
      refine W.region ?_
      refine WL.vS hS hE (runs_plain rfl) (Gives.p hE rfl) rfl ?_; clear hE a; intro a hE
      refine WL.nil ?_
      refine W.seq ?_
      refine W.condF hE rfl (decide_eq_false (by omega)) ?_
      subst hK63
      refine W.exit rfl ?_
      exact ⟨q62, hq51, hE.pick _ ⟨rfl, trivial⟩, hS⟩
    · obtain ⟨hlt57, hx58, hd56⟩ := drop_cons hd56
      rw [Mendgreatestint.loop1] at hq51
      refine W.seq ?_
      refine W.region ?_
      refine WL.vS hS hE (runs_plain rfl) (Gives.p hE rfl) rfl ?_; clear hE a; intro a hE
      refine WL.nil ?_
      refine W.seq ?_
      refine W.condT hE rfl (decide_eq_true (by omega)) ?_
      refine W.skip ?_
      refine W.seq ?_
      refine W.block ?_
      refine W.seq ?_
      refine W.region ?_
      obtain ⟨cs64, hl65, hR66, hat67⟩ := h1.at hx58
      subst hR66
      refine WL.vS hS hE (runs_plain rfl) (Gives.idx hE k53 rfl rfl sl22 rfl hlt57 (h1.aok hlt57)) rfl ?_; clear hE a; intro a hE
      refine WL.vS hS hE (runs_plain rfl) (Gives.load1 hE rfl (fun w h => hat67 w _ h) ty3) rfl ?_; clear hE a; intro a hE
      refine WL.vS hS hE (runs_plain rfl) (Gives.p hE rfl) rfl ?_; clear hE a; intro a hE
      refine WL.nil ?_
      refine W.region ?_
      refine WL.vS hS hE (runs_plain rfl) (Gives.p hE rfl) rfl ?_; clear hE a; intro a hE
      refine WL.vS hS hE (runs_plain rfl) (Gives.p hE rfl) rfl ?_; clear hE a; intro a hE
      refine WL.vS hS hE (runs_plain rfl) (Gives.max2 hE rfl rfl) rfl ?_; clear hE a; intro a hE
      refine WL.vS hS hE (runs_plain rfl) (Gives.p hE rfl) rfl ?_; clear hE a; intro a hE
      refine WL.nil ?_
      refine W.region ?_
      refine WL.vS hS hE (runs_plain rfl) (Gives.inc hE rfl (by have := h1.small; omega)) rfl ?_; clear hE a; intro a hE
      refine WL.vS hS hE (runs_plain rfl) (Gives.p hE rfl) rfl ?_; clear hE a; intro a hE
      refine WL.nil ?_
      subst hK63
      exact ⟨rest55.length, Nat.lt_succ_self _, rest55, k53 + 1, (mx q62 x54), rfl, hd56, hq51, hE.pick _ ⟨rfl, rfl, rfl, rfl, trivial⟩, hS⟩
  · clear hE hS a w; rintro a w ⟨q62, rfl, hE, hS⟩
    refine W.seq ?_
    refine W.region ?_
    refine WL.vS hS hE (runs_plain rfl) (Gives.p hE rfl) rfl ?_; clear hE a; intro a hE
    refine WL.vS hS hE (runs_plain rfl) (Gives.p hE rfl) rfl ?_; clear hE a; intro a hE
    refine WL.nil ?_
    refine W.ret ?_
    refine finG (fn := Try.f76) (rs := [.tmp 4]) (vs := [_]) hE rfl ⟨rfl, trivial⟩ ?_
    subst hr
    exact ⟨rfl, hS⟩
set_option maxHeartbeats 8000000 in
theorem MendSettles_ok {fu : Nat}  {w : World} {s : Sg} {R : List HP} {x0 : MendRound} {a0_0 : Option Addr} {c0_0 : Nat} {a0_1 : Option Addr} {c0_1 : Nat} {x1 : Int} (hS : St w s (R)) (h0_0 : Sl 1 (RI .i64) s a0_0 c0_0 x0.Plan) (h0_1 : Sl 4 RMendLink s a0_1 c0_1 x0.Links) {r : Int × Int} (hr : MendSettles fu x0 x1 = some r) :
    Calls Try.prog 33 [.agg [.int .i64 x0.Period, .slice a0_0 x0.Plan.length c0_0, .slice a0_1 x0.Links.length c0_1].toArray, .int .i64 x1].toArray w (fun e w => e = .returned (.tuple #[.int .i64 r.1, .int .i64 r.2]) ∧ St w s (R)) := by
  refine enter Try.func33 rfl rfl rfl fun a hE => ?_
  rw [MendSettles] at hr
  refine W.seq ?_
  refine W.region ?_
  refine WL.box hE hS (runs_plain rfl) rfl rfl rfl ?_; clear hE hS a w; intro b51 a w hE hS
  refine WL.vS hS hE (runs_plain rfl) (Gives.p hE rfl) rfl ?_; clear hE a; intro a hE
  refine WL.vS hS hE (runs_plain rfl) (Gives.p hE rfl) rfl ?_; clear hE a; intro a hE
  refine WL.nil ?_
  refine W.seq ?_
  refine W.seq ?_
  refine W.region ?_
  refine WL.vS hS hE (runs_plain rfl) (Gives.loadBA hE 0 rfl rfl ty25) rfl ?_; clear hE a; intro a hE
  obtain ⟨q52, hq53, hr⟩ := bindS hr
  have hc_ := MendCheckRound_ok hS h0_0 h0_1 hq53
  refine WL.fnq hE (hc_) (runs_plain rfl) bd16 rfl rfl rfl ?_
  clear hE hS hc_; rintro e w ⟨rfl, hS⟩; refine ⟨_, rfl, ?_⟩; clear a; intro a hE
  refine WL.vS hS hE (runs_plain rfl) (Gives.p hE rfl) rfl ?_; clear hE a; intro a hE
  refine WL.nil ?_
  refine W.seq ?_
  refine W.region ?_
  refine WL.vS hS hE (runs_plain rfl) (Gives.p hE rfl) rfl ?_; clear hE a; intro a hE
  refine WL.vS hS hE (runs_plain rfl) (Gives.p hE rfl) rfl ?_; clear hE a; intro a hE
  refine WL.nil ?_
  refine W.cond hE rfl (fun hc54 => ?_) (fun hc54 => ?_)
  · replace hr := iteT hc54 hr
    refine W.seq ?_
    refine W.region ?_
    refine WL.vS hS hE (runs_plain rfl) (Gives.p hE rfl) rfl ?_; clear hE a; intro a hE
    refine WL.vS hS hE (runs_plain rfl) (Gives.p hE rfl) rfl ?_; clear hE a; intro a hE
    refine WL.vS hS hE (runs_plain rfl) (Gives.p hE rfl) rfl ?_; clear hE a; intro a hE
    refine WL.nil ?_
    refine W.ret ?_
    refine finG (fn := Try.f33) (rs := [.tmp 4, .tmp 5]) (vs := [_, _]) hE rfl ⟨rfl, rfl, trivial⟩ ?_
    obtain rfl := Option.some.inj hr
    replace hS := hS.tail
    exact ⟨rfl, hS⟩
  · replace hr := iteF hc54 hr
    refine W.skip ?_
    refine W.seq ?_
    refine W.block ?_
    refine W.seq ?_
    refine W.region ?_
    refine WL.vS hS hE (runs_plain rfl) (Gives.p hE rfl) rfl ?_; clear hE a; intro a hE
    refine WL.fnq hE (Mendwithin_ok hS  rfl (r := Mendwithin x1 0 28800)) (runs_plain rfl) bd54 rfl rfl rfl ?_
    clear hE hS; rintro e w ⟨rfl, hS⟩; refine ⟨_, rfl, ?_⟩; clear a; intro a hE
    refine WL.vS hS hE (runs_plain rfl) (Gives.p hE rfl) rfl ?_; clear hE a; intro a hE
    refine WL.vS hS hE (runs_plain rfl) (Gives.p hE rfl) rfl ?_; clear hE a; intro a hE
    refine WL.nil ?_
    refine W.cond hE rfl (fun hc55 => ?_) (fun hc55 => ?_)
    · replace hr := iteT hc55 hr
      refine W.seq ?_
      refine W.region ?_
      refine WL.vS hS hE (runs_plain rfl) (Gives.p hE rfl) rfl ?_; clear hE a; intro a hE
      refine WL.vS hS hE (runs_plain rfl) (Gives.p hE rfl) rfl ?_; clear hE a; intro a hE
      refine WL.nil ?_
      refine W.ret ?_
      refine finG (fn := Try.f33) (rs := [.tmp 4, .tmp 5]) (vs := [_, _]) hE rfl ⟨rfl, rfl, trivial⟩ ?_
      obtain rfl := Option.some.inj hr
      replace hS := hS.tail
      exact ⟨rfl, hS⟩
    · replace hr := iteF hc55 hr
      refine W.seq ?_
      refine W.region ?_
      refine WL.vS hS hE (runs_plain rfl) (Gives.p hE rfl) rfl ?_; clear hE a; intro a hE
      refine WL.vS hS hE (runs_plain rfl) (Gives.p hE rfl) rfl ?_; clear hE a; intro a hE
      refine WL.vS hS hE (runs_plain rfl) (Gives.p hE rfl) rfl ?_; clear hE a; intro a hE
      refine WL.nil ?_
      refine W.cond hE rfl (fun hc56 => ?_) (fun hc56 => ?_)
      · replace hr := iteT hc56 hr
        refine W.seq ?_
        refine W.region ?_
        refine WL.vS hS hE (runs_plain rfl) (Gives.p hE rfl) rfl ?_; clear hE a; intro a hE
        refine WL.vS hS hE (runs_plain rfl) (Gives.p hE rfl) rfl ?_; clear hE a; intro a hE
        refine WL.nil ?_
        refine W.ret ?_
        refine finG (fn := Try.f33) (rs := [.tmp 4, .tmp 5]) (vs := [_, _]) hE rfl ⟨rfl, rfl, trivial⟩ ?_
        obtain rfl := Option.some.inj hr
        replace hS := hS.tail
        exact ⟨rfl, hS⟩
      · replace hr := iteF hc56 hr
        refine W.seq ?_
        refine W.region ?_
        refine WL.vS hS hE (runs_plain rfl) (Gives.loadBA hE 0 rfl rfl ty25) rfl ?_; clear hE a; intro a hE
        obtain ⟨q57, hq58, hr⟩ := bindS hr
        have hc_ := MendRoundstable_ok hS h0_0 h0_1 hq58
        refine WL.fnq hE (hc_) (runs_plain rfl) bd50 rfl rfl rfl ?_
        clear hE hS hc_; rintro e w ⟨rfl, hS⟩; refine ⟨_, rfl, ?_⟩; clear a; intro a hE
        refine WL.vS hS hE (runs_plain rfl) (Gives.p hE rfl) rfl ?_; clear hE a; intro a hE
        refine WL.vS hS hE (runs_plain rfl) (Gives.p hE rfl) rfl ?_; clear hE a; intro a hE
        refine WL.nil ?_
        refine W.cond hE rfl (fun hc59 => ?_) (fun hc59 => ?_)
        · replace hr := iteT hc59 hr
          refine W.seq ?_
          refine W.region ?_
          refine WL.vS hS hE (runs_plain rfl) (Gives.p hE rfl) rfl ?_; clear hE a; intro a hE
          refine WL.vS hS hE (runs_plain rfl) (Gives.p hE rfl) rfl ?_; clear hE a; intro a hE
          refine WL.nil ?_
          refine W.ret ?_
          refine finG (fn := Try.f33) (rs := [.tmp 4, .tmp 5]) (vs := [_, _]) hE rfl ⟨rfl, rfl, trivial⟩ ?_
          obtain rfl := Option.some.inj hr
          replace hS := hS.tail
          exact ⟨rfl, hS⟩
        · replace hr := iteF hc59 hr
          refine W.skip ?_
          refine W.seq ?_
          refine W.region ?_
          refine WL.vS hS hE (runs_plain rfl) (Gives.p hE rfl) rfl ?_; clear hE a; intro a hE
          refine WL.lit hE hS (e := 3) (es := 1) (vs := [(0, .int .i64 x1)]) (cs := [.int .i64 x1]) (runs_plain rfl) rfl (by kernel_rfl) rfl ?_; clear hE hS a w; intro b60 a w hE hS
          replace hS := hS.ptVec (es := 1) (m := 1) rfl (by decide)
          have h62 : Ev 1 (RI .i64) s [.int .i64 x1] [x1] := (Ev.cons (c1 := [.int .i64 x1]) rfl rfl (Ev.nil))
          have hF := hS.fixD RI.mono 0 rfl h62 (rfl); clear hS; obtain ⟨s63, hle64, hS, h65⟩ := hF
          replace h0_0 := Sl.mono RI.mono hle64 h0_0
          replace h0_1 := Sl.mono RMendLink.mono hle64 h0_1
          refine WL.vS hS hE (runs_plain rfl) (Gives.fld hE rfl fl25_1) rfl ?_; clear hE a; intro a hE
          refine WL.vS hS hE (runs_plain rfl) (Gives.loadB hE 0 rfl rfl rfl ty22) rfl ?_; clear hE a; intro a hE
          refine WL.vS hS hE (runs_plain rfl) (Gives.len hE rfl sl22) rfl ?_; clear hE a; intro a hE
          obtain ⟨q66, hq67, hr⟩ := bindS hr
          have hc_ := SlicesRepeatLint_ok hS h65 hq67
          refine WL.fnq hE (hc_) (runs_plain rfl) bd57 rfl rfl rfl ?_
          clear hE hS hc_; rintro e w ⟨a68, c69, n70, cs71, rfl, h72, rfl, hS⟩; refine ⟨_, rfl, ?_⟩; clear a; intro a hE
          have hF := hS.fixD RI.mono 0 rfl h72 rfl; clear hS; obtain ⟨s74, hle75, hS, h76⟩ := hF
          replace h0_0 := Sl.mono RI.mono hle75 h0_0
          replace h0_1 := Sl.mono RMendLink.mono hle75 h0_1
          replace h65 := Sl.mono RI.mono hle75 h65
          refine WL.lit hE hS (e := 22) (es := 1) (vs := [(0, .slice a68 q66.length c69)]) (cs := [.slice a68 q66.length c69]) (runs_plain rfl) rfl (by kernel_rfl) rfl ?_; clear hE hS a w; intro b77 a w hE hS
          replace hS := hS.ptVec (es := 1) (m := 1) rfl (by decide)
          have h79 : Ev 1 (RL 1 (RI .i64)) s74 [.slice a68 q66.length c69] [q66] := (Ev.cons (c1 := [.slice a68 q66.length c69]) ⟨_, _, rfl, h76⟩ rfl (Ev.nil))
          have hF := hS.fixD (RL.mono RI.mono) 0 rfl h79 (rfl); clear hS; obtain ⟨s80, hle81, hS, h82⟩ := hF
          replace h0_0 := Sl.mono RI.mono hle81 h0_0
          replace h0_1 := Sl.mono RMendLink.mono hle81 h0_1
          replace h65 := Sl.mono RI.mono hle81 h65
          replace h76 := Sl.mono RI.mono hle81 h76
          refine WL.vS hS hE (runs_plain rfl) (Gives.p hE rfl) rfl ?_; clear hE a; intro a hE
          refine WL.nil ?_
          refine W.seq ?_
          refine W.region ?_
          refine WL.vS hS hE (runs_plain rfl) (Gives.p hE rfl) rfl ?_; clear hE a; intro a hE
          refine WL.nil ?_
          refine W.seq ?_
          refine W.seq ?_
          refine W.region ?_
          refine WL.vS hS hE (runs_plain rfl) (Gives.p hE rfl) rfl ?_; clear hE a; intro a hE
          refine WL.nil ?_
          obtain ⟨q84, hq83, hr⟩ := bindS hr
          refine W.cut (fun a w => ∃ (q89 : List (List Int)), ∃ (q93 : Int), ∃ (q94 : Int), ∃ (a90 : Option Addr), ∃ (c91 : Nat), ∃ (s87 : Sg), s80.Le s87 ∧ (q89, q93, q94) = q84 ∧ Sl 1 (RL 1 (RI .i64)) s87 a90 c91 q89 ∧ Rep a 61 [(8, .int .i64 q93)] ∧ St w s87 (pt b51 (.cells #[.int .i64 x0.Period, .slice a0_0 x0.Plan.length c0_0, .slice a0_1 x0.Links.length c0_1] 25 (0, 0)) :: R)) ?_ ?_
          · refine W.block ?_
            refine W.loop (fun m a w => ∃ (n85 : Nat), ∃ (q89 : List (List Int)), ∃ (q93 : Int), ∃ (q94 : Int), ∃ (a90 : Option Addr), ∃ (c91 : Nat), ∃ (s87 : Sg), n85 = m ∧ s80.Le s87 ∧ MendSettles.loop1 x0 fu n85 q89 q93 q94 = some q84 ∧ Sl 1 (RL 1 (RI .i64)) s87 a90 c91 q89 ∧ Rep a 61 [(2, .pointer (some ⟨b51, 0, none⟩)), (7, .slice a90 q89.length c91), (8, .int .i64 q93), (9, .int .i64 q94)] ∧ St w s87 (pt b51 (.cells #[.int .i64 x0.Period, .slice a0_0 x0.Plan.length c0_0, .slice a0_1 x0.Links.length c0_1] 25 (0, 0)) :: R)) (m := fu) ⟨fu, [q66], 0, 1, (some ⟨b77, 0, none⟩), 1, s80, rfl, (Sg.Le.refl _), hq83, h82, hE.pick _ ⟨rfl, rfl, rfl, rfl, trivial⟩, hS⟩ ?_
            clear hE hS a w hq83; rintro m86 a w ⟨n85, q89, q93, q94, a90, c91, s87, rfl, hle88, hq83, h92, hE, hS⟩
            refine W.gen fun K95 hK95 => ?_
            replace h0_0 := Sl.mono RI.mono hle88 h0_0
            replace h0_1 := Sl.mono RMendLink.mono hle88 h0_1
            replace h65 := Sl.mono RI.mono hle88 h65
            replace h76 := Sl.mono RI.mono hle88 h76
            replace h82 := Sl.mono (RL.mono RI.mono) hle88 h82
            rcases n85 with _ | n85
            · rw [MendSettles.loop1] at hq83; exact absurd hq83 (by simp)
            rw [MendSettles.loop1] at hq83
            refine W.seq ?_
            refine W.seq ?_
            refine W.region ?_
            refine WL.vS hS hE (runs_plain rfl) (Gives.p hE rfl) rfl ?_; clear hE a; intro a hE
            refine WL.vS hS hE (runs_plain rfl) (Gives.p hE rfl) rfl ?_; clear hE a; intro a hE
            refine WL.vS hS hE (runs_plain rfl) (Gives.p hE rfl) rfl ?_; clear hE a; intro a hE
            refine WL.vS hS hE (runs_plain rfl) (Gives.p hE rfl) rfl ?_; clear hE a; intro a hE
            refine WL.nil ?_
            refine W.cond hE rfl (fun hc96 => ?_) (fun hc96 => ?_)
            · replace hq83 := iteT hc96 hq83
              refine W.skip ?_
              refine W.seq ?_
              refine W.block ?_
              refine W.seq ?_
              refine W.gen fun K97 hK97 => ?_
              refine W.regionE (sel (fun w => St w s87 (pt b51 (.cells #[.int .i64 x0.Period, .slice a0_0 x0.Plan.length c0_0, .slice a0_1 x0.Links.length c0_1] 25 (0, 0)) :: R)) (fun w => St w s87 (pt b51 (.cells #[.int .i64 x0.Period, .slice a0_0 x0.Plan.length c0_0, .slice a0_1 x0.Links.length c0_1] 25 (0, 0)) :: R))) (fun b i => cond b ([0, 1, 2, 3, 4, 5, 6, 7].contains i) ([0, 1, 2, 3, 4, 5, 6, 7].contains i)) mixed ?_
              replace hS := hS.drew
              have hT := tw_sel (A := fun w => St w s87 (pt b51 (.cells #[.int .i64 x0.Period, .slice a0_0 x0.Plan.length c0_0, .slice a0_1 x0.Links.length c0_1] 25 (0, 0)) :: R)) (B := fun w => St w s87 (pt b51 (.cells #[.int .i64 x0.Period, .slice a0_0 x0.Plan.length c0_0, .slice a0_1 x0.Links.length c0_1] 25 (0, 0)) :: R)) (w := _) (x := true) (y := true) (fun _ => hS) (fun _ => hS)
              have hF := hS; replace hS := hS
              refine Rg.take (i := 0) true rfl hE rfl (by kernel_rfl) (runs_plain rfl) (Gives.loadBA hE 0 rfl rfl ty25) rfl hT ?_; clear hE a; intro a hE
              replace hS := hF; clear hF hT
              refine Rg.takeP (i := 1) hE rfl (by kernel_rfl) (runs_plain rfl) (Gives.fld hE rfl fl25_1) rfl (tw_sel (fun _ => hS) (fun _ => hS)) ?_; clear hE a; intro a hE
              have hT := tw_sel (A := fun w => St w s87 (pt b51 (.cells #[.int .i64 x0.Period, .slice a0_0 x0.Plan.length c0_0, .slice a0_1 x0.Links.length c0_1] 25 (0, 0)) :: R)) (B := fun w => St w s87 (pt b51 (.cells #[.int .i64 x0.Period, .slice a0_0 x0.Plan.length c0_0, .slice a0_1 x0.Links.length c0_1] 25 (0, 0)) :: R)) (w := _) (x := true) (y := true) (fun _ => hS) (fun _ => hS)
              have hF := hS; replace hS := hS
              refine Rg.take (i := 2) true rfl hE rfl (by kernel_rfl) (runs_plain rfl) (Gives.loadB hE 0 rfl rfl rfl ty22) rfl hT ?_; clear hE a; intro a hE
              replace hS := hF; clear hF hT
              refine Rg.takeP (i := 3) hE rfl (by kernel_rfl) (runs_plain rfl) (Gives.len hE rfl sl22) rfl (tw_sel (fun _ => hS) (fun _ => hS)) ?_; clear hE a; intro a hE
              refine Rg.takeP (i := 5) hE rfl (by kernel_rfl) (runs_plain rfl) (Gives.p hE rfl) rfl (tw_sel (fun _ => hS) (fun _ => hS)) ?_; clear hE a; intro a hE
              refine Rg.one (i := 4) true true rfl (by kernel_rfl) (by kernel_rfl) (by kernel_rfl) ?_
              obtain ⟨x98, hx99, hq83⟩ := bindS hq83
              refine WL.mkD (Rr := RI .i64) hE hS (runs_plain rfl) rfl rfl ap22 zr3 rfl hx99 rfl ?_; clear hE hS a w; intro b100 cs101 a w h102 hE hS
              refine WL.nil ?_
              refine ⟨⟨fun _ => (hS.tail), fun _ => (hS.tail)⟩, ?_⟩
              refine Rg.one (i := 6) true true rfl (by kernel_rfl) (by kernel_rfl) (by kernel_rfl) ?_
              obtain ⟨q104, hq105, hq83⟩ := bindS hq83
              have hF := hS.lendV RI.mono 0 rfl h102 (rfl); clear hS; obtain ⟨t112, hle113, hS, hs114, bk115⟩ := hF
              have hc_ := MendRoundfollow_ok hS (Sl.mono RI.mono hle113 h0_0) (Sl.mono RMendLink.mono hle113 h0_1) hs114 (Sl.mono (RL.mono RI.mono) hle113 h92) hq105
              refine WL.fnq hE (hc_) (runs_plain rfl) bd60 rfl rfl rfl ?_
              clear hE hS hc_; rintro e w ⟨a106, c107, n108, cs109, rfl, h110, rfl, hS⟩; refine ⟨_, rfl, ?_⟩; clear a; intro a hE
              replace hS := bk115 _ _ hS
              replace h110 := Ev.flat (s2 := s87) (fun _ _ _ _ h => h) h110
              refine WL.nil ?_
              refine ⟨⟨fun _ => ((hS.tail).tail), fun _ => ((hS.tail).tail)⟩, ?_⟩
              refine Rg.takeP (i := 7) hE rfl (by kernel_rfl) (runs_plain rfl) (Gives.p hE rfl) rfl (tw_sel (fun _ => ((hS.tail).tail)) (fun _ => ((hS.tail).tail))) ?_; clear hE a; intro a hE
              refine Rg.done (by kernel_rfl) ?_
              subst hK97
              refine W.seq ?_
              refine W.seq ?_
              refine W.region ?_
              refine WL.vS hS hE (runs_plain rfl) (Gives.p hE rfl) rfl ?_; clear hE a; intro a hE
              have hF := hS.lendV RI.mono 1 rfl h110 rfl; clear hS; obtain ⟨t116, hle117, hS, hs118, bk119⟩ := hF
              refine WL.fnq hE (Mendgreatestint_ok hS hs118 rfl (r := Mendgreatestint 0 q104)) (runs_plain rfl) bd76 rfl rfl rfl ?_
              clear hE hS; rintro e w ⟨rfl, hS⟩; refine ⟨_, rfl, ?_⟩; clear a; intro a hE
              replace hS := bk119 _ _ hS
              refine WL.vS hS hE (runs_plain rfl) (Gives.p hE rfl) rfl ?_; clear hE a; intro a hE
              refine WL.nil ?_
              obtain ⟨q121, hq120, hq83⟩ := bndS hq83
              refine W.cut (fun a w => ∃ (q124 : Int), q124 = q121 ∧ Rep a 61 [(2, .pointer (some ⟨b51, 0, none⟩)), (7, .slice a90 q89.length c91), (8, .int .i64 q124), (9, .int .i64 q94), (10, .slice a106 q104.length c107)] ∧ St w s87 (vecC 3 1 a106 c107 q104.length cs109 :: pt b51 (.cells #[.int .i64 x0.Period, .slice a0_0 x0.Plan.length c0_0, .slice a0_1 x0.Links.length c0_1] 25 (0, 0)) :: R)) ?_ ?_
              · refine W.gen fun K125 hK125 => ?_
                refine W.cond hE rfl (fun hc126 => ?_) (fun hc126 => ?_)
                · replace hq120 := iteT hc126 hq120
                  refine W.region ?_
                  refine WL.vS hS hE (runs_plain rfl) (Gives.p hE rfl) rfl ?_; clear hE a; intro a hE
                  refine WL.vS hS hE (runs_plain rfl) (Gives.p hE rfl) rfl ?_; clear hE a; intro a hE
                  refine WL.nil ?_
                  replace hS := hS.dropAt 1
                  subst hK125
                  exact ⟨q94, hq120, hE.pick _ ⟨rfl, rfl, rfl, rfl, rfl, trivial⟩, hS⟩
                · replace hq120 := iteF hc126 hq120
                  refine W.skip ?_
                  replace hS := hS.dropAt 1
                  subst hK125
                  exact ⟨q93, hq120, hE.pick _ ⟨rfl, rfl, rfl, rfl, rfl, trivial⟩, hS⟩
              · clear hE hS a w; rintro a w ⟨q124, rfl, hE, hS⟩
                refine W.region ?_
                refine WL.vS hS hE (runs_plain rfl) (Gives.p hE rfl) rfl ?_; clear hE a; intro a hE
                have hF := hS.fixD RI.mono 0 rfl h110 rfl; clear hS; obtain ⟨s127, hle128, hS, h129⟩ := hF
                replace h92 := Sl.mono (RL.mono RI.mono) hle128 h92
                replace h0_0 := Sl.mono RI.mono hle128 h0_0
                replace h0_1 := Sl.mono RMendLink.mono hle128 h0_1
                refine WL.lit hE hS (e := 22) (es := 1) (vs := [(0, .slice a106 q104.length c107)]) (cs := [.slice a106 q104.length c107]) (runs_plain rfl) rfl (by kernel_rfl) rfl ?_; clear hE hS a w; intro b130 a w hE hS
                replace hS := hS.ptVec (es := 1) (m := 1) rfl (by decide)
                have h132 : Ev 1 (RL 1 (RI .i64)) s127 [.slice a106 q104.length c107] [q104] := (Ev.cons (c1 := [.slice a106 q104.length c107]) ⟨_, _, rfl, h129⟩ rfl (Ev.nil))
                refine WL.vS hS hE (runs_plain rfl) (Gives.p hE rfl) rfl ?_; clear hE a; intro a hE
                refine WL.vS hS hE (runs_plain rfl) (Gives.p hE rfl) rfl ?_; clear hE a; intro a hE
                refine WL.vS hS hE (runs_plain rfl) (Gives.len hE rfl sl40) rfl ?_; clear hE a; intro a hE
                refine WL.vS hS hE (runs_plain rfl) (Gives.min2 hE rfl rfl) rfl ?_; clear hE a; intro a hE
                obtain ⟨x133, hx134, hq83⟩ := bindS hq83
                obtain ⟨a135, c136, heq137, h138⟩ := h92.cut hx134
                obtain ⟨h139, h140, h141, _⟩ := cutl_some hx134
                refine WL.vS hS hE (runs_plain rfl) (Gives.slH hE sl40 rfl rfl (by omega) (by have := h92.len; omega) heq137) rfl ?_; clear hE a; intro a hE
                obtain ⟨x142, hx143, hq83⟩ := bindS hq83
                refine WL.appS hE hS 0 (runs_plain rfl) rfl rfl (xs := x133) rfl rfl ap40 RL.one h132 (rfl) h138 hx143 rfl ?_; clear hE hS a w; intro a144 c145 cs146 a w h147 hE hS
                refine WL.vS hS hE (runs_plain rfl) (Gives.p hE rfl) rfl ?_; clear hE a; intro a hE
                refine WL.nil ?_
                refine W.region ?_
                refine WL.vS hS hE (runs_plain rfl) (Gives.p hE rfl) rfl ?_; clear hE a; intro a hE
                refine WL.vS hS hE (runs_plain rfl) (Gives.p hE rfl) rfl ?_; clear hE a; intro a hE
                refine WL.vS hS hE (runs_plain rfl) (Gives.p hE rfl) rfl ?_; clear hE a; intro a hE
                refine WL.nil ?_
                have hF := hS.fixD (RL.mono RI.mono) 0 rfl h147 (rfl); clear hS; obtain ⟨s148, hle149, hS, h150⟩ := hF
                replace h129 := Sl.mono RI.mono hle149 h129
                replace h92 := Sl.mono (RL.mono RI.mono) hle149 h92
                replace h138 := Sl.mono (RL.mono RI.mono) hle149 h138
                replace h0_0 := Sl.mono RI.mono hle149 h0_0
                replace h0_1 := Sl.mono RMendLink.mono hle149 h0_1
                subst hK95
                exact ⟨n85, Nat.lt_succ_self _, n85, x142, q124, (w64 (q94 + 1)), a144, c145, s148, rfl, (Sg.Le.trans (Sg.Le.trans hle88 hle128) hle149), hq83, h150, hE.pick _ ⟨rfl, rfl, rfl, rfl, trivial⟩, hS⟩
            · replace hq83 := iteF hc96 hq83
              subst hK95
              refine W.exit rfl ?_
              exact ⟨q89, q93, q94, a90, c91, s87, hle88, Option.some.inj hq83, h92, hE.pick _ ⟨rfl, trivial⟩, hS⟩
          · clear hE hS a w; rintro a w ⟨q89, q93, q94, a90, c91, s87, hle88, rfl, h92, hE, hS⟩
            dsimp only at hr
            replace h0_0 := Sl.mono RI.mono hle88 h0_0
            replace h0_1 := Sl.mono RMendLink.mono hle88 h0_1
            replace h65 := Sl.mono RI.mono hle88 h65
            replace h76 := Sl.mono RI.mono hle88 h76
            replace h82 := Sl.mono (RL.mono RI.mono) hle88 h82
            refine W.seq ?_
            refine W.region ?_
            refine WL.vS hS hE (runs_plain rfl) (Gives.p hE rfl) rfl ?_; clear hE a; intro a hE
            refine WL.vS hS hE (runs_plain rfl) (Gives.p hE rfl) rfl ?_; clear hE a; intro a hE
            refine WL.vS hS hE (runs_plain rfl) (Gives.p hE rfl) rfl ?_; clear hE a; intro a hE
            refine WL.vS hS hE (runs_plain rfl) (Gives.p hE rfl) rfl ?_; clear hE a; intro a hE
            refine WL.nil ?_
            refine W.ret ?_
            refine finG (fn := Try.f33) (rs := [.tmp 4, .tmp 5]) (vs := [_, _]) hE rfl ⟨rfl, rfl, trivial⟩ ?_
            obtain rfl := Option.some.inj hr
            replace hS := hS.tail
            exact ⟨rfl, (hS.down (Sg.Le.trans (Sg.Le.trans (Sg.Le.trans hle64 hle75) hle81) hle88))⟩
set_option maxHeartbeats 8000000 in
theorem MendRoom_ok {fu : Nat}  {w : World} {s : Sg} {R : List HP} {x0 : MendRound} {a0_0 : Option Addr} {c0_0 : Nat} {a0_1 : Option Addr} {c0_1 : Nat} (hS : St w s (R)) (h0_0 : Sl 1 (RI .i64) s a0_0 c0_0 x0.Plan) (h0_1 : Sl 4 RMendLink s a0_1 c0_1 x0.Links) {r : (List (List Int)) × Int} (hr : MendRoom fu x0 = some r) :
    Calls Try.prog 34 [.agg [.int .i64 x0.Period, .slice a0_0 x0.Plan.length c0_0, .slice a0_1 x0.Links.length c0_1].toArray].toArray w (fun e w => ∃ (a0 : Option Addr) (c0 : Nat) (t : Sg), e = .returned (.tuple #[.slice a0 r.1.length c0, .int .i64 r.2]) ∧ s.Le t ∧ Sl 1 (RL 1 (RI .i64)) t a0 c0 r.1 ∧ St w t (R)) := by
  refine enter Try.func34 rfl rfl rfl fun a hE => ?_
  rw [MendRoom] at hr
  refine W.seq ?_
  refine W.region ?_
  refine WL.box hE hS (runs_plain rfl) rfl rfl rfl ?_; clear hE hS a w; intro b51 a w hE hS
  refine WL.vS hS hE (runs_plain rfl) (Gives.p hE rfl) rfl ?_; clear hE a; intro a hE
  refine WL.vS hS hE (runs_plain rfl) (Gives.p hE rfl) rfl ?_; clear hE a; intro a hE
  refine WL.nil ?_
  refine W.seq ?_
  refine W.seq ?_
  refine W.region ?_
  refine WL.vS hS hE (runs_plain rfl) (Gives.loadBA hE 0 rfl rfl ty25) rfl ?_; clear hE a; intro a hE
  obtain ⟨q52, hq53, hr⟩ := bindS hr
  have hc_ := MendCheckRound_ok hS h0_0 h0_1 hq53
  refine WL.fnq hE (hc_) (runs_plain rfl) bd16 rfl rfl rfl ?_
  clear hE hS hc_; rintro e w ⟨rfl, hS⟩; refine ⟨_, rfl, ?_⟩; clear a; intro a hE
  refine WL.vS hS hE (runs_plain rfl) (Gives.p hE rfl) rfl ?_; clear hE a; intro a hE
  refine WL.nil ?_
  refine W.seq ?_
  refine W.region ?_
  refine WL.vS hS hE (runs_plain rfl) (Gives.p hE rfl) rfl ?_; clear hE a; intro a hE
  refine WL.vS hS hE (runs_plain rfl) (Gives.p hE rfl) rfl ?_; clear hE a; intro a hE
  refine WL.nil ?_
  refine W.cond hE rfl (fun hc54 => ?_) (fun hc54 => ?_)
  · replace hr := iteT hc54 hr
    refine W.seq ?_
    refine W.region ?_
    refine WL.vS hS hE (runs_plain rfl) (Gives.p hE rfl) rfl ?_; clear hE a; intro a hE
    refine WL.vS hS hE (runs_plain rfl) (Gives.p hE rfl) rfl ?_; clear hE a; intro a hE
    refine WL.vS hS hE (runs_plain rfl) (Gives.p hE rfl) rfl ?_; clear hE a; intro a hE
    refine WL.nil ?_
    refine W.ret ?_
    refine finG (fn := Try.f34) (rs := [.tmp 2, .tmp 3]) (vs := [_, _]) hE rfl ⟨rfl, rfl, trivial⟩ ?_
    obtain rfl := Option.some.inj hr
    replace hS := hS.tail
    exact ⟨none, 0, s, rfl, (Sg.Le.refl _), Sl.nil, hS⟩
  · replace hr := iteF hc54 hr
    refine W.skip ?_
    refine W.seq ?_
    refine W.region ?_
    refine WL.vS hS hE (runs_plain rfl) (Gives.fld hE rfl fl25_1) rfl ?_; clear hE a; intro a hE
    refine WL.vS hS hE (runs_plain rfl) (Gives.loadB hE 0 rfl rfl rfl ty22) rfl ?_; clear hE a; intro a hE
    refine WL.vS hS hE (runs_plain rfl) (Gives.len hE rfl sl22) rfl ?_; clear hE a; intro a hE
    obtain ⟨x55, hx56, hr⟩ := bindS hr
    refine WL.mkND (Rr := RI .i64) (Ti := 3) (es := 1) hE hS (runs_plain rfl) rfl rfl ap40 zr22 hx56 rfl ?_; clear hE hS a w; intro b57 ds58 a w h59 hE hS
    refine WL.vS hS hE (runs_plain rfl) (Gives.p hE rfl) rfl ?_; clear hE a; intro a hE
    refine WL.nil ?_
    refine W.seq ?_
    refine W.seq ?_
    refine W.region ?_
    refine WL.vS hS hE (runs_plain rfl) (Gives.p hE rfl) rfl ?_; clear hE a; intro a hE
    refine WL.vS hS hE (runs_plain rfl) (Gives.len hE rfl sl40) rfl ?_; clear hE a; intro a hE
    refine WL.vS hS hE (runs_plain rfl) (Gives.p hE rfl) rfl ?_; clear hE a; intro a hE
    refine WL.nil ?_
    have hb72 : x55.length ≤ 9223372036854775807 := by have := hS.nCap 0 rfl; unfold maxLen at this; omega
    obtain ⟨q62, hq61, hr⟩ := bindS hr
    refine W.cut (fun a w => ∃ (q73 : List (List Int)), ∃ (ds77 : List In), ∃ (s70 : Sg), s.Le s70 ∧ q73 = q62 ∧ NEv 1 (RI .i64) s70 ds77 q73 ∧ q73.length = x55.length ∧ Rep a 100 [(5, .slice (some ⟨b57, 0, none⟩) x55.length x55.length)] ∧ St w s70 (nestC 22 3 1 (some ⟨b57, 0, none⟩) x55.length x55.length ds77 :: pt b51 (.cells #[.int .i64 x0.Period, .slice a0_0 x0.Plan.length c0_0, .slice a0_1 x0.Links.length c0_1] 25 (0, 0)) :: R)) ?_ ?_
    · refine W.block ?_
      refine W.loop (fun m a w => ∃ (rest65 : Nat) (k63 : Nat), ∃ (q73 : List (List Int)), ∃ (ds77 : List In), ∃ (s70 : Sg), rest65 = m ∧ k63 + rest65 = x55.length ∧ s.Le s70 ∧ MendRoom.loop1 x0 fu rest65 k63 q73 = some q62 ∧ NEv 1 (RI .i64) s70 ds77 q73 ∧ q73.length = x55.length ∧ Rep a 100 [(1, .pointer (some ⟨b51, 0, none⟩)), (5, .slice (some ⟨b57, 0, none⟩) x55.length x55.length), (21, .int .i64 ((x55.length : Nat) : Int)), (22, .int .i64 ((k63 : Nat) : Int))] ∧ St w s70 (nestC 22 3 1 (some ⟨b57, 0, none⟩) x55.length x55.length ds77 :: pt b51 (.cells #[.int .i64 x0.Period, .slice a0_0 x0.Plan.length c0_0, .slice a0_1 x0.Links.length c0_1] 25 (0, 0)) :: R)) (m := x55.length) ⟨x55.length, 0, x55, ds58, s, rfl, by omega, (Sg.Le.refl _), hq61, h59, (rfl), hE.pick _ ⟨rfl, rfl, rfl, rfl, trivial⟩, hS⟩ ?_
      clear hE hS a w hq61; rintro m69 a w ⟨rest65, k63, q73, ds77, s70, rfl, hd66, hle71, hq61, h78, hn79, hE, hS⟩
      refine W.gen fun K80 hK80 => ?_
      replace h0_0 := Sl.mono RI.mono hle71 h0_0
      replace h0_1 := Sl.mono RMendLink.mono hle71 h0_1
      replace h59 := NEv.mono RI.mono hle71 h59
      rcases rest65 with _ | rest65
      · skip
        refine W.seq ?_
        refine W.region ?_
        refine WL.vS hS hE (runs_plain rfl) (Gives.p hE rfl) rfl ?_; clear hE a; intro a hE
        refine WL.nil ?_
        refine W.seq ?_
        refine W.condF hE rfl (decide_eq_false (by omega)) ?_
        subst hK80
        refine W.exit rfl ?_
        exact ⟨q73, ds77, s70, hle71, Option.some.inj hq61, h78, hn79, hE.pick _ ⟨rfl, trivial⟩, hS⟩
      · have hlt67 : k63 < x55.length := by omega
        rw [MendRoom.loop1] at hq61
        refine W.seq ?_
        refine W.region ?_
        refine WL.vS hS hE (runs_plain rfl) (Gives.p hE rfl) rfl ?_; clear hE a; intro a hE
        refine WL.nil ?_
        refine W.seq ?_
        refine W.condT hE rfl (decide_eq_true (by omega)) ?_
        refine W.skip ?_
        refine W.seq ?_
        refine W.block ?_
        refine W.seq ?_
        refine W.region ?_
        refine WL.vS hS hE (runs_plain rfl) (Gives.p hE rfl) rfl ?_; clear hE a; intro a hE
        refine WL.vS hS hE (runs_plain rfl) (Gives.p hE rfl) rfl ?_; clear hE a; intro a hE
        refine WL.nil ?_
        refine W.seq ?_
        refine W.region ?_
        refine WL.vS hS hE (runs_plain rfl) (Gives.p hE rfl) rfl ?_; clear hE a; intro a hE
        refine WL.vS hS hE (runs_plain rfl) (Gives.p hE rfl) rfl ?_; clear hE a; intro a hE
        refine WL.lit hE hS (e := 3) (es := 1) (vs := [(0, .int .i64 (-1))]) (cs := [.int .i64 (-1)]) (runs_plain rfl) rfl (by kernel_rfl) rfl ?_; clear hE hS a w; intro b81 a w hE hS
        replace hS := hS.ptVec (es := 1) (m := 1) rfl (by decide)
        have h83 : Ev 1 (RI .i64) s70 [.int .i64 (-1)] [(-1)] := (Ev.cons (c1 := [.int .i64 (-1)]) rfl rfl (Ev.nil))
        have hF := hS.fixD RI.mono 0 rfl h83 (rfl); clear hS; obtain ⟨s84, hle85, hS, h86⟩ := hF
        replace h78 := NEv.mono RI.mono hle85 h78
        replace h0_0 := Sl.mono RI.mono hle85 h0_0
        replace h0_1 := Sl.mono RMendLink.mono hle85 h0_1
        refine WL.vS hS hE (runs_plain rfl) (Gives.fld hE rfl fl25_1) rfl ?_; clear hE a; intro a hE
        refine WL.vS hS hE (runs_plain rfl) (Gives.loadB hE 1 rfl rfl rfl ty22) rfl ?_; clear hE a; intro a hE
        refine WL.vS hS hE (runs_plain rfl) (Gives.len hE rfl sl22) rfl ?_; clear hE a; intro a hE
        obtain ⟨q87, hq88, hq61⟩ := bindS hq61
        have hc_ := SlicesRepeatLint_ok hS h86 hq88
        refine WL.fnq hE (hc_) (runs_plain rfl) bd57 rfl rfl rfl ?_
        clear hE hS hc_; rintro e w ⟨a89, c90, n91, cs92, rfl, h93, rfl, hS⟩; refine ⟨_, rfl, ?_⟩; clear a; intro a hE
        obtain ⟨_, hx95, hq61⟩ := bindS hq61
        obtain ⟨h96, h97⟩ := ix_some hx95
        refine WL.vS hS hE (runs_plain rfl) (Gives.idx hE ((((k63 : Nat) : Int)).toNat) rfl rfl sl40 h96 (by have := hn79; omega) (hS.nAok 1 rfl (by have := hn79; omega : (((k63 : Nat) : Int)).toNat < x55.length))) rfl ?_; clear hE a; intro a hE
        obtain ⟨d98, hd99⟩ : ∃ d, ds77[(((k63 : Nat) : Int)).toNat]? = some d := ⟨_, List.getElem?_eq_getElem (by have h1 := h78.len; have h2 := hn79; omega)⟩
        replace hS := (hS.borrow 1 rfl hd99).tail
        obtain ⟨x100, hx101, hq61⟩ := bindS hq61
        refine WL.storeND hE hS 0 rfl (runs_plain rfl) rfl rfl ty22 h78 hn79 (by have := (sx_some hx101).1; omega) hx101 h93 rfl rfl ?_; clear hE hS a w; intro ds102 a w h103 hn104 hE hS
        refine WL.nil ?_
        refine W.seq ?_
        refine W.region ?_
        refine WL.vS hS hE (runs_plain rfl) (Gives.p hE rfl) rfl ?_; clear hE a; intro a hE
        refine WL.vS hS hE (runs_plain rfl) (Gives.p hE rfl) rfl ?_; clear hE a; intro a hE
        obtain ⟨x105, hx106, hq61⟩ := bindS hq61
        obtain ⟨hi107, hlt108, hy109⟩ := gx_some hx106
        obtain ⟨a110, c111, cs112, hd113, hev114⟩ := h103.at hy109
        refine WL.vS hS hE (runs_plain rfl) (Gives.idx hE ((((k63 : Nat) : Int)).toNat) rfl rfl sl40 hi107 (by have := hn104; omega) (hS.nAok 0 rfl (by have := hn104; omega : (((k63 : Nat) : Int)).toNat < x55.length))) rfl ?_; clear hE a; intro a hE
        refine WL.vS hS hE (runs_plain rfl) (Gives.load1 (v := .slice a110 x105.length c111) hE rfl (fun w h => St.nSees h 0 rfl hd113) ty22) rfl ?_; clear hE a; intro a hE
        refine WL.vS hS hE (runs_plain rfl) (Gives.p hE rfl) rfl ?_; clear hE a; intro a hE
        replace hS := hS.borrowM 0 rfl hd113
        obtain ⟨_, hx117, hq61⟩ := bindS hq61
        obtain ⟨h118, h119⟩ := ix_some hx117
        refine WL.vS hS hE (runs_plain rfl) (Gives.idx hE ((((k63 : Nat) : Int)).toNat) rfl rfl sl22 h118 (by omega) (hS.vecAok 0 rfl (by omega : (((k63 : Nat) : Int)).toNat < x105.length))) rfl ?_; clear hE a; intro a hE
        obtain ⟨x121, hx122, hq61⟩ := bindS hq61
        refine WL.setD hE hS 0 rfl (runs_plain rfl) rfl rfl (vs := [.int .i64 0]) rfl ty3 rfl rfl rfl hev114 (rfl) (sx_some hx122).1 hx122 rfl rfl ?_; clear hE hS a w; intro cs123 a w h124 hn125 hE hS
        refine WL.nil ?_
        refine W.seq ?_
        refine W.region ?_
        refine WL.vS hS hE (runs_plain rfl) (Gives.p hE rfl) rfl ?_; clear hE a; intro a hE
        refine WL.nil ?_
        replace hS := hS.giveBack 0 rfl hd113
        have h127 := h103.set (k := (((k63 : Nat) : Int)).toNat) (d := ⟨a110, c111, x105.length, cs123⟩) h124 hn125
        have hn128 : (x100.set ((((k63 : Nat) : Int)).toNat) x121).length = x55.length := by simp; exact hn104
        generalize List.set ds102 ((((k63 : Nat) : Int)).toNat) _ = ds126 at hS h127
        obtain ⟨q130, hq129, hq61⟩ := bindS hq61
        refine W.cut (fun a w => ∃ (q135 : Bool), ∃ (q136 : List (List Int)), ∃ (ds140 : List In), (q135, q136) = q130 ∧ NEv 1 (RI .i64) s84 ds140 q136 ∧ q136.length = x55.length ∧ Rep a 100 [(1, .pointer (some ⟨b51, 0, none⟩)), (5, .slice (some ⟨b57, 0, none⟩) x55.length x55.length), (21, .int .i64 ((x55.length : Nat) : Int)), (22, .int .i64 ((k63 : Nat) : Int))] ∧ St w s84 (nestC 22 3 1 (some ⟨b57, 0, none⟩) x55.length x55.length ds140 :: pt b51 (.cells #[.int .i64 x0.Period, .slice a0_0 x0.Plan.length c0_0, .slice a0_1 x0.Links.length c0_1] 25 (0, 0)) :: R)) ?_ ?_
        · refine W.block ?_
          refine W.loop (fun m a w => ∃ (n131 : Nat), ∃ (q135 : Bool), ∃ (q136 : List (List Int)), ∃ (ds140 : List In), n131 = m ∧ MendRoom.loop2 x0 k63 n131 q135 q136 = some q130 ∧ NEv 1 (RI .i64) s84 ds140 q136 ∧ q136.length = x55.length ∧ Rep a 100 [(1, .pointer (some ⟨b51, 0, none⟩)), (5, .slice (some ⟨b57, 0, none⟩) x55.length x55.length), (6, .int .i64 ((k63 : Nat) : Int)), (7, .bool q135), (21, .int .i64 ((x55.length : Nat) : Int)), (22, .int .i64 ((k63 : Nat) : Int))] ∧ St w s84 (nestC 22 3 1 (some ⟨b57, 0, none⟩) x55.length x55.length ds140 :: pt b51 (.cells #[.int .i64 x0.Period, .slice a0_0 x0.Plan.length c0_0, .slice a0_1 x0.Links.length c0_1] 25 (0, 0)) :: R)) (m := fu) ⟨fu, true, (x100.set ((((k63 : Nat) : Int)).toNat) x121), ds126, rfl, hq129, h127, hn128, hE.pick _ ⟨rfl, rfl, rfl, rfl, rfl, rfl, trivial⟩, hS⟩ ?_
          clear hE hS a w hq129; rintro m132 a w ⟨n131, q135, q136, ds140, rfl, hq129, h141, hn142, hE, hS⟩
          refine W.gen fun K143 hK143 => ?_
          rcases n131 with _ | n131
          · rw [MendRoom.loop2] at hq129; exact absurd hq129 (by simp)
          rw [MendRoom.loop2] at hq129
          refine W.seq ?_
          refine W.seq ?_
          refine W.region ?_
          refine WL.vS hS hE (runs_plain rfl) (Gives.p hE rfl) rfl ?_; clear hE a; intro a hE
          refine WL.nil ?_
          refine W.cond hE rfl (fun hc144 => ?_) (fun hc144 => ?_)
          · replace hq129 := iteT hc144 hq129
            refine W.skip ?_
            refine W.block ?_
            refine W.seq ?_
            refine W.region ?_
            refine WL.vS hS hE (runs_plain rfl) (Gives.p hE rfl) rfl ?_; clear hE a; intro a hE
            refine WL.nil ?_
            refine W.seq ?_
            refine W.region ?_
            refine WL.vS hS hE (runs_plain rfl) (Gives.fld hE rfl fl25_2) rfl ?_; clear hE a; intro a hE
            refine WL.vS hS hE (runs_plain rfl) (Gives.loadB hE 1 rfl rfl rfl ty23) rfl ?_; clear hE a; intro a hE
            refine WL.vS hS hE (runs_plain rfl) (Gives.len hE rfl sl23) rfl ?_; clear hE a; intro a hE
            refine WL.vS hS hE (runs_plain rfl) (Gives.p hE rfl) rfl ?_; clear hE a; intro a hE
            refine WL.nil ?_
            obtain ⟨q146, hq145, hq129⟩ := bindS hq129
            refine W.cut (fun a w => ∃ (q156 : Bool), ∃ (q157 : List (List Int)), ∃ (ds161 : List In), (q156, q157) = q146 ∧ NEv 1 (RI .i64) s84 ds161 q157 ∧ q157.length = x55.length ∧ Rep a 100 [(1, .pointer (some ⟨b51, 0, none⟩)), (5, .slice (some ⟨b57, 0, none⟩) x55.length x55.length), (6, .int .i64 ((k63 : Nat) : Int)), (7, .bool q156), (21, .int .i64 ((x55.length : Nat) : Int)), (22, .int .i64 ((k63 : Nat) : Int))] ∧ St w s84 (nestC 22 3 1 (some ⟨b57, 0, none⟩) x55.length x55.length ds161 :: pt b51 (.cells #[.int .i64 x0.Period, .slice a0_0 x0.Plan.length c0_0, .slice a0_1 x0.Links.length c0_1] 25 (0, 0)) :: R)) ?_ ?_
            · refine W.block ?_
              refine W.loop (fun m a w => ∃ (rest149 : List MendLink) (k147 : Nat), ∃ (q156 : Bool), ∃ (q157 : List (List Int)), ∃ (ds161 : List In), rest149.length = m ∧ x0.Links.drop k147 = rest149 ∧ MendRoom.loop3 x0 k63 rest149 q156 q157 = some q146 ∧ NEv 1 (RI .i64) s84 ds161 q157 ∧ q157.length = x55.length ∧ Rep a 100 [(1, .pointer (some ⟨b51, 0, none⟩)), (5, .slice (some ⟨b57, 0, none⟩) x55.length x55.length), (6, .int .i64 ((k63 : Nat) : Int)), (7, .bool q156), (21, .int .i64 ((x55.length : Nat) : Int)), (22, .int .i64 ((k63 : Nat) : Int)), (41, .slice a0_1 x0.Links.length c0_1), (42, .int .i64 ((x0.Links).length : Int)), (43, .int .i64 ((k147 : Nat) : Int))] ∧ St w s84 (nestC 22 3 1 (some ⟨b57, 0, none⟩) x55.length x55.length ds161 :: pt b51 (.cells #[.int .i64 x0.Period, .slice a0_0 x0.Plan.length c0_0, .slice a0_1 x0.Links.length c0_1] 25 (0, 0)) :: R)) (m := x0.Links.length) ⟨x0.Links, 0, false, q136, ds140, rfl, rfl, hq145, h141, hn142, hE.pick _ ⟨rfl, rfl, rfl, rfl, rfl, rfl, rfl, rfl, rfl, trivial⟩, hS⟩ ?_
              clear hE hS a w hq145; rintro m153 a w ⟨rest149, k147, q156, q157, ds161, rfl, hd150, hq145, h162, hn163, hE, hS⟩
              refine W.gen fun K164 hK164 => ?_
              rcases rest149 with _ | ⟨x148, rest149⟩
              · have hlt151 := drop_nil hd150
                refine W.seq ?_
                refine W.region ?_
                refine WL.vS hS hE (runs_plain rfl) (Gives.p hE rfl) rfl ?_; clear hE a; intro a hE
                refine WL.nil ?_
                refine W.seq ?_
                refine W.condF hE rfl (decide_eq_false (by omega)) ?_
                subst hK164
                refine W.exit rfl ?_
                exact ⟨q156, q157, ds161, Option.some.inj hq145, h162, hn163, hE.pick _ ⟨rfl, rfl, rfl, rfl, rfl, rfl, trivial⟩, hS⟩
              · obtain ⟨hlt151, hx152, hd150⟩ := drop_cons hd150
                rw [MendRoom.loop3] at hq145
                refine W.seq ?_
                refine W.region ?_
                refine WL.vS hS hE (runs_plain rfl) (Gives.p hE rfl) rfl ?_; clear hE a; intro a hE
                refine WL.nil ?_
                refine W.seq ?_
                refine W.condT hE rfl (decide_eq_true (by omega)) ?_
                refine W.skip ?_
                refine W.seq ?_
                refine W.block ?_
                refine W.seq ?_
                refine W.region ?_
                obtain ⟨cs165, hl166, hR167, hat168⟩ := h0_1.at hx152
                subst hR167
                refine WL.vS hS hE (runs_plain rfl) (Gives.idx hE k147 rfl rfl sl23 rfl hlt151 (h0_1.aok hlt151)) rfl ?_; clear hE a; intro a hE
                refine WL.vS hS hE (runs_plain rfl) (Gives.loadA hE rfl (fun w h => hat168 w _ h) ty36) rfl ?_; clear hE a; intro a hE
                refine WL.alloc hE hS (runs_plain rfl) zr36 rfl ?_; clear hE hS a w; intro b169 a w hE hS
                refine WL.storeI hE hS 0 rfl (MendLink.cells x148) (runs_plain rfl) rfl rfl rfl ty36 rfl rfl rfl rfl ?_; clear hE hS a w; intro a w hE hS
                refine WL.nil ?_
                refine W.seq ?_
                refine W.seq ?_
                refine W.regionQ (C := fun w => St w s84 (pt b169 (.cells (MendLink.cells x148).toArray 36 (0, 0)) :: nestC 22 3 1 (some ⟨b57, 0, none⟩) x55.length x55.length ds161 :: pt b51 (.cells #[.int .i64 x0.Period, .slice a0_0 x0.Plan.length c0_0, .slice a0_1 x0.Links.length c0_1] 25 (0, 0)) :: R)) mixed (by kernel_rfl) hS.drew ?_
                refine QL.v hE (runs_plain rfl) (Gives.p hE rfl) rfl ?_; clear hE a; intro a hE
                refine QL.v hE (runs_plain rfl) (Gives.p hE rfl) rfl ?_; clear hE a; intro a hE
                obtain ⟨x170, hx171, hq145⟩ := bindS hq145
                obtain ⟨hi172, hlt173, hy174⟩ := gx_some hx171
                obtain ⟨a175, c176, cs177, hd178, hev179⟩ := h162.at hy174
                refine QL.v hE (runs_plain rfl) (Gives.idx hE ((((k63 : Nat) : Int)).toNat) rfl rfl sl40 hi172 (by have := hn163; omega) (hS.nAok 1 rfl (by have := hn163; omega : (((k63 : Nat) : Int)).toNat < x55.length))) rfl ?_; clear hE a; intro a hE
                refine QL.v hE (runs_plain rfl) (Gives.load1 (v := .slice a175 x170.length c176) hE rfl (fun w h => St.nSees h 1 rfl hd178) ty22) rfl ?_; clear hE a; intro a hE
                refine QL.v hE (runs_plain rfl) (Gives.fld hE rfl fl36_0) rfl ?_; clear hE a; intro a hE
                refine QL.v hE (runs_plain rfl) (Gives.loadB hE 0 rfl rfl rfl ty3) rfl ?_; clear hE a; intro a hE
                obtain ⟨x180, hx181, hq145⟩ := bindS hq145
                obtain ⟨hi182, hlt183, hy184⟩ := gx_some hx181
                obtain ⟨vs185, hl186, hR187, hd188, hget189⟩ := hev179.at hy184
                subst hR187
                refine QL.v hE (runs_plain rfl) (Gives.idx hE ((x148.From).toNat) rfl rfl sl22 hi182 hlt183 (hS.nnAok 1 rfl hd178 hlt183)) rfl ?_; clear hE a; intro a hE
                refine QL.v hE (runs_plain rfl) (Gives.load1 hE rfl (fun w h => St.nnSees h 1 rfl hd178 ((x148.From).toNat * 1) _ hget189) ty3) rfl ?_; clear hE a; intro a hE
                refine QL.v hE (runs_plain rfl) (Gives.p hE rfl) rfl ?_; clear hE a; intro a hE
                refine QL.nil ?_; clear hS w; intro w hS
                refine W.cond hE rfl (fun hc190 => ?_) (fun hc190 => ?_)
                · replace hq145 := iteT hc190 hq145
                  refine W.exit rfl ?_
                  refine W.region ?_
                  refine WL.vS hS hE (runs_plain rfl) (Gives.inc hE rfl (by have := h0_1.small; omega)) rfl ?_; clear hE a; intro a hE
                  refine WL.vS hS hE (runs_plain rfl) (Gives.p hE rfl) rfl ?_; clear hE a; intro a hE
                  refine WL.nil ?_
                  replace hS := hS.tail
                  subst hK164
                  exact ⟨rest149.length, Nat.lt_succ_self _, rest149, k147 + 1, q156, q157, ds161, rfl, hd150, hq145, h162, hn163, hE.pick _ ⟨rfl, rfl, rfl, rfl, rfl, rfl, rfl, rfl, rfl, trivial⟩, hS⟩
                · replace hq145 := iteF hc190 hq145
                  refine W.skip ?_
                  refine W.seq ?_
                  refine W.regionQ (C := fun w => St w s84 (pt b169 (.cells (MendLink.cells x148).toArray 36 (0, 0)) :: nestC 22 3 1 (some ⟨b57, 0, none⟩) x55.length x55.length ds161 :: pt b51 (.cells #[.int .i64 x0.Period, .slice a0_0 x0.Plan.length c0_0, .slice a0_1 x0.Links.length c0_1] 25 (0, 0)) :: R)) mixed (by kernel_rfl) hS.drew ?_
                  refine QL.v hE (runs_plain rfl) (Gives.p hE rfl) rfl ?_; clear hE a; intro a hE
                  refine QL.v hE (runs_plain rfl) (Gives.p hE rfl) rfl ?_; clear hE a; intro a hE
                  obtain ⟨x191, hx192, hq145⟩ := bindS hq145
                  obtain ⟨hi193, hlt194, hy195⟩ := gx_some hx192
                  obtain ⟨a196, c197, cs198, hd199, hev200⟩ := h162.at hy195
                  refine QL.v hE (runs_plain rfl) (Gives.idx hE ((((k63 : Nat) : Int)).toNat) rfl rfl sl40 hi193 (by have := hn163; omega) (hS.nAok 1 rfl (by have := hn163; omega : (((k63 : Nat) : Int)).toNat < x55.length))) rfl ?_; clear hE a; intro a hE
                  refine QL.v hE (runs_plain rfl) (Gives.load1 (v := .slice a196 x191.length c197) hE rfl (fun w h => St.nSees h 1 rfl hd199) ty22) rfl ?_; clear hE a; intro a hE
                  refine QL.v hE (runs_plain rfl) (Gives.fld hE rfl fl36_0) rfl ?_; clear hE a; intro a hE
                  refine QL.v hE (runs_plain rfl) (Gives.loadB hE 0 rfl rfl rfl ty3) rfl ?_; clear hE a; intro a hE
                  obtain ⟨x201, hx202, hq145⟩ := bindS hq145
                  obtain ⟨hi203, hlt204, hy205⟩ := gx_some hx202
                  obtain ⟨vs206, hl207, hR208, hd209, hget210⟩ := hev200.at hy205
                  subst hR208
                  refine QL.v hE (runs_plain rfl) (Gives.idx hE ((x148.From).toNat) rfl rfl sl22 hi203 hlt204 (hS.nnAok 1 rfl hd199 hlt204)) rfl ?_; clear hE a; intro a hE
                  refine QL.v hE (runs_plain rfl) (Gives.load1 hE rfl (fun w h => St.nnSees h 1 rfl hd199 ((x148.From).toNat * 1) _ hget210) ty3) rfl ?_; clear hE a; intro a hE
                  refine QL.v hE (runs_plain rfl) (Gives.loadBA hE 2 rfl rfl ty25) rfl ?_; clear hE a; intro a hE
                  refine QL.v hE (runs_plain rfl) (Gives.loadBA hE 0 rfl rfl ty36) rfl ?_; clear hE a; intro a hE
                  obtain ⟨q211, hq212, hq145⟩ := bindS hq145
                  refine QL.fnq hE (fun w hS => MendRoundslack_ok hS h0_0 h0_1 hq212) (runs_plain rfl) bd55 rfl rfl rfl ?_; clear hE a; intro a hE
                  refine QL.v hE (runs_plain rfl) (Gives.p hE rfl) rfl ?_; clear hE a; intro a hE
                  refine QL.v hE (runs_plain rfl) (Gives.p hE rfl) rfl ?_; clear hE a; intro a hE
                  refine QL.nil ?_; clear hS w; intro w hS
                  refine W.seq ?_
                  obtain ⟨q214, hq213, hq145⟩ := bindS hq145
                  refine W.cut (fun a w => ∃ (q217 : Bool), q217 = q214 ∧ Rep a 100 [(1, .pointer (some ⟨b51, 0, none⟩)), (5, .slice (some ⟨b57, 0, none⟩) x55.length x55.length), (6, .int .i64 ((k63 : Nat) : Int)), (7, .bool q156), (9, .pointer (some ⟨b169, 0, none⟩)), (10, .int .i64 (w64 (x201 + q211))), (21, .int .i64 ((x55.length : Nat) : Int)), (22, .int .i64 ((k63 : Nat) : Int)), (41, .slice a0_1 x0.Links.length c0_1), (42, .int .i64 ((x0.Links).length : Int)), (43, .int .i64 ((k147 : Nat) : Int)), (88, .bool q217)] ∧ St w s84 (pt b169 (.cells (MendLink.cells x148).toArray 36 (0, 0)) :: nestC 22 3 1 (some ⟨b57, 0, none⟩) x55.length x55.length ds161 :: pt b51 (.cells #[.int .i64 x0.Period, .slice a0_0 x0.Plan.length c0_0, .slice a0_1 x0.Links.length c0_1] 25 (0, 0)) :: R)) ?_ ?_
                  · refine W.gen fun K218 hK218 => ?_
                    refine W.regionQ (C := fun w => St w s84 (pt b169 (.cells (MendLink.cells x148).toArray 36 (0, 0)) :: nestC 22 3 1 (some ⟨b57, 0, none⟩) x55.length x55.length ds161 :: pt b51 (.cells #[.int .i64 x0.Period, .slice a0_0 x0.Plan.length c0_0, .slice a0_1 x0.Links.length c0_1] 25 (0, 0)) :: R)) mixed (by kernel_rfl) hS.drew ?_
                    refine QL.v hE (runs_plain rfl) (Gives.p hE rfl) rfl ?_; clear hE a; intro a hE
                    refine QL.v hE (runs_plain rfl) (Gives.p hE rfl) rfl ?_; clear hE a; intro a hE
                    obtain ⟨x219, hx220, hq213⟩ := bindS hq213
                    obtain ⟨hi221, hlt222, hy223⟩ := gx_some hx220
                    obtain ⟨a224, c225, cs226, hd227, hev228⟩ := h162.at hy223
                    refine QL.v hE (runs_plain rfl) (Gives.idx hE ((((k63 : Nat) : Int)).toNat) rfl rfl sl40 hi221 (by have := hn163; omega) (hS.nAok 1 rfl (by have := hn163; omega : (((k63 : Nat) : Int)).toNat < x55.length))) rfl ?_; clear hE a; intro a hE
                    refine QL.v hE (runs_plain rfl) (Gives.load1 (v := .slice a224 x219.length c225) hE rfl (fun w h => St.nSees h 1 rfl hd227) ty22) rfl ?_; clear hE a; intro a hE
                    refine QL.v hE (runs_plain rfl) (Gives.fld hE rfl fl36_1) rfl ?_; clear hE a; intro a hE
                    refine QL.v hE (runs_plain rfl) (Gives.loadB hE 0 rfl rfl rfl ty3) rfl ?_; clear hE a; intro a hE
                    obtain ⟨x229, hx230, hq213⟩ := bindS hq213
                    obtain ⟨hi231, hlt232, hy233⟩ := gx_some hx230
                    obtain ⟨vs234, hl235, hR236, hd237, hget238⟩ := hev228.at hy233
                    subst hR236
                    refine QL.v hE (runs_plain rfl) (Gives.idx hE ((x148.To).toNat) rfl rfl sl22 hi231 hlt232 (hS.nnAok 1 rfl hd227 hlt232)) rfl ?_; clear hE a; intro a hE
                    refine QL.v hE (runs_plain rfl) (Gives.load1 hE rfl (fun w h => St.nnSees h 1 rfl hd227 ((x148.To).toNat * 1) _ hget238) ty3) rfl ?_; clear hE a; intro a hE
                    refine QL.v hE (runs_plain rfl) (Gives.p hE rfl) rfl ?_; clear hE a; intro a hE
                    refine QL.v hE (runs_plain rfl) (Gives.p hE rfl) rfl ?_; clear hE a; intro a hE
                    rcases Bool.eq_false_or_eq_true (decide (x229 < 0)) with hg239 | hg239
                    · replace hq213 := iteT hg239 hq213
                      refine QL.no hE (runs_not hE rfl rfl rfl (by rw [hg239]; decide)) rfl ?_; clear hE a; intro a hE
                      refine QL.no hE (runs_not hE rfl rfl rfl (by rw [hg239]; decide)) rfl ?_; clear hE a; intro a hE
                      refine QL.no hE (runs_not hE rfl rfl rfl (by rw [hg239]; decide)) rfl ?_; clear hE a; intro a hE
                      refine QL.no hE (runs_not hE rfl rfl rfl (by rw [hg239]; decide)) rfl ?_; clear hE a; intro a hE
                      refine QL.no hE (runs_not hE rfl rfl rfl (by rw [hg239]; decide)) rfl ?_; clear hE a; intro a hE
                      refine QL.no hE (runs_not hE rfl rfl rfl (by rw [hg239]; decide)) rfl ?_; clear hE a; intro a hE
                      refine QL.no hE (runs_not hE rfl rfl rfl (by rw [hg239]; decide)) rfl ?_; clear hE a; intro a hE
                      refine QL.no hE (runs_not hE rfl rfl rfl (by rw [hg239]; decide)) rfl ?_; clear hE a; intro a hE
                      refine QL.no hE (runs_not hE rfl rfl rfl (by rw [hg239]; decide)) rfl ?_; clear hE a; intro a hE
                      refine QL.no hE (runs_not hE rfl rfl rfl (by rw [hg239]; decide)) rfl ?_; clear hE a; intro a hE
                      refine QL.v hE (runs_plain rfl) (Gives.pickT hE rfl hg239 rfl) rfl ?_; clear hE a; intro a hE
                      refine QL.nil ?_; clear hS w; intro w hS
                      subst hK218
                      exact ⟨true, Option.some.inj hq213, hE.pick _ ⟨rfl, rfl, rfl, rfl, rfl, rfl, rfl, rfl, rfl, rfl, rfl, rfl, trivial⟩, hS⟩
                    · replace hq213 := iteF hg239 hq213
                      refine QL.v hE (runs_if hE rfl rfl rfl hg239) (Gives.p hE rfl) rfl ?_; clear hE a; intro a hE
                      refine QL.v hE (runs_if hE rfl rfl rfl hg239) (Gives.p hE rfl) rfl ?_; clear hE a; intro a hE
                      refine QL.v hE (runs_if hE rfl rfl rfl hg239) (Gives.p hE rfl) rfl ?_; clear hE a; intro a hE
                      obtain ⟨x240, hx241, hq213⟩ := bindS hq213
                      obtain ⟨hi242, hlt243, hy244⟩ := gx_some hx241
                      obtain ⟨a245, c246, cs247, hd248, hev249⟩ := h162.at hy244
                      refine QL.v hE (runs_if hE rfl rfl rfl hg239) (Gives.idx hE ((((k63 : Nat) : Int)).toNat) rfl rfl sl40 hi242 (by have := hn163; omega) (hS.nAok 1 rfl (by have := hn163; omega : (((k63 : Nat) : Int)).toNat < x55.length))) rfl ?_; clear hE a; intro a hE
                      refine QL.v hE (runs_if hE rfl rfl rfl hg239) (Gives.load1 (v := .slice a245 x240.length c246) hE rfl (fun w h => St.nSees h 1 rfl hd248) ty22) rfl ?_; clear hE a; intro a hE
                      refine QL.v hE (runs_if hE rfl rfl rfl hg239) (Gives.fld hE rfl fl36_1) rfl ?_; clear hE a; intro a hE
                      refine QL.v hE (runs_if hE rfl rfl rfl hg239) (Gives.loadB hE 0 rfl rfl rfl ty3) rfl ?_; clear hE a; intro a hE
                      obtain ⟨x250, hx251, hq213⟩ := bindS hq213
                      obtain ⟨hi252, hlt253, hy254⟩ := gx_some hx251
                      obtain ⟨vs255, hl256, hR257, hd258, hget259⟩ := hev249.at hy254
                      subst hR257
                      refine QL.v hE (runs_if hE rfl rfl rfl hg239) (Gives.idx hE ((x148.To).toNat) rfl rfl sl22 hi252 hlt253 (hS.nnAok 1 rfl hd248 hlt253)) rfl ?_; clear hE a; intro a hE
                      refine QL.v hE (runs_if hE rfl rfl rfl hg239) (Gives.load1 hE rfl (fun w h => St.nnSees h 1 rfl hd248 ((x148.To).toNat * 1) _ hget259) ty3) rfl ?_; clear hE a; intro a hE
                      refine QL.v hE (runs_if hE rfl rfl rfl hg239) (Gives.p hE rfl) rfl ?_; clear hE a; intro a hE
                      refine QL.v hE (runs_plain rfl) (Gives.pickF hE rfl hg239 rfl) rfl ?_; clear hE a; intro a hE
                      refine QL.nil ?_; clear hS w; intro w hS
                      subst hK218
                      exact ⟨decide ((w64 (x201 + q211)) < x250), Option.some.inj hq213, hE.pick _ ⟨rfl, rfl, rfl, rfl, rfl, rfl, rfl, rfl, rfl, rfl, rfl, rfl, trivial⟩, hS⟩
                  · clear hE hS a w; rintro a w ⟨q217, rfl, hE, hS⟩
                    obtain ⟨q261, hq260, hq145⟩ := bindS hq145
                    refine W.cut (fun a w => ∃ (q264 : Bool), ∃ (q265 : List (List Int)), ∃ (ds269 : List In), (q264, q265) = q261 ∧ NEv 1 (RI .i64) s84 ds269 q265 ∧ q265.length = x55.length ∧ Rep a 100 [(1, .pointer (some ⟨b51, 0, none⟩)), (5, .slice (some ⟨b57, 0, none⟩) x55.length x55.length), (6, .int .i64 ((k63 : Nat) : Int)), (7, .bool q264), (21, .int .i64 ((x55.length : Nat) : Int)), (22, .int .i64 ((k63 : Nat) : Int)), (41, .slice a0_1 x0.Links.length c0_1), (42, .int .i64 ((x0.Links).length : Int)), (43, .int .i64 ((k147 : Nat) : Int))] ∧ St w s84 (pt b169 (.cells (MendLink.cells x148).toArray 36 (0, 0)) :: nestC 22 3 1 (some ⟨b57, 0, none⟩) x55.length x55.length ds269 :: pt b51 (.cells #[.int .i64 x0.Period, .slice a0_0 x0.Plan.length c0_0, .slice a0_1 x0.Links.length c0_1] 25 (0, 0)) :: R)) ?_ ?_
                    · refine W.gen fun K272 hK272 => ?_
                      refine W.cond hE rfl (fun hc273 => ?_) (fun hc273 => ?_)
                      · replace hq260 := iteT hc273 hq260
                        refine W.gen fun K274 hK274 => ?_
                        refine W.regionE (sel (fun w => St w s84 (pt b169 (.cells (MendLink.cells x148).toArray 36 (0, 0)) :: nestC 22 3 1 (some ⟨b57, 0, none⟩) x55.length x55.length ds161 :: pt b51 (.cells #[.int .i64 x0.Period, .slice a0_0 x0.Plan.length c0_0, .slice a0_1 x0.Links.length c0_1] 25 (0, 0)) :: R)) (fun w => St w s84 (pt b169 (.cells (MendLink.cells x148).toArray 36 (0, 0)) :: pt b51 (.cells #[.int .i64 x0.Period, .slice a0_0 x0.Plan.length c0_0, .slice a0_1 x0.Links.length c0_1] 25 (0, 0)) :: R))) (fun b i => cond b ([0, 1, 2, 3, 4, 5, 6, 9].contains i) ([0, 1, 2, 3, 4, 5, 6, 7, 8, 9].contains i)) mixed ?_
                        replace hS := hS.drew
                        refine Rg.takeP (i := 0) hE rfl (by kernel_rfl) (runs_plain rfl) (Gives.p hE rfl) rfl (tw_sel (fun _ => hS) (fun _ => (hS.dropAt 1))) ?_; clear hE a; intro a hE
                        refine Rg.takeP (i := 1) hE rfl (by kernel_rfl) (runs_plain rfl) (Gives.p hE rfl) rfl (tw_sel (fun _ => hS) (fun _ => (hS.dropAt 1))) ?_; clear hE a; intro a hE
                        obtain ⟨x275, hx276, hq260⟩ := bindS hq260
                        obtain ⟨hi277, hlt278, hy279⟩ := gx_some hx276
                        obtain ⟨a280, c281, cs282, hd283, hev284⟩ := h162.at hy279
                        refine Rg.takeP (i := 2) hE rfl (by kernel_rfl) (runs_plain rfl) (Gives.idx hE ((((k63 : Nat) : Int)).toNat) rfl rfl sl40 hi277 (by have := hn163; omega) (hS.nAok 1 rfl (by have := hn163; omega : (((k63 : Nat) : Int)).toNat < x55.length))) rfl (tw_sel (fun _ => hS) (fun _ => (hS.dropAt 1))) ?_; clear hE a; intro a hE
                        have hT := tw_sel (A := fun w => St w s84 (pt b169 (.cells (MendLink.cells x148).toArray 36 (0, 0)) :: nestC 22 3 1 (some ⟨b57, 0, none⟩) x55.length x55.length ds161 :: pt b51 (.cells #[.int .i64 x0.Period, .slice a0_0 x0.Plan.length c0_0, .slice a0_1 x0.Links.length c0_1] 25 (0, 0)) :: R)) (B := fun w => St w s84 (pt b169 (.cells (MendLink.cells x148).toArray 36 (0, 0)) :: pt b51 (.cells #[.int .i64 x0.Period, .slice a0_0 x0.Plan.length c0_0, .slice a0_1 x0.Links.length c0_1] 25 (0, 0)) :: R)) (w := _) (x := true) (y := true) (fun _ => hS) (fun _ => (hS.dropAt 1))
                        have hF := hS; replace hS := hS
                        refine Rg.take (i := 3) true rfl hE rfl (by kernel_rfl) (runs_plain rfl) (Gives.load1 (v := .slice a280 x275.length c281) hE rfl (fun w h => St.nSees h 1 rfl hd283) ty22) rfl hT ?_; clear hE a; intro a hE
                        replace hS := hF; clear hF hT
                        refine Rg.takeP (i := 4) hE rfl (by kernel_rfl) (runs_plain rfl) (Gives.fld hE rfl fl36_1) rfl (tw_sel (fun _ => hS) (fun _ => (hS.dropAt 1))) ?_; clear hE a; intro a hE
                        have hT := tw_sel (A := fun w => St w s84 (pt b169 (.cells (MendLink.cells x148).toArray 36 (0, 0)) :: nestC 22 3 1 (some ⟨b57, 0, none⟩) x55.length x55.length ds161 :: pt b51 (.cells #[.int .i64 x0.Period, .slice a0_0 x0.Plan.length c0_0, .slice a0_1 x0.Links.length c0_1] 25 (0, 0)) :: R)) (B := fun w => St w s84 (pt b169 (.cells (MendLink.cells x148).toArray 36 (0, 0)) :: pt b51 (.cells #[.int .i64 x0.Period, .slice a0_0 x0.Plan.length c0_0, .slice a0_1 x0.Links.length c0_1] 25 (0, 0)) :: R)) (w := _) (x := true) (y := true) (fun _ => hS) (fun _ => (hS.dropAt 1))
                        have hF := hS; replace hS := hS
                        refine Rg.take (i := 5) true rfl hE rfl (by kernel_rfl) (runs_plain rfl) (Gives.loadB hE 0 rfl rfl rfl ty3) rfl hT ?_; clear hE a; intro a hE
                        replace hS := hF; clear hF hT
                        refine Rg.takeP (i := 6) hE rfl (by kernel_rfl) (runs_plain rfl) (Gives.p hE rfl) rfl (tw_sel (fun _ => hS) (fun _ => (hS.dropAt 1))) ?_; clear hE a; intro a hE
                        refine Rg.one (i := 7) false true rfl (by kernel_rfl) (by kernel_rfl) (by kernel_rfl) ?_
                        replace hS := hS.borrowM 1 rfl hd283
                        obtain ⟨_, hx287, hq260⟩ := bindS hq260
                        obtain ⟨h288, h289⟩ := ix_some hx287
                        refine WL.vS hS hE (runs_plain rfl) (Gives.idx hE ((x148.To).toNat) rfl rfl sl22 h288 (by omega) (hS.vecAok 0 rfl (by omega : (x148.To).toNat < x275.length))) rfl ?_; clear hE a; intro a hE
                        refine WL.nil ?_
                        refine ⟨⟨fun h => absurd h (by decide), fun _ => ((hS.tail).dropAt 1)⟩, ?_⟩
                        refine Rg.one (i := 8) false true rfl (by kernel_rfl) (by kernel_rfl) (by kernel_rfl) ?_
                        obtain ⟨x291, hx292, hq260⟩ := bindS hq260
                        refine WL.setD hE hS 0 rfl (runs_plain rfl) rfl rfl (vs := [.int .i64 (w64 (x201 + q211))]) rfl ty3 rfl rfl rfl hev284 (rfl) (sx_some hx292).1 hx292 rfl rfl ?_; clear hE hS a w; intro cs293 a w h294 hn295 hE hS
                        refine WL.nil ?_
                        refine ⟨⟨fun h => absurd h (by decide), fun _ => ((hS.tail).dropAt 1)⟩, ?_⟩
                        refine Rg.takeP (i := 9) hE rfl (by kernel_rfl) (runs_plain rfl) (Gives.p hE rfl) rfl (tw_sel (fun h => absurd h (by decide)) (fun _ => ((hS.tail).dropAt 1))) ?_; clear hE a; intro a hE
                        refine Rg.done (by kernel_rfl) ?_
                        subst hK274
                        replace hS := hS.giveBack 1 rfl hd283
                        have h297 := h162.set (k := (((k63 : Nat) : Int)).toNat) (d := ⟨a280, c281, x275.length, cs293⟩) h294 hn295
                        have hn298 : (q157.set ((((k63 : Nat) : Int)).toNat) x291).length = x55.length := by simp; exact hn163
                        generalize List.set ds161 ((((k63 : Nat) : Int)).toNat) _ = ds296 at hS h297
                        subst hK272
                        exact ⟨true, (q157.set ((((k63 : Nat) : Int)).toNat) x291), ds296, Option.some.inj hq260, h297, hn298, hE.pick _ ⟨rfl, rfl, rfl, rfl, rfl, rfl, rfl, rfl, rfl, trivial⟩, hS⟩
                      · replace hq260 := iteF hc273 hq260
                        refine W.skip ?_
                        subst hK272
                        exact ⟨q156, q157, ds161, Option.some.inj hq260, h162, hn163, hE.pick _ ⟨rfl, rfl, rfl, rfl, rfl, rfl, rfl, rfl, rfl, trivial⟩, hS⟩
                    · clear hE hS a w; rintro a w ⟨q264, q265, ds269, rfl, h270, hn271, hE, hS⟩
                      dsimp only at hq145
                      refine W.region ?_
                      refine WL.vS hS hE (runs_plain rfl) (Gives.inc hE rfl (by have := h0_1.small; omega)) rfl ?_; clear hE a; intro a hE
                      refine WL.vS hS hE (runs_plain rfl) (Gives.p hE rfl) rfl ?_; clear hE a; intro a hE
                      refine WL.nil ?_
                      replace hS := hS.tail
                      subst hK164
                      exact ⟨rest149.length, Nat.lt_succ_self _, rest149, k147 + 1, q264, q265, ds269, rfl, hd150, hq145, h270, hn271, hE.pick _ ⟨rfl, rfl, rfl, rfl, rfl, rfl, rfl, rfl, rfl, trivial⟩, hS⟩
            · clear hE hS a w; rintro a w ⟨q156, q157, ds161, rfl, h162, hn163, hE, hS⟩
              dsimp only at hq129
              subst hK143
              exact ⟨n131, Nat.lt_succ_self _, n131, q156, q157, ds161, rfl, hq129, h162, hn163, hE.pick _ ⟨rfl, rfl, rfl, rfl, rfl, rfl, trivial⟩, hS⟩
          · replace hq129 := iteF hc144 hq129
            subst hK143
            refine W.exit rfl ?_
            exact ⟨q135, q136, ds140, Option.some.inj hq129, h141, hn142, hE.pick _ ⟨rfl, rfl, rfl, rfl, trivial⟩, hS⟩
        · clear hE hS a w; rintro a w ⟨q135, q136, ds140, rfl, h141, hn142, hE, hS⟩
          dsimp only at hq61
          refine W.region ?_
          refine WL.vS hS hE (runs_plain rfl) (Gives.inc hE rfl (by omega)) rfl ?_; clear hE a; intro a hE
          refine WL.vS hS hE (runs_plain rfl) (Gives.p hE rfl) rfl ?_; clear hE a; intro a hE
          refine WL.nil ?_
          subst hK80
          exact ⟨rest65, Nat.lt_succ_self _, rest65, k63 + 1, q136, ds140, s84, rfl, (by omega), (Sg.Le.trans hle71 hle85), hq61, h141, hn142, hE.pick _ ⟨rfl, rfl, rfl, rfl, trivial⟩, hS⟩
    · clear hE hS a w; rintro a w ⟨q73, ds77, s70, hle71, rfl, h78, hn79, hE, hS⟩
      replace h0_0 := Sl.mono RI.mono hle71 h0_0
      replace h0_1 := Sl.mono RMendLink.mono hle71 h0_1
      replace h59 := NEv.mono RI.mono hle71 h59
      refine W.seq ?_
      refine W.region ?_
      refine WL.vS hS hE (runs_plain rfl) (Gives.p hE rfl) rfl ?_; clear hE a; intro a hE
      refine WL.vS hS hE (runs_plain rfl) (Gives.p hE rfl) rfl ?_; clear hE a; intro a hE
      refine WL.vS hS hE (runs_plain rfl) (Gives.p hE rfl) rfl ?_; clear hE a; intro a hE
      refine WL.nil ?_
      refine W.ret ?_
      have hF := hS.fixN RI.mono 0 rfl h78 hn79; clear hS; obtain ⟨s299, hle300, hS, h301⟩ := hF
      (try rw [← hn79] at hE)
      (try rw [← hn79] at hS)
      (try rw [← hn79] at h301)
      replace h0_0 := Sl.mono RI.mono hle300 h0_0
      replace h0_1 := Sl.mono RMendLink.mono hle300 h0_1
      refine finG (fn := Try.f34) (rs := [.tmp 2, .tmp 3]) (vs := [_, _]) hE rfl ⟨rfl, rfl, trivial⟩ ?_
      obtain rfl := Option.some.inj hr
      replace hS := hS.tail
      exact ⟨(some ⟨b57, 0, none⟩), q73.length, s299, rfl, (Sg.Le.trans hle71 hle300), h301, hS⟩
set_option maxHeartbeats 8000000 in
theorem Fishref2within_ok  {w : World} {s : Sg} {R : List HP} {x0 : Int} {x1 : Int} {x2 : Int} (hS : St w s (R))  {r : Bool} (hr : Fishref2within x0 x1 x2 = r) :
    Calls Try.prog 51 [.int .i64 x0, .int .i64 x1, .int .i64 x2].toArray w (fun e w => e = .returned (.bool r) ∧ St w s (R)) := by
  refine enter Try.func51 rfl rfl rfl fun a hE => ?_
  rw [Fishref2within] at hr
  refine W.seq ?_
  refine W.region ?_
  refine WL.vS hS hE (runs_plain rfl) (Gives.p hE rfl) rfl ?_; clear hE a; intro a hE
  refine WL.nil ?_
  refine W.seq ?_
  obtain ⟨q52, hq51, hr⟩ := bndS hr
  refine W.cut (fun a w => ∃ (q55 : Bool), q55 = q52 ∧ Rep a 15 [(6, .bool q55)] ∧ St w s (R)) ?_ ?_
  · refine W.gen fun K56 hK56 => ?_
    refine W.region ?_
    refine WL.vS hS hE (runs_plain rfl) (Gives.p hE rfl) rfl ?_; clear hE a; intro a hE
    refine WL.vS hS hE (runs_plain rfl) (Gives.p hE rfl) rfl ?_; clear hE a; intro a hE
    refine WL.vS hS hE (runs_plain rfl) (Gives.p hE rfl) rfl ?_; clear hE a; intro a hE
    refine WL.vS hS hE (runs_plain rfl) (Gives.p hE rfl) rfl ?_; clear hE a; intro a hE
    rcases Bool.eq_false_or_eq_true (decide (x0 ≥ x1)) with hg57 | hg57
    · replace hq51 := iteT hg57 hq51
      refine WL.vS hS hE (runs_if hE rfl rfl rfl hg57) (Gives.p hE rfl) rfl ?_; clear hE a; intro a hE
      refine WL.vS hS hE (runs_if hE rfl rfl rfl hg57) (Gives.p hE rfl) rfl ?_; clear hE a; intro a hE
      refine WL.vS hS hE (runs_if hE rfl rfl rfl hg57) (Gives.p hE rfl) rfl ?_; clear hE a; intro a hE
      refine WL.vS hS hE (runs_plain rfl) (Gives.pickT hE rfl hg57 rfl) rfl ?_; clear hE a; intro a hE
      refine WL.vS hS hE (runs_plain rfl) (Gives.p hE rfl) rfl ?_; clear hE a; intro a hE
      refine WL.nil ?_
      subst hK56
      exact ⟨decide (x0 ≤ x2), hq51, hE.pick _ ⟨rfl, trivial⟩, hS⟩
    · replace hq51 := iteF hg57 hq51
      refine WL.no hE (runs_not hE rfl rfl rfl (by rw [hg57]; decide)) rfl ?_; clear hE a; intro a hE
      refine WL.no hE (runs_not hE rfl rfl rfl (by rw [hg57]; decide)) rfl ?_; clear hE a; intro a hE
      refine WL.no hE (runs_not hE rfl rfl rfl (by rw [hg57]; decide)) rfl ?_; clear hE a; intro a hE
      refine WL.vS hS hE (runs_plain rfl) (Gives.pickF hE rfl hg57 rfl) rfl ?_; clear hE a; intro a hE
      refine WL.vS hS hE (runs_plain rfl) (Gives.p hE rfl) rfl ?_; clear hE a; intro a hE
      refine WL.nil ?_
      subst hK56
      exact ⟨false, hq51, hE.pick _ ⟨rfl, trivial⟩, hS⟩
  · clear hE hS a w; rintro a w ⟨q55, rfl, hE, hS⟩
    refine W.ret ?_
    refine finG (fn := Try.f51) (rs := [.tmp 6]) (vs := [_]) hE rfl ⟨rfl, trivial⟩ ?_
    subst hr
    exact ⟨rfl, hS⟩
set_option maxHeartbeats 8000000 in
theorem Fishref2SlackOf_ok  {w : World} {s : Sg} {R : List HP} {x0 : MendRound} {a0_0 : Option Addr} {c0_0 : Nat} {a0_1 : Option Addr} {c0_1 : Nat} {x1 : MendLink} (hS : St w s (R)) (h0_0 : Sl 1 (RI .i64) s a0_0 c0_0 x0.Plan) (_h0_1 : Sl 4 RMendLink s a0_1 c0_1 x0.Links) {r : Int} (hr : Fishref2SlackOf x0 x1 = some r) :
    Calls Try.prog 52 [.agg [.int .i64 x0.Period, .slice a0_0 x0.Plan.length c0_0, .slice a0_1 x0.Links.length c0_1].toArray, .agg (MendLink.cells x1).toArray].toArray w (fun e w => e = .returned (.int .i64 r) ∧ St w s (R)) := by
  refine enter Try.func52 rfl rfl rfl fun a hE => ?_
  rw [Fishref2SlackOf] at hr
  refine W.seq ?_
  refine W.region ?_
  refine WL.box hE hS (runs_plain rfl) rfl rfl rfl ?_; clear hE hS a w; intro b51 a w hE hS
  refine WL.box hE hS (runs_plain rfl) rfl rfl rfl ?_; clear hE hS a w; intro b52 a w hE hS
  refine WL.vS hS hE (runs_plain rfl) (Gives.p hE rfl) rfl ?_; clear hE a; intro a hE
  refine WL.nil ?_
  refine W.seq ?_
  refine W.regionQ (C := fun w => St w s (pt b52 (.cells (MendLink.cells x1).toArray 36 (0, 0)) :: pt b51 (.cells #[.int .i64 x0.Period, .slice a0_0 x0.Plan.length c0_0, .slice a0_1 x0.Links.length c0_1] 25 (0, 0)) :: R)) mixed (by kernel_rfl) hS.drew ?_
  refine QL.v hE (runs_plain rfl) (Gives.fld hE rfl fl25_1) rfl ?_; clear hE a; intro a hE
  refine QL.v hE (runs_plain rfl) (Gives.loadB hE 1 rfl rfl rfl ty22) rfl ?_; clear hE a; intro a hE
  refine QL.v hE (runs_plain rfl) (Gives.fld hE rfl fl36_1) rfl ?_; clear hE a; intro a hE
  refine QL.v hE (runs_plain rfl) (Gives.loadB hE 0 rfl rfl rfl ty3) rfl ?_; clear hE a; intro a hE
  obtain ⟨x53, hx54, hr⟩ := bindS hr
  obtain ⟨hi55, hlt56, hy57⟩ := gx_some hx54
  obtain ⟨cs58, hl59, hR60, hat61⟩ := h0_0.at hy57
  subst hR60
  refine QL.v hE (runs_plain rfl) (Gives.idx hE (x1.To).toNat rfl rfl sl22 hi55 hlt56 (h0_0.aok hlt56)) rfl ?_; clear hE a; intro a hE
  refine QL.v hE (runs_plain rfl) (Gives.load1 hE rfl (fun w h => hat61 w _ h) ty3) rfl ?_; clear hE a; intro a hE
  refine QL.v hE (runs_plain rfl) (Gives.fld hE rfl fl25_1) rfl ?_; clear hE a; intro a hE
  refine QL.v hE (runs_plain rfl) (Gives.loadB hE 1 rfl rfl rfl ty22) rfl ?_; clear hE a; intro a hE
  refine QL.v hE (runs_plain rfl) (Gives.fld hE rfl fl36_0) rfl ?_; clear hE a; intro a hE
  refine QL.v hE (runs_plain rfl) (Gives.loadB hE 0 rfl rfl rfl ty3) rfl ?_; clear hE a; intro a hE
  obtain ⟨x62, hx63, hr⟩ := bindS hr
  obtain ⟨hi64, hlt65, hy66⟩ := gx_some hx63
  obtain ⟨cs67, hl68, hR69, hat70⟩ := h0_0.at hy66
  subst hR69
  refine QL.v hE (runs_plain rfl) (Gives.idx hE (x1.From).toNat rfl rfl sl22 hi64 hlt65 (h0_0.aok hlt65)) rfl ?_; clear hE a; intro a hE
  refine QL.v hE (runs_plain rfl) (Gives.load1 hE rfl (fun w h => hat70 w _ h) ty3) rfl ?_; clear hE a; intro a hE
  refine QL.v hE (runs_plain rfl) (Gives.p hE rfl) rfl ?_; clear hE a; intro a hE
  refine QL.v hE (runs_plain rfl) (Gives.fld hE rfl fl36_3) rfl ?_; clear hE a; intro a hE
  refine QL.v hE (runs_plain rfl) (Gives.loadB hE 0 rfl rfl rfl ty3) rfl ?_; clear hE a; intro a hE
  refine QL.v hE (runs_plain rfl) (Gives.fld hE rfl fl25_0) rfl ?_; clear hE a; intro a hE
  refine QL.v hE (runs_plain rfl) (Gives.loadB hE 1 rfl rfl rfl ty3) rfl ?_; clear hE a; intro a hE
  refine QL.v hE (runs_plain rfl) (Gives.p hE rfl) rfl ?_; clear hE a; intro a hE
  refine QL.v hE (runs_plain rfl) (Gives.p hE rfl) rfl ?_; clear hE a; intro a hE
  refine QL.v hE (runs_plain rfl) (Gives.fld hE rfl fl36_2) rfl ?_; clear hE a; intro a hE
  refine QL.v hE (runs_plain rfl) (Gives.loadB hE 0 rfl rfl rfl ty3) rfl ?_; clear hE a; intro a hE
  refine QL.v hE (runs_plain rfl) (Gives.p hE rfl) rfl ?_; clear hE a; intro a hE
  refine QL.v hE (runs_plain rfl) (Gives.p hE rfl) rfl ?_; clear hE a; intro a hE
  refine QL.nil ?_; clear hS w; intro w hS
  refine W.ret ?_
  refine finG (fn := Try.f52) (rs := [.tmp 4]) (vs := [_]) hE rfl ⟨rfl, trivial⟩ ?_
  obtain rfl := Option.some.inj hr
  replace hS := hS.tail
  replace hS := hS.tail
  exact ⟨rfl, hS⟩
end Go.Proofs.Ytfioafdipipcaaa
