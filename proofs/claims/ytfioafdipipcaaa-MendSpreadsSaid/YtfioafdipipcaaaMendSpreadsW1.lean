/- The walks of the functions that MendSpreads reaches: each call comes to what its mirror says. The conditions are those of each contract. -/
import Derived.Test.YtfioafdipipcaaaProg
import Derived.Test.YtfioafdipipcaaaMendSpreadsM
import Derived.Test.YtfioafdipipcaaaFpMore
namespace Go.Proofs.Ytfioafdipipcaaa
open Go Go.Fp
theorem ap22 : apOk Try.prog 22 3 1 = true := by kernel_rfl
theorem ap40 : apOk Try.prog 40 22 1 = true := by kernel_rfl
theorem ap82 : apOk Try.prog 82 4 1 = true := by kernel_rfl
theorem bd14 : bodied Try.prog 14 = true := by kernel_rfl
theorem bd15 : bodied Try.prog 15 = true := by kernel_rfl
theorem bd16 : bodied Try.prog 16 = true := by kernel_rfl
theorem bd19 : bodied Try.prog 19 = true := by kernel_rfl
theorem bd20 : bodied Try.prog 20 = true := by kernel_rfl
theorem bd21 : bodied Try.prog 21 = true := by kernel_rfl
theorem bd22 : bodied Try.prog 22 = true := by kernel_rfl
theorem bd28 : bodied Try.prog 28 = true := by kernel_rfl
theorem bd34 : bodied Try.prog 34 = true := by kernel_rfl
theorem bd51 : bodied Try.prog 51 = true := by kernel_rfl
theorem bd52 : bodied Try.prog 52 = true := by kernel_rfl
theorem bd53 : bodied Try.prog 53 = true := by kernel_rfl
theorem bd54 : bodied Try.prog 54 = true := by kernel_rfl
theorem bd55 : bodied Try.prog 55 = true := by kernel_rfl
theorem bd56 : bodied Try.prog 56 = true := by kernel_rfl
theorem bd57 : bodied Try.prog 57 = true := by kernel_rfl
theorem bd60 : bodied Try.prog 60 = true := by kernel_rfl
theorem bd61 : bodied Try.prog 61 = true := by kernel_rfl
theorem bd67 : bodied Try.prog 67 = true := by kernel_rfl
theorem bd84 : bodied Try.prog 84 = true := by kernel_rfl
theorem bd85 : bodied Try.prog 85 = true := by kernel_rfl
theorem bd93 : bodied Try.prog 93 = true := by kernel_rfl
theorem bl4 : isBl Try.prog 4 = true := by kernel_rfl
theorem cp22 : cpOk Try.prog 22 3 1 = true := by kernel_rfl
theorem fl25_0 : fldOk Try.prog 25 0 0 = true := by kernel_rfl
theorem fl25_1 : fldOk Try.prog 25 1 1 = true := by kernel_rfl
theorem fl25_2 : fldOk Try.prog 25 2 2 = true := by kernel_rfl
theorem fl36_0 : fldOk Try.prog 36 0 0 = true := by kernel_rfl
theorem fl36_1 : fldOk Try.prog 36 1 1 = true := by kernel_rfl
theorem fl36_2 : fldOk Try.prog 36 2 2 = true := by kernel_rfl
theorem fl36_3 : fldOk Try.prog 36 3 3 = true := by kernel_rfl
theorem fl90_0 : fldOk Try.prog 90 0 0 = true := by kernel_rfl
theorem fl90_1 : fldOk Try.prog 90 1 1 = true := by kernel_rfl
theorem fl90_2 : fldOk Try.prog 90 2 2 = true := by kernel_rfl
theorem hu123 : (Try.prog.underlying 123).isSome = true := by kernel_rfl
theorem hu3 : (Try.prog.underlying 3).isSome = true := by kernel_rfl
theorem isl22 : isSl Try.prog 22 = true := by kernel_rfl
theorem mixed : Try.prog.follows .mixedOrders = true := by kernel_rfl
theorem sl22 : slOk Try.prog 22 3 1 = true := by kernel_rfl
theorem sl23 : slOk Try.prog 23 36 4 = true := by kernel_rfl
theorem sl39 : slOk Try.prog 39 90 3 = true := by kernel_rfl
theorem sl40 : slOk Try.prog 40 22 1 = true := by kernel_rfl
theorem sl82 : slOk Try.prog 82 4 1 = true := by kernel_rfl
theorem ty22 : tyOk Try.prog 22 false 1 = true := by kernel_rfl
theorem ty23 : tyOk Try.prog 23 false 1 = true := by kernel_rfl
theorem ty25 : tyOk Try.prog 25 true 3 = true := by kernel_rfl
theorem ty3 : tyOk Try.prog 3 false 1 = true := by kernel_rfl
theorem ty36 : tyOk Try.prog 36 true 4 = true := by kernel_rfl
theorem ty4 : tyOk Try.prog 4 false 1 = true := by kernel_rfl
theorem ty90 : tyOk Try.prog 90 true 3 = true := by kernel_rfl
theorem ui123 : Try.prog.underlying 123 = some (.int .u64) := by kernel_rfl
theorem ui3 : Try.prog.underlying 3 = some (.int .i64) := by kernel_rfl
theorem zr22 : (Try.prog.info? 22).bind (fun i => i.zero.map fun z => z.cells.toList) = some [.slice none 0 0] := by kernel_rfl
theorem zr25 : (Try.prog.info? 25).bind (fun i => i.zero.map fun z => z.cells.toList) = some [.int .i64 0, .slice none 0 0, .slice none 0 0] := by kernel_rfl
theorem zr3 : (Try.prog.info? 3).bind (fun i => i.zero.map fun z => z.cells.toList) = some [.int .i64 0] := by kernel_rfl
theorem zr36 : (Try.prog.info? 36).bind (fun i => i.zero.map fun z => z.cells.toList) = some [.int .i64 0, .int .i64 0, .int .i64 0, .int .i64 0] := by kernel_rfl
theorem zr4 : (Try.prog.info? 4).bind (fun i => i.zero.map fun z => z.cells.toList) = some [.bool false] := by kernel_rfl
theorem zr90 : (Try.prog.info? 90).bind (fun i => i.zero.map fun z => z.cells.toList) = some [.int .i64 0, .int .i64 0, .int .i64 0] := by kernel_rfl
set_option maxHeartbeats 8000000 in
theorem Mendwithin_ok  {w : World} {s : Sg} {R : List HP} {x0 : Int} {x1 : Int} {x2 : Int} (hS : St w s (R))  {r : Bool} (hr : Mendwithin x0 x1 x2 = r) :
    Calls Try.prog 54 [.int .i64 x0, .int .i64 x1, .int .i64 x2].toArray w (fun e w => e = .returned (.bool r) ∧ St w s (R)) := by
  refine enter Try.func54 rfl rfl rfl fun a hE => ?_
  rw [Mendwithin] at hr
  refine W.seq ?_
  refine W.region ?_
  refine WL.vS hS hE (runs_plain rfl) (Gives.p hE rfl) rfl ?_; clear hE a; intro a hE
  refine WL.nil ?_
  refine W.seq ?_
  obtain ⟨q52, hq51, hr⟩ := bndS hr
  refine W.cut (fun a w => ∃ (q55 : Bool), q55 = q52 ∧ Rep a 15 [(6, .bool q55)] ∧ St w s (R)) ?_ ?_
  · refine W.gen fun K56 hK56 => ?_
    refine W.region ?_
    refine WL.vS hS hE (runs_plain rfl) (Gives.p hE rfl) rfl ?_; clear hE a; intro a hE
    refine WL.vS hS hE (runs_plain rfl) (Gives.p hE rfl) rfl ?_; clear hE a; intro a hE
    refine WL.vS hS hE (runs_plain rfl) (Gives.p hE rfl) rfl ?_; clear hE a; intro a hE
    refine WL.vS hS hE (runs_plain rfl) (Gives.p hE rfl) rfl ?_; clear hE a; intro a hE
    rcases Bool.eq_false_or_eq_true (decide (x0 ≥ x1)) with hg57 | hg57
    · replace hq51 := iteT hg57 hq51
      refine WL.vS hS hE (runs_if hE rfl rfl rfl hg57) (Gives.p hE rfl) rfl ?_; clear hE a; intro a hE
      refine WL.vS hS hE (runs_if hE rfl rfl rfl hg57) (Gives.p hE rfl) rfl ?_; clear hE a; intro a hE
      refine WL.vS hS hE (runs_if hE rfl rfl rfl hg57) (Gives.p hE rfl) rfl ?_; clear hE a; intro a hE
      refine WL.vS hS hE (runs_plain rfl) (Gives.pickT hE rfl hg57 rfl) rfl ?_; clear hE a; intro a hE
      refine WL.vS hS hE (runs_plain rfl) (Gives.p hE rfl) rfl ?_; clear hE a; intro a hE
      refine WL.nil ?_
      subst hK56
      exact ⟨decide (x0 ≤ x2), hq51, hE.pick _ ⟨rfl, trivial⟩, hS⟩
    · replace hq51 := iteF hg57 hq51
      refine WL.no hE (runs_not hE rfl rfl rfl (by rw [hg57]; decide)) rfl ?_; clear hE a; intro a hE
      refine WL.no hE (runs_not hE rfl rfl rfl (by rw [hg57]; decide)) rfl ?_; clear hE a; intro a hE
      refine WL.no hE (runs_not hE rfl rfl rfl (by rw [hg57]; decide)) rfl ?_; clear hE a; intro a hE
      refine WL.vS hS hE (runs_plain rfl) (Gives.pickF hE rfl hg57 rfl) rfl ?_; clear hE a; intro a hE
      refine WL.vS hS hE (runs_plain rfl) (Gives.p hE rfl) rfl ?_; clear hE a; intro a hE
      refine WL.nil ?_
      subst hK56
      exact ⟨false, hq51, hE.pick _ ⟨rfl, trivial⟩, hS⟩
  · clear hE hS a w; rintro a w ⟨q55, rfl, hE, hS⟩
    refine W.ret ?_
    refine finG (fn := Try.f54) (rs := [.tmp 6]) (vs := [_]) hE rfl ⟨rfl, trivial⟩ ?_
    subst hr
    exact ⟨rfl, hS⟩
set_option maxHeartbeats 8000000 in
theorem MendRoundslack_ok  {w : World} {s : Sg} {R : List HP} {x0 : MendRound} {a0_0 : Option Addr} {c0_0 : Nat} {a0_1 : Option Addr} {c0_1 : Nat} {x1 : MendLink} (hS : St w s (R)) (h0_0 : Sl 1 (RI .i64) s a0_0 c0_0 x0.Plan) (_h0_1 : Sl 4 RMendLink s a0_1 c0_1 x0.Links) {r : Int} (hr : MendRoundslack x0 x1 = some r) :
    Calls Try.prog 55 [.agg [.int .i64 x0.Period, .slice a0_0 x0.Plan.length c0_0, .slice a0_1 x0.Links.length c0_1].toArray, .agg (MendLink.cells x1).toArray].toArray w (fun e w => e = .returned (.int .i64 r) ∧ St w s (R)) := by
  refine enter Try.func55 rfl rfl rfl fun a hE => ?_
  rw [MendRoundslack] at hr
  refine W.seq ?_
  refine W.region ?_
  refine WL.box hE hS (runs_plain rfl) rfl rfl rfl ?_; clear hE hS a w; intro b51 a w hE hS
  refine WL.box hE hS (runs_plain rfl) rfl rfl rfl ?_; clear hE hS a w; intro b52 a w hE hS
  refine WL.vS hS hE (runs_plain rfl) (Gives.p hE rfl) rfl ?_; clear hE a; intro a hE
  refine WL.nil ?_
  refine W.seq ?_
  refine W.regionQ (C := fun w => St w s (pt b52 (.cells (MendLink.cells x1).toArray 36 (0, 0)) :: pt b51 (.cells #[.int .i64 x0.Period, .slice a0_0 x0.Plan.length c0_0, .slice a0_1 x0.Links.length c0_1] 25 (0, 0)) :: R)) mixed (by kernel_rfl) hS.drew ?_
  refine QL.v hE (runs_plain rfl) (Gives.fld hE rfl fl25_1) rfl ?_; clear hE a; intro a hE
  refine QL.v hE (runs_plain rfl) (Gives.loadB hE 1 rfl rfl rfl ty22) rfl ?_; clear hE a; intro a hE
  refine QL.v hE (runs_plain rfl) (Gives.fld hE rfl fl36_1) rfl ?_; clear hE a; intro a hE
  refine QL.v hE (runs_plain rfl) (Gives.loadB hE 0 rfl rfl rfl ty3) rfl ?_; clear hE a; intro a hE
  obtain ⟨x53, hx54, hr⟩ := bindS hr
  obtain ⟨hi55, hlt56, hy57⟩ := gx_some hx54
  obtain ⟨cs58, hl59, hR60, hat61⟩ := h0_0.at hy57
  subst hR60
  refine QL.v hE (runs_plain rfl) (Gives.idx hE (x1.To).toNat rfl rfl sl22 hi55 hlt56 (h0_0.aok hlt56)) rfl ?_; clear hE a; intro a hE
  refine QL.v hE (runs_plain rfl) (Gives.load1 hE rfl (fun w h => hat61 w _ h) ty3) rfl ?_; clear hE a; intro a hE
  refine QL.v hE (runs_plain rfl) (Gives.fld hE rfl fl25_1) rfl ?_; clear hE a; intro a hE
  refine QL.v hE (runs_plain rfl) (Gives.loadB hE 1 rfl rfl rfl ty22) rfl ?_; clear hE a; intro a hE
  refine QL.v hE (runs_plain rfl) (Gives.fld hE rfl fl36_0) rfl ?_; clear hE a; intro a hE
  refine QL.v hE (runs_plain rfl) (Gives.loadB hE 0 rfl rfl rfl ty3) rfl ?_; clear hE a; intro a hE
  obtain ⟨x62, hx63, hr⟩ := bindS hr
  obtain ⟨hi64, hlt65, hy66⟩ := gx_some hx63
  obtain ⟨cs67, hl68, hR69, hat70⟩ := h0_0.at hy66
  subst hR69
  refine QL.v hE (runs_plain rfl) (Gives.idx hE (x1.From).toNat rfl rfl sl22 hi64 hlt65 (h0_0.aok hlt65)) rfl ?_; clear hE a; intro a hE
  refine QL.v hE (runs_plain rfl) (Gives.load1 hE rfl (fun w h => hat70 w _ h) ty3) rfl ?_; clear hE a; intro a hE
  refine QL.v hE (runs_plain rfl) (Gives.p hE rfl) rfl ?_; clear hE a; intro a hE
  refine QL.v hE (runs_plain rfl) (Gives.fld hE rfl fl36_3) rfl ?_; clear hE a; intro a hE
  refine QL.v hE (runs_plain rfl) (Gives.loadB hE 0 rfl rfl rfl ty3) rfl ?_; clear hE a; intro a hE
  refine QL.v hE (runs_plain rfl) (Gives.fld hE rfl fl25_0) rfl ?_; clear hE a; intro a hE
  refine QL.v hE (runs_plain rfl) (Gives.loadB hE 1 rfl rfl rfl ty3) rfl ?_; clear hE a; intro a hE
  refine QL.v hE (runs_plain rfl) (Gives.p hE rfl) rfl ?_; clear hE a; intro a hE
  refine QL.v hE (runs_plain rfl) (Gives.p hE rfl) rfl ?_; clear hE a; intro a hE
  refine QL.v hE (runs_plain rfl) (Gives.fld hE rfl fl36_2) rfl ?_; clear hE a; intro a hE
  refine QL.v hE (runs_plain rfl) (Gives.loadB hE 0 rfl rfl rfl ty3) rfl ?_; clear hE a; intro a hE
  refine QL.v hE (runs_plain rfl) (Gives.p hE rfl) rfl ?_; clear hE a; intro a hE
  refine QL.v hE (runs_plain rfl) (Gives.p hE rfl) rfl ?_; clear hE a; intro a hE
  refine QL.nil ?_; clear hS w; intro w hS
  refine W.ret ?_
  refine finG (fn := Try.f55) (rs := [.tmp 4]) (vs := [_]) hE rfl ⟨rfl, trivial⟩ ?_
  obtain rfl := Option.some.inj hr
  replace hS := hS.tail
  replace hS := hS.tail
  exact ⟨rfl, hS⟩
set_option maxHeartbeats 8000000 in
theorem MendRoundring_ok {fu : Nat}  {w : World} {s : Sg} {R : List HP} {x0 : MendRound} {a0_0 : Option Addr} {c0_0 : Nat} {a0_1 : Option Addr} {c0_1 : Nat} (hS : St w s (R)) (_h0_0 : Sl 1 (RI .i64) s a0_0 c0_0 x0.Plan) (h0_1 : Sl 4 RMendLink s a0_1 c0_1 x0.Links) {r : Bool} (hr : MendRoundring fu x0 = some r) :
    Calls Try.prog 56 [.agg [.int .i64 x0.Period, .slice a0_0 x0.Plan.length c0_0, .slice a0_1 x0.Links.length c0_1].toArray].toArray w (fun e w => e = .returned (.bool r) ∧ St w s (R)) := by
  refine enter Try.func56 rfl rfl rfl fun a hE => ?_
  rw [MendRoundring] at hr
  refine W.seq ?_
  refine W.region ?_
  refine WL.box hE hS (runs_plain rfl) rfl rfl rfl ?_; clear hE hS a w; intro b51 a w hE hS
  refine WL.vS hS hE (runs_plain rfl) (Gives.p hE rfl) rfl ?_; clear hE a; intro a hE
  refine WL.nil ?_
  refine W.seq ?_
  refine W.region ?_
  refine WL.vS hS hE (runs_plain rfl) (Gives.fld hE rfl fl25_1) rfl ?_; clear hE a; intro a hE
  refine WL.vS hS hE (runs_plain rfl) (Gives.loadB hE 0 rfl rfl rfl ty22) rfl ?_; clear hE a; intro a hE
  refine WL.vS hS hE (runs_plain rfl) (Gives.len hE rfl sl22) rfl ?_; clear hE a; intro a hE
  obtain ⟨x52, hx53, hr⟩ := bindS hr
  refine WL.mkD (Rr := RI .i64) hE hS (runs_plain rfl) rfl rfl ap22 zr3 rfl hx53 rfl ?_; clear hE hS a w; intro b54 cs55 a w h56 hE hS
  refine WL.vS hS hE (runs_plain rfl) (Gives.p hE rfl) rfl ?_; clear hE a; intro a hE
  refine WL.nil ?_
  refine W.seq ?_
  refine W.seq ?_
  refine W.region ?_
  refine WL.vS hS hE (runs_plain rfl) (Gives.fld hE rfl fl25_1) rfl ?_; clear hE a; intro a hE
  refine WL.vS hS hE (runs_plain rfl) (Gives.loadB hE 1 rfl rfl rfl ty22) rfl ?_; clear hE a; intro a hE
  refine WL.vS hS hE (runs_plain rfl) (Gives.len hE rfl sl22) rfl ?_; clear hE a; intro a hE
  refine WL.vS hS hE (runs_plain rfl) (Gives.p hE rfl) rfl ?_; clear hE a; intro a hE
  refine WL.vS hS hE (runs_plain rfl) (Gives.p hE rfl) rfl ?_; clear hE a; intro a hE
  refine WL.nil ?_
  obtain ⟨q70, hq69, hr⟩ := bindS hr
  refine W.cut (fun a w => ∃ (q75 : Int), ∃ (q76 : List Int), ∃ (cs80 : List Value), (.next (q75, q76)) = q70 ∧ Ev 1 (RI .i64) s cs80 q76 ∧ q76.length = x52.length ∧ Rep a 54 [] ∧ St w s (vecC 3 1 (some ⟨b54, 0, none⟩) x52.length x52.length cs80 :: pt b51 (.cells #[.int .i64 x0.Period, .slice a0_0 x0.Plan.length c0_0, .slice a0_1 x0.Links.length c0_1] 25 (0, 0)) :: R)) ?_ ?_
  · refine W.block ?_
    refine W.loop (fun m a w => ∃ (n71 : Nat), ∃ (q75 : Int), ∃ (q76 : List Int), ∃ (cs80 : List Value), n71 = m ∧ MendRoundring.loop2 x0 n71 q75 q76 = some q70 ∧ Ev 1 (RI .i64) s cs80 q76 ∧ q76.length = x52.length ∧ Rep a 54 [(1, .pointer (some ⟨b51, 0, none⟩)), (3, .slice (some ⟨b54, 0, none⟩) x52.length x52.length), (14, .int .i64 (w64 (((x0.Plan).length : Int) + 1))), (15, .int .i64 q75)] ∧ St w s (vecC 3 1 (some ⟨b54, 0, none⟩) x52.length x52.length cs80 :: pt b51 (.cells #[.int .i64 x0.Period, .slice a0_0 x0.Plan.length c0_0, .slice a0_1 x0.Links.length c0_1] 25 (0, 0)) :: R)) (m := fu) ⟨fu, 0, x52, cs55, rfl, hq69, h56, (rfl), hE.pick _ ⟨rfl, rfl, rfl, rfl, trivial⟩, hS⟩ ?_
    clear hE hS a w hq69; rintro m72 a w ⟨n71, q75, q76, cs80, rfl, hq69, h79, hn81, hE, hS⟩
    refine W.gen fun K82 hK82 => ?_
    rcases n71 with _ | n71
    · rw [MendRoundring.loop2] at hq69; exact absurd hq69 (by simp)
    rw [MendRoundring.loop2] at hq69
    refine W.seq ?_
    refine W.region ?_
    refine WL.vS hS hE (runs_plain rfl) (Gives.p hE rfl) rfl ?_; clear hE a; intro a hE
    refine WL.nil ?_
    refine W.seq ?_
    refine W.cond hE rfl (fun hc83 => ?_) (fun hc83 => ?_)
    · replace hq69 := iteT hc83 hq69
      refine W.skip ?_
      refine W.seq ?_
      refine W.block ?_
      refine W.seq ?_
      refine W.region ?_
      refine WL.vS hS hE (runs_plain rfl) (Gives.p hE rfl) rfl ?_; clear hE a; intro a hE
      refine WL.nil ?_
      refine W.seq ?_
      refine W.seq ?_
      refine W.region ?_
      refine WL.vS hS hE (runs_plain rfl) (Gives.fld hE rfl fl25_2) rfl ?_; clear hE a; intro a hE
      refine WL.vS hS hE (runs_plain rfl) (Gives.loadB hE 1 rfl rfl rfl ty23) rfl ?_; clear hE a; intro a hE
      refine WL.vS hS hE (runs_plain rfl) (Gives.len hE rfl sl23) rfl ?_; clear hE a; intro a hE
      refine WL.vS hS hE (runs_plain rfl) (Gives.p hE rfl) rfl ?_; clear hE a; intro a hE
      refine WL.nil ?_
      obtain ⟨q85, hq84, hq69⟩ := bindS hq69
      refine W.cut (fun a w => ∃ (q95 : Bool), ∃ (q96 : List Int), ∃ (cs100 : List Value), (q95, q96) = q85 ∧ Ev 1 (RI .i64) s cs100 q96 ∧ q96.length = x52.length ∧ Rep a 54 [(1, .pointer (some ⟨b51, 0, none⟩)), (3, .slice (some ⟨b54, 0, none⟩) x52.length x52.length), (4, .bool q95), (14, .int .i64 (w64 (((x0.Plan).length : Int) + 1))), (15, .int .i64 q75)] ∧ St w s (vecC 3 1 (some ⟨b54, 0, none⟩) x52.length x52.length cs100 :: pt b51 (.cells #[.int .i64 x0.Period, .slice a0_0 x0.Plan.length c0_0, .slice a0_1 x0.Links.length c0_1] 25 (0, 0)) :: R)) ?_ ?_
      · refine W.block ?_
        refine W.loop (fun m a w => ∃ (rest88 : List MendLink) (k86 : Nat), ∃ (q95 : Bool), ∃ (q96 : List Int), ∃ (cs100 : List Value), rest88.length = m ∧ x0.Links.drop k86 = rest88 ∧ MendRoundring.loop3 rest88 q95 q96 = some q85 ∧ Ev 1 (RI .i64) s cs100 q96 ∧ q96.length = x52.length ∧ Rep a 54 [(1, .pointer (some ⟨b51, 0, none⟩)), (3, .slice (some ⟨b54, 0, none⟩) x52.length x52.length), (4, .bool q95), (14, .int .i64 (w64 (((x0.Plan).length : Int) + 1))), (15, .int .i64 q75), (18, .slice a0_1 x0.Links.length c0_1), (19, .int .i64 ((x0.Links).length : Int)), (20, .int .i64 ((k86 : Nat) : Int))] ∧ St w s (vecC 3 1 (some ⟨b54, 0, none⟩) x52.length x52.length cs100 :: pt b51 (.cells #[.int .i64 x0.Period, .slice a0_0 x0.Plan.length c0_0, .slice a0_1 x0.Links.length c0_1] 25 (0, 0)) :: R)) (m := x0.Links.length) ⟨x0.Links, 0, false, q76, cs80, rfl, rfl, hq84, h79, hn81, hE.pick _ ⟨rfl, rfl, rfl, rfl, rfl, rfl, rfl, rfl, trivial⟩, hS⟩ ?_
        clear hE hS a w hq84; rintro m92 a w ⟨rest88, k86, q95, q96, cs100, rfl, hd89, hq84, h99, hn101, hE, hS⟩
        refine W.gen fun K102 hK102 => ?_
        rcases rest88 with _ | ⟨x87, rest88⟩
        · have hlt90 := drop_nil hd89
          refine W.seq ?_
          refine W.region ?_
          refine WL.vS hS hE (runs_plain rfl) (Gives.p hE rfl) rfl ?_; clear hE a; intro a hE
          refine WL.nil ?_
          refine W.seq ?_
          refine W.condF hE rfl (decide_eq_false (by omega)) ?_
          subst hK102
          refine W.exit rfl ?_
          exact ⟨q95, q96, cs100, Option.some.inj hq84, h99, hn101, hE.pick _ ⟨rfl, rfl, rfl, rfl, rfl, trivial⟩, hS⟩
        · obtain ⟨hlt90, hx91, hd89⟩ := drop_cons hd89
          rw [MendRoundring.loop3] at hq84
          refine W.seq ?_
          refine W.region ?_
          refine WL.vS hS hE (runs_plain rfl) (Gives.p hE rfl) rfl ?_; clear hE a; intro a hE
          refine WL.nil ?_
          refine W.seq ?_
          refine W.condT hE rfl (decide_eq_true (by omega)) ?_
          refine W.skip ?_
          refine W.seq ?_
          refine W.block ?_
          refine W.seq ?_
          refine W.region ?_
          obtain ⟨cs103, hl104, hR105, hat106⟩ := h0_1.at hx91
          subst hR105
          refine WL.vS hS hE (runs_plain rfl) (Gives.idx hE k86 rfl rfl sl23 rfl hlt90 (h0_1.aok hlt90)) rfl ?_; clear hE a; intro a hE
          refine WL.vS hS hE (runs_plain rfl) (Gives.loadA hE rfl (fun w h => hat106 w _ h) ty36) rfl ?_; clear hE a; intro a hE
          refine WL.alloc hE hS (runs_plain rfl) zr36 rfl ?_; clear hE hS a w; intro b107 a w hE hS
          refine WL.storeI hE hS 0 rfl (MendLink.cells x87) (runs_plain rfl) rfl rfl rfl ty36 rfl rfl rfl rfl ?_; clear hE hS a w; intro a w hE hS
          refine WL.nil ?_
          refine W.seq ?_
          obtain ⟨q109, hq108, hq84⟩ := bindS hq84
          refine W.cut (fun a w => ∃ (q112 : Bool), q112 = q109 ∧ Rep a 54 [(1, .pointer (some ⟨b51, 0, none⟩)), (3, .slice (some ⟨b54, 0, none⟩) x52.length x52.length), (4, .bool q95), (6, .pointer (some ⟨b107, 0, none⟩)), (14, .int .i64 (w64 (((x0.Plan).length : Int) + 1))), (15, .int .i64 q75), (18, .slice a0_1 x0.Links.length c0_1), (19, .int .i64 ((x0.Links).length : Int)), (20, .int .i64 ((k86 : Nat) : Int)), (39, .bool q112)] ∧ St w s (pt b107 (.cells (MendLink.cells x87).toArray 36 (0, 0)) :: vecC 3 1 (some ⟨b54, 0, none⟩) x52.length x52.length cs100 :: pt b51 (.cells #[.int .i64 x0.Period, .slice a0_0 x0.Plan.length c0_0, .slice a0_1 x0.Links.length c0_1] 25 (0, 0)) :: R)) ?_ ?_
          · refine W.gen fun K113 hK113 => ?_
            refine W.regionQ (C := fun w => St w s (pt b107 (.cells (MendLink.cells x87).toArray 36 (0, 0)) :: vecC 3 1 (some ⟨b54, 0, none⟩) x52.length x52.length cs100 :: pt b51 (.cells #[.int .i64 x0.Period, .slice a0_0 x0.Plan.length c0_0, .slice a0_1 x0.Links.length c0_1] 25 (0, 0)) :: R)) mixed (by kernel_rfl) hS.drew ?_
            refine QL.v hE (runs_plain rfl) (Gives.fld hE rfl fl36_3) rfl ?_; clear hE a; intro a hE
            refine QL.v hE (runs_plain rfl) (Gives.loadB hE 0 rfl rfl rfl ty3) rfl ?_; clear hE a; intro a hE
            refine QL.v hE (runs_plain rfl) (Gives.p hE rfl) rfl ?_; clear hE a; intro a hE
            refine QL.v hE (runs_plain rfl) (Gives.p hE rfl) rfl ?_; clear hE a; intro a hE
            rcases Bool.eq_false_or_eq_true (x87.Back == 0) with hg114 | hg114
            · replace hq108 := iteT hg114 hq108
              refine QL.v hE (runs_if hE rfl rfl rfl hg114) (Gives.p hE rfl) rfl ?_; clear hE a; intro a hE
              refine QL.v hE (runs_if hE rfl rfl rfl hg114) (Gives.fld hE rfl fl36_1) rfl ?_; clear hE a; intro a hE
              refine QL.v hE (runs_if hE rfl rfl rfl hg114) (Gives.loadB hE 0 rfl rfl rfl ty3) rfl ?_; clear hE a; intro a hE
              obtain ⟨x115, hx116, hq108⟩ := bindS hq108
              obtain ⟨hi117, hlt118, hy119⟩ := gx_some hx116
              obtain ⟨vs120, hl121, hR122, hd123, hget124⟩ := h99.at hy119
              subst hR122
              refine QL.v hE (runs_if hE rfl rfl rfl hg114) (Gives.idx hE ((x87.To).toNat) rfl rfl sl22 hi117 (by have := hn101; omega) (hS.vecAok 1 rfl (by have := hn101; omega : (x87.To).toNat < x52.length))) rfl ?_; clear hE a; intro a hE
              refine QL.v hE (runs_if hE rfl rfl rfl hg114) (Gives.load1 hE rfl (fun w h => St.vecSees h 1 rfl ((x87.To).toNat * 1) _ hget124) ty3) rfl ?_; clear hE a; intro a hE
              refine QL.v hE (runs_if hE rfl rfl rfl hg114) (Gives.p hE rfl) rfl ?_; clear hE a; intro a hE
              refine QL.v hE (runs_if hE rfl rfl rfl hg114) (Gives.fld hE rfl fl36_0) rfl ?_; clear hE a; intro a hE
              refine QL.v hE (runs_if hE rfl rfl rfl hg114) (Gives.loadB hE 0 rfl rfl rfl ty3) rfl ?_; clear hE a; intro a hE
              obtain ⟨x125, hx126, hq108⟩ := bindS hq108
              obtain ⟨hi127, hlt128, hy129⟩ := gx_some hx126
              obtain ⟨vs130, hl131, hR132, hd133, hget134⟩ := h99.at hy129
              subst hR132
              refine QL.v hE (runs_if hE rfl rfl rfl hg114) (Gives.idx hE ((x87.From).toNat) rfl rfl sl22 hi127 (by have := hn101; omega) (hS.vecAok 1 rfl (by have := hn101; omega : (x87.From).toNat < x52.length))) rfl ?_; clear hE a; intro a hE
              refine QL.v hE (runs_if hE rfl rfl rfl hg114) (Gives.load1 hE rfl (fun w h => St.vecSees h 1 rfl ((x87.From).toNat * 1) _ hget134) ty3) rfl ?_; clear hE a; intro a hE
              refine QL.v hE (runs_if hE rfl rfl rfl hg114) (Gives.p hE rfl) rfl ?_; clear hE a; intro a hE
              refine QL.v hE (runs_plain rfl) (Gives.pickT hE rfl hg114 rfl) rfl ?_; clear hE a; intro a hE
              refine QL.nil ?_; clear hS w; intro w hS
              subst hK113
              exact ⟨decide (x115 ≤ x125), Option.some.inj hq108, hE.pick _ ⟨rfl, rfl, rfl, rfl, rfl, rfl, rfl, rfl, rfl, rfl, trivial⟩, hS⟩
            · replace hq108 := iteF hg114 hq108
              refine QL.no hE (runs_not hE rfl rfl rfl (by rw [hg114]; decide)) rfl ?_; clear hE a; intro a hE
              refine QL.no hE (runs_not hE rfl rfl rfl (by rw [hg114]; decide)) rfl ?_; clear hE a; intro a hE
              refine QL.no hE (runs_not hE rfl rfl rfl (by rw [hg114]; decide)) rfl ?_; clear hE a; intro a hE
              refine QL.no hE (runs_not hE rfl rfl rfl (by rw [hg114]; decide)) rfl ?_; clear hE a; intro a hE
              refine QL.no hE (runs_not hE rfl rfl rfl (by rw [hg114]; decide)) rfl ?_; clear hE a; intro a hE
              refine QL.no hE (runs_not hE rfl rfl rfl (by rw [hg114]; decide)) rfl ?_; clear hE a; intro a hE
              refine QL.no hE (runs_not hE rfl rfl rfl (by rw [hg114]; decide)) rfl ?_; clear hE a; intro a hE
              refine QL.no hE (runs_not hE rfl rfl rfl (by rw [hg114]; decide)) rfl ?_; clear hE a; intro a hE
              refine QL.no hE (runs_not hE rfl rfl rfl (by rw [hg114]; decide)) rfl ?_; clear hE a; intro a hE
              refine QL.no hE (runs_not hE rfl rfl rfl (by rw [hg114]; decide)) rfl ?_; clear hE a; intro a hE
              refine QL.no hE (runs_not hE rfl rfl rfl (by rw [hg114]; decide)) rfl ?_; clear hE a; intro a hE
              refine QL.v hE (runs_plain rfl) (Gives.pickF hE rfl hg114 rfl) rfl ?_; clear hE a; intro a hE
              refine QL.nil ?_; clear hS w; intro w hS
              subst hK113
              exact ⟨false, Option.some.inj hq108, hE.pick _ ⟨rfl, rfl, rfl, rfl, rfl, rfl, rfl, rfl, rfl, rfl, trivial⟩, hS⟩
          · clear hE hS a w; rintro a w ⟨q112, rfl, hE, hS⟩
            obtain ⟨q136, hq135, hq84⟩ := bindS hq84
            refine W.cut (fun a w => ∃ (q139 : Bool), ∃ (q140 : List Int), ∃ (cs144 : List Value), (q139, q140) = q136 ∧ Ev 1 (RI .i64) s cs144 q140 ∧ q140.length = x52.length ∧ Rep a 54 [(1, .pointer (some ⟨b51, 0, none⟩)), (3, .slice (some ⟨b54, 0, none⟩) x52.length x52.length), (4, .bool q139), (14, .int .i64 (w64 (((x0.Plan).length : Int) + 1))), (15, .int .i64 q75), (18, .slice a0_1 x0.Links.length c0_1), (19, .int .i64 ((x0.Links).length : Int)), (20, .int .i64 ((k86 : Nat) : Int))] ∧ St w s (pt b107 (.cells (MendLink.cells x87).toArray 36 (0, 0)) :: vecC 3 1 (some ⟨b54, 0, none⟩) x52.length x52.length cs144 :: pt b51 (.cells #[.int .i64 x0.Period, .slice a0_0 x0.Plan.length c0_0, .slice a0_1 x0.Links.length c0_1] 25 (0, 0)) :: R)) ?_ ?_
            · refine W.gen fun K146 hK146 => ?_
              refine W.cond hE rfl (fun hc147 => ?_) (fun hc147 => ?_)
              · replace hq135 := iteT hc147 hq135
                refine W.gen fun K148 hK148 => ?_
                refine W.regionE (sel (fun w => St w s (pt b107 (.cells (MendLink.cells x87).toArray 36 (0, 0)) :: vecC 3 1 (some ⟨b54, 0, none⟩) x52.length x52.length cs100 :: pt b51 (.cells #[.int .i64 x0.Period, .slice a0_0 x0.Plan.length c0_0, .slice a0_1 x0.Links.length c0_1] 25 (0, 0)) :: R)) (fun w => St w s (pt b107 (.cells (MendLink.cells x87).toArray 36 (0, 0)) :: pt b51 (.cells #[.int .i64 x0.Period, .slice a0_0 x0.Plan.length c0_0, .slice a0_1 x0.Links.length c0_1] 25 (0, 0)) :: R))) (fun b i => cond b ([0, 1, 2, 3, 4, 5, 6, 7, 8, 9, 11].contains i) ([0, 1, 2, 3, 4, 5, 6, 7, 8, 9, 10, 11].contains i)) mixed ?_
                replace hS := hS.drew
                refine Rg.takeP (i := 0) hE rfl (by kernel_rfl) (runs_plain rfl) (Gives.p hE rfl) rfl (tw_sel (fun _ => hS) (fun _ => (hS.dropAt 1))) ?_; clear hE a; intro a hE
                refine Rg.takeP (i := 1) hE rfl (by kernel_rfl) (runs_plain rfl) (Gives.fld hE rfl fl36_1) rfl (tw_sel (fun _ => hS) (fun _ => (hS.dropAt 1))) ?_; clear hE a; intro a hE
                have hT := tw_sel (A := fun w => St w s (pt b107 (.cells (MendLink.cells x87).toArray 36 (0, 0)) :: vecC 3 1 (some ⟨b54, 0, none⟩) x52.length x52.length cs100 :: pt b51 (.cells #[.int .i64 x0.Period, .slice a0_0 x0.Plan.length c0_0, .slice a0_1 x0.Links.length c0_1] 25 (0, 0)) :: R)) (B := fun w => St w s (pt b107 (.cells (MendLink.cells x87).toArray 36 (0, 0)) :: pt b51 (.cells #[.int .i64 x0.Period, .slice a0_0 x0.Plan.length c0_0, .slice a0_1 x0.Links.length c0_1] 25 (0, 0)) :: R)) (w := _) (x := true) (y := true) (fun _ => hS) (fun _ => (hS.dropAt 1))
                have hF := hS; replace hS := hS
                refine Rg.take (i := 2) true rfl hE rfl (by kernel_rfl) (runs_plain rfl) (Gives.loadB hE 0 rfl rfl rfl ty3) rfl hT ?_; clear hE a; intro a hE
                replace hS := hF; clear hF hT
                refine Rg.takeP (i := 3) hE rfl (by kernel_rfl) (runs_plain rfl) (Gives.p hE rfl) rfl (tw_sel (fun _ => hS) (fun _ => (hS.dropAt 1))) ?_; clear hE a; intro a hE
                refine Rg.takeP (i := 4) hE rfl (by kernel_rfl) (runs_plain rfl) (Gives.fld hE rfl fl36_0) rfl (tw_sel (fun _ => hS) (fun _ => (hS.dropAt 1))) ?_; clear hE a; intro a hE
                have hT := tw_sel (A := fun w => St w s (pt b107 (.cells (MendLink.cells x87).toArray 36 (0, 0)) :: vecC 3 1 (some ⟨b54, 0, none⟩) x52.length x52.length cs100 :: pt b51 (.cells #[.int .i64 x0.Period, .slice a0_0 x0.Plan.length c0_0, .slice a0_1 x0.Links.length c0_1] 25 (0, 0)) :: R)) (B := fun w => St w s (pt b107 (.cells (MendLink.cells x87).toArray 36 (0, 0)) :: pt b51 (.cells #[.int .i64 x0.Period, .slice a0_0 x0.Plan.length c0_0, .slice a0_1 x0.Links.length c0_1] 25 (0, 0)) :: R)) (w := _) (x := true) (y := true) (fun _ => hS) (fun _ => (hS.dropAt 1))
                have hF := hS; replace hS := hS
                refine Rg.take (i := 5) true rfl hE rfl (by kernel_rfl) (runs_plain rfl) (Gives.loadB hE 0 rfl rfl rfl ty3) rfl hT ?_; clear hE a; intro a hE
                replace hS := hF; clear hF hT
                obtain ⟨x149, hx150, hq135⟩ := bindS hq135
                obtain ⟨hi151, hlt152, hy153⟩ := gx_some hx150
                obtain ⟨vs154, hl155, hR156, hd157, hget158⟩ := h99.at hy153
                subst hR156
                refine Rg.takeP (i := 6) hE rfl (by kernel_rfl) (runs_plain rfl) (Gives.idx hE ((x87.From).toNat) rfl rfl sl22 hi151 (by have := hn101; omega) (hS.vecAok 1 rfl (by have := hn101; omega : (x87.From).toNat < x52.length))) rfl (tw_sel (fun _ => hS) (fun _ => (hS.dropAt 1))) ?_; clear hE a; intro a hE
                have hT := tw_sel (A := fun w => St w s (pt b107 (.cells (MendLink.cells x87).toArray 36 (0, 0)) :: vecC 3 1 (some ⟨b54, 0, none⟩) x52.length x52.length cs100 :: pt b51 (.cells #[.int .i64 x0.Period, .slice a0_0 x0.Plan.length c0_0, .slice a0_1 x0.Links.length c0_1] 25 (0, 0)) :: R)) (B := fun w => St w s (pt b107 (.cells (MendLink.cells x87).toArray 36 (0, 0)) :: pt b51 (.cells #[.int .i64 x0.Period, .slice a0_0 x0.Plan.length c0_0, .slice a0_1 x0.Links.length c0_1] 25 (0, 0)) :: R)) (w := _) (x := true) (y := true) (fun _ => hS) (fun _ => (hS.dropAt 1))
                have hF := hS; replace hS := hS
                refine Rg.take (i := 7) true rfl hE rfl (by kernel_rfl) (runs_plain rfl) (Gives.load1 hE rfl (fun w h => St.vecSees h 1 rfl ((x87.From).toNat * 1) _ hget158) ty3) rfl hT ?_; clear hE a; intro a hE
                replace hS := hF; clear hF hT
                refine Rg.takeP (i := 8) hE rfl (by kernel_rfl) (runs_plain rfl) (Gives.p hE rfl) rfl (tw_sel (fun _ => hS) (fun _ => (hS.dropAt 1))) ?_; clear hE a; intro a hE
                obtain ⟨_, hx160, hq135⟩ := bindS hq135
                obtain ⟨h161, h162⟩ := ix_some hx160
                refine Rg.takeP (i := 9) hE rfl (by kernel_rfl) (runs_plain rfl) (Gives.idx hE ((x87.To).toNat) rfl rfl sl22 h161 (by have := hn101; omega) (hS.vecAok 1 rfl (by have := hn101; omega : (x87.To).toNat < x52.length))) rfl (tw_sel (fun _ => hS) (fun _ => (hS.dropAt 1))) ?_; clear hE a; intro a hE
                refine Rg.one (i := 10) false true rfl (by kernel_rfl) (by kernel_rfl) (by kernel_rfl) ?_
                obtain ⟨x164, hx165, hq135⟩ := bindS hq135
                refine WL.setD hE hS 1 rfl (runs_plain rfl) rfl rfl (vs := [.int .i64 (w64 (x149 + 1))]) rfl ty3 rfl rfl rfl h99 hn101 (sx_some hx165).1 hx165 rfl rfl ?_; clear hE hS a w; intro cs166 a w h167 hn168 hE hS
                refine WL.nil ?_
                refine ⟨⟨fun h => absurd h (by decide), fun _ => (hS.dropAt 1)⟩, ?_⟩
                refine Rg.takeP (i := 11) hE rfl (by kernel_rfl) (runs_plain rfl) (Gives.p hE rfl) rfl (tw_sel (fun h => absurd h (by decide)) (fun _ => (hS.dropAt 1))) ?_; clear hE a; intro a hE
                refine Rg.done (by kernel_rfl) ?_
                subst hK148
                subst hK146
                exact ⟨true, x164, cs166, Option.some.inj hq135, h167, hn168, hE.pick _ ⟨rfl, rfl, rfl, rfl, rfl, rfl, rfl, rfl, trivial⟩, hS⟩
              · replace hq135 := iteF hc147 hq135
                refine W.skip ?_
                subst hK146
                exact ⟨q95, q96, cs100, Option.some.inj hq135, h99, hn101, hE.pick _ ⟨rfl, rfl, rfl, rfl, rfl, rfl, rfl, rfl, trivial⟩, hS⟩
            · clear hE hS a w; rintro a w ⟨q139, q140, cs144, rfl, h143, hn145, hE, hS⟩
              dsimp only at hq84
              refine W.region ?_
              refine WL.vS hS hE (runs_plain rfl) (Gives.inc hE rfl (by have := h0_1.small; omega)) rfl ?_; clear hE a; intro a hE
              refine WL.vS hS hE (runs_plain rfl) (Gives.p hE rfl) rfl ?_; clear hE a; intro a hE
              refine WL.nil ?_
              replace hS := hS.tail
              subst hK102
              exact ⟨rest88.length, Nat.lt_succ_self _, rest88, k86 + 1, q139, q140, cs144, rfl, hd89, hq84, h143, hn145, hE.pick _ ⟨rfl, rfl, rfl, rfl, rfl, rfl, rfl, rfl, trivial⟩, hS⟩
      · clear hE hS a w; rintro a w ⟨q95, q96, cs100, rfl, h99, hn101, hE, hS⟩
        dsimp only at hq69
        refine W.seq ?_
        refine W.region ?_
        refine WL.vS hS hE (runs_plain rfl) (Gives.p hE rfl) rfl ?_; clear hE a; intro a hE
        refine WL.vS hS hE (runs_plain rfl) (Gives.p hE rfl) rfl ?_; clear hE a; intro a hE
        refine WL.nil ?_
        refine W.cond hE rfl (fun hc169 => ?_) (fun hc169 => ?_)
        · replace hq69 := iteT hc169 hq69
          refine W.seq ?_
          refine W.region ?_
          refine WL.vS hS hE (runs_plain rfl) (Gives.p hE rfl) rfl ?_; clear hE a; intro a hE
          refine WL.nil ?_
          refine W.ret ?_
          subst hK82
          rw [← Option.some.inj hq69] at hr
          dsimp only at hr
          refine finG (fn := Try.f56) (rs := [.tmp 2]) (vs := [_]) hE rfl ⟨rfl, trivial⟩ ?_
          obtain rfl := Option.some.inj hr
          replace hS := hS.tail
          replace hS := hS.tail
          exact ⟨rfl, hS⟩
        · replace hq69 := iteF hc169 hq69
          refine W.skip ?_
          refine W.region ?_
          refine WL.vS hS hE (runs_plain rfl) (Gives.p hE rfl) rfl ?_; clear hE a; intro a hE
          refine WL.vS hS hE (runs_plain rfl) (Gives.p hE rfl) rfl ?_; clear hE a; intro a hE
          refine WL.nil ?_
          subst hK82
          exact ⟨n71, Nat.lt_succ_self _, n71, (w64 (q75 + 1)), q96, cs100, rfl, hq69, h99, hn101, hE.pick _ ⟨rfl, rfl, rfl, rfl, trivial⟩, hS⟩
    · replace hq69 := iteF hc83 hq69
      subst hK82
      refine W.exit rfl ?_
      exact ⟨q75, q76, cs80, Option.some.inj hq69, h79, hn81, hE.pick _ trivial, hS⟩
  · clear hE hS a w; rintro a w ⟨q75, q76, cs80, rfl, h79, hn81, hE, hS⟩
    dsimp only at hr
    refine W.seq ?_
    refine W.region ?_
    refine WL.vS hS hE (runs_plain rfl) (Gives.p hE rfl) rfl ?_; clear hE a; intro a hE
    refine WL.nil ?_
    refine W.ret ?_
    refine finG (fn := Try.f56) (rs := [.tmp 2]) (vs := [_]) hE rfl ⟨rfl, trivial⟩ ?_
    obtain rfl := Option.some.inj hr
    replace hS := hS.tail
    replace hS := hS.tail
    exact ⟨rfl, hS⟩
set_option maxHeartbeats 8000000 in
theorem MendCheckRound_ok {fu : Nat}  {w : World} {s : Sg} {R : List HP} {x0 : MendRound} {a0_0 : Option Addr} {c0_0 : Nat} {a0_1 : Option Addr} {c0_1 : Nat} (hS : St w s (R)) (h0_0 : Sl 1 (RI .i64) s a0_0 c0_0 x0.Plan) (h0_1 : Sl 4 RMendLink s a0_1 c0_1 x0.Links) {r : Int} (hr : MendCheckRound fu x0 = some r) :
    Calls Try.prog 16 [.agg [.int .i64 x0.Period, .slice a0_0 x0.Plan.length c0_0, .slice a0_1 x0.Links.length c0_1].toArray].toArray w (fun e w => e = .returned (.int .i64 r) ∧ St w s (R)) := by
  refine enter Try.func16 rfl rfl rfl fun a hE => ?_
  rw [MendCheckRound] at hr
  refine W.seq ?_
  refine W.region ?_
  refine WL.box hE hS (runs_plain rfl) rfl rfl rfl ?_; clear hE hS a w; intro b51 a w hE hS
  refine WL.vS hS hE (runs_plain rfl) (Gives.p hE rfl) rfl ?_; clear hE a; intro a hE
  refine WL.nil ?_
  refine W.seq ?_
  refine W.block ?_
  refine W.seq ?_
  refine W.region ?_
  refine WL.vS hS hE (runs_plain rfl) (Gives.fld hE rfl fl25_0) rfl ?_; clear hE a; intro a hE
  refine WL.vS hS hE (runs_plain rfl) (Gives.loadB hE 0 rfl rfl rfl ty3) rfl ?_; clear hE a; intro a hE
  refine WL.fnq hE (Mendwithin_ok hS  rfl (r := Mendwithin x0.Period 1 3600)) (runs_plain rfl) bd54 rfl rfl rfl ?_
  clear hE hS; rintro e w ⟨rfl, hS⟩; refine ⟨_, rfl, ?_⟩; clear a; intro a hE
  refine WL.vS hS hE (runs_plain rfl) (Gives.p hE rfl) rfl ?_; clear hE a; intro a hE
  refine WL.vS hS hE (runs_plain rfl) (Gives.p hE rfl) rfl ?_; clear hE a; intro a hE
  refine WL.nil ?_
  refine W.cond hE rfl (fun hc52 => ?_) (fun hc52 => ?_)
  · replace hr := iteT hc52 hr
    refine W.seq ?_
    refine W.region ?_
    refine WL.vS hS hE (runs_plain rfl) (Gives.p hE rfl) rfl ?_; clear hE a; intro a hE
    refine WL.nil ?_
    refine W.ret ?_
    refine finG (fn := Try.f16) (rs := [.tmp 2]) (vs := [_]) hE rfl ⟨rfl, trivial⟩ ?_
    obtain rfl := Option.some.inj hr
    replace hS := hS.tail
    exact ⟨rfl, hS⟩
  · replace hr := iteF hc52 hr
    refine W.seq ?_
    obtain ⟨q54, hq53, hr⟩ := bndS hr
    refine W.cut (fun a w => ∃ (q57 : Bool), q57 = q54 ∧ Rep a 83 [(1, .pointer (some ⟨b51, 0, none⟩)), (12, .bool q57)] ∧ St w s (pt b51 (.cells #[.int .i64 x0.Period, .slice a0_0 x0.Plan.length c0_0, .slice a0_1 x0.Links.length c0_1] 25 (0, 0)) :: R)) ?_ ?_
    · refine W.gen fun K58 hK58 => ?_
      refine W.region ?_
      refine WL.vS hS hE (runs_plain rfl) (Gives.fld hE rfl fl25_1) rfl ?_; clear hE a; intro a hE
      refine WL.vS hS hE (runs_plain rfl) (Gives.loadB hE 0 rfl rfl rfl ty22) rfl ?_; clear hE a; intro a hE
      refine WL.vS hS hE (runs_plain rfl) (Gives.len hE rfl sl22) rfl ?_; clear hE a; intro a hE
      refine WL.fnq hE (Mendwithin_ok hS  rfl (r := Mendwithin ((x0.Plan).length : Int) 1 8)) (runs_plain rfl) bd54 rfl rfl rfl ?_
      clear hE hS; rintro e w ⟨rfl, hS⟩; refine ⟨_, rfl, ?_⟩; clear a; intro a hE
      refine WL.vS hS hE (runs_plain rfl) (Gives.p hE rfl) rfl ?_; clear hE a; intro a hE
      refine WL.vS hS hE (runs_plain rfl) (Gives.p hE rfl) rfl ?_; clear hE a; intro a hE
      rcases Bool.eq_false_or_eq_true (!(Mendwithin ((x0.Plan).length : Int) 1 8)) with hg59 | hg59
      · replace hq53 := iteT hg59 hq53
        refine WL.no hE (runs_not hE rfl rfl rfl (by rw [hg59]; decide)) rfl ?_; clear hE a; intro a hE
        refine WL.no hE (runs_not hE rfl rfl rfl (by rw [hg59]; decide)) rfl ?_; clear hE a; intro a hE
        refine WL.no hE (runs_not hE rfl rfl rfl (by rw [hg59]; decide)) rfl ?_; clear hE a; intro a hE
        refine WL.no hE (runs_not hE rfl rfl rfl (by rw [hg59]; decide)) rfl ?_; clear hE a; intro a hE
        refine WL.vS hS hE (runs_plain rfl) (Gives.pickT hE rfl hg59 rfl) rfl ?_; clear hE a; intro a hE
        refine WL.vS hS hE (runs_plain rfl) (Gives.p hE rfl) rfl ?_; clear hE a; intro a hE
        refine WL.nil ?_
        subst hK58
        exact ⟨true, hq53, hE.pick _ ⟨rfl, rfl, trivial⟩, hS⟩
      · replace hq53 := iteF hg59 hq53
        refine WL.vS hS hE (runs_if hE rfl rfl rfl hg59) (Gives.fld hE rfl fl25_2) rfl ?_; clear hE a; intro a hE
        refine WL.vS hS hE (runs_if hE rfl rfl rfl hg59) (Gives.loadB hE 0 rfl rfl rfl ty23) rfl ?_; clear hE a; intro a hE
        refine WL.vS hS hE (runs_if hE rfl rfl rfl hg59) (Gives.len hE rfl sl23) rfl ?_; clear hE a; intro a hE
        refine WL.vS hS hE (runs_if hE rfl rfl rfl hg59) (Gives.p hE rfl) rfl ?_; clear hE a; intro a hE
        refine WL.vS hS hE (runs_plain rfl) (Gives.pickF hE rfl hg59 rfl) rfl ?_; clear hE a; intro a hE
        refine WL.vS hS hE (runs_plain rfl) (Gives.p hE rfl) rfl ?_; clear hE a; intro a hE
        refine WL.nil ?_
        subst hK58
        exact ⟨decide (((x0.Links).length : Int) > 24), hq53, hE.pick _ ⟨rfl, rfl, trivial⟩, hS⟩
    · clear hE hS a w; rintro a w ⟨q57, rfl, hE, hS⟩
      refine W.cond hE rfl (fun hc60 => ?_) (fun hc60 => ?_)
      · replace hr := iteT hc60 hr
        refine W.seq ?_
        refine W.region ?_
        refine WL.vS hS hE (runs_plain rfl) (Gives.p hE rfl) rfl ?_; clear hE a; intro a hE
        refine WL.nil ?_
        refine W.ret ?_
        refine finG (fn := Try.f16) (rs := [.tmp 2]) (vs := [_]) hE rfl ⟨rfl, trivial⟩ ?_
        obtain rfl := Option.some.inj hr
        replace hS := hS.tail
        exact ⟨rfl, hS⟩
      · replace hr := iteF hc60 hr
        refine W.skip ?_
        refine W.seq ?_
        refine W.seq ?_
        refine W.region ?_
        refine WL.vS hS hE (runs_plain rfl) (Gives.fld hE rfl fl25_1) rfl ?_; clear hE a; intro a hE
        refine WL.vS hS hE (runs_plain rfl) (Gives.loadB hE 0 rfl rfl rfl ty22) rfl ?_; clear hE a; intro a hE
        refine WL.vS hS hE (runs_plain rfl) (Gives.len hE rfl sl22) rfl ?_; clear hE a; intro a hE
        refine WL.vS hS hE (runs_plain rfl) (Gives.p hE rfl) rfl ?_; clear hE a; intro a hE
        refine WL.nil ?_
        obtain ⟨q62, hq61, hr⟩ := bndS hr
        refine W.cut (fun a w => (.next ()) = q62 ∧ Rep a 83 [(1, .pointer (some ⟨b51, 0, none⟩))] ∧ St w s (pt b51 (.cells #[.int .i64 x0.Period, .slice a0_0 x0.Plan.length c0_0, .slice a0_1 x0.Links.length c0_1] 25 (0, 0)) :: R)) ?_ ?_
        · refine W.block ?_
          refine W.loop (fun m a w => ∃ (rest65 : List Int) (k63 : Nat), rest65.length = m ∧ x0.Plan.drop k63 = rest65 ∧ MendCheckRound.loop1 x0 rest65 = q62 ∧ Rep a 83 [(1, .pointer (some ⟨b51, 0, none⟩)), (25, .slice a0_0 x0.Plan.length c0_0), (26, .int .i64 ((x0.Plan).length : Int)), (27, .int .i64 ((k63 : Nat) : Int))] ∧ St w s (pt b51 (.cells #[.int .i64 x0.Period, .slice a0_0 x0.Plan.length c0_0, .slice a0_1 x0.Links.length c0_1] 25 (0, 0)) :: R)) (m := x0.Plan.length) ⟨x0.Plan, 0, rfl, rfl, hq61, hE.pick _ ⟨rfl, rfl, rfl, rfl, trivial⟩, hS⟩ ?_
          clear hE hS a w hq61; rintro m69 a w ⟨rest65, k63, rfl, hd66, hq61, hE, hS⟩
          refine W.gen fun K72 hK72 => ?_
          rcases rest65 with _ | ⟨x64, rest65⟩
          · have hlt67 := drop_nil hd66
            refine W.seq ?_
            refine W.region ?_
            refine WL.vS hS hE (runs_plain rfl) (Gives.p hE rfl) rfl ?_; clear hE a; intro a hE
            refine WL.nil ?_
            refine W.seq ?_
            refine W.condF hE rfl (decide_eq_false (by omega)) ?_
            subst hK72
            refine W.exit rfl ?_
            exact ⟨hq61, hE.pick _ ⟨rfl, trivial⟩, hS⟩
          · obtain ⟨hlt67, hx68, hd66⟩ := drop_cons hd66
            rw [MendCheckRound.loop1] at hq61
            refine W.seq ?_
            refine W.region ?_
            refine WL.vS hS hE (runs_plain rfl) (Gives.p hE rfl) rfl ?_; clear hE a; intro a hE
            refine WL.nil ?_
            refine W.seq ?_
            refine W.condT hE rfl (decide_eq_true (by omega)) ?_
            refine W.skip ?_
            refine W.seq ?_
            refine W.block ?_
            refine W.seq ?_
            refine W.region ?_
            obtain ⟨cs73, hl74, hR75, hat76⟩ := h0_0.at hx68
            subst hR75
            refine WL.vS hS hE (runs_plain rfl) (Gives.idx hE k63 rfl rfl sl22 rfl hlt67 (h0_0.aok hlt67)) rfl ?_; clear hE a; intro a hE
            refine WL.vS hS hE (runs_plain rfl) (Gives.load1 hE rfl (fun w h => hat76 w _ h) ty3) rfl ?_; clear hE a; intro a hE
            refine WL.vS hS hE (runs_plain rfl) (Gives.p hE rfl) rfl ?_; clear hE a; intro a hE
            refine WL.nil ?_
            refine W.seq ?_
            refine W.region ?_
            refine WL.vS hS hE (runs_plain rfl) (Gives.p hE rfl) rfl ?_; clear hE a; intro a hE
            refine WL.vS hS hE (runs_plain rfl) (Gives.fld hE rfl fl25_0) rfl ?_; clear hE a; intro a hE
            refine WL.vS hS hE (runs_plain rfl) (Gives.loadB hE 0 rfl rfl rfl ty3) rfl ?_; clear hE a; intro a hE
            refine WL.vS hS hE (runs_plain rfl) (Gives.p hE rfl) rfl ?_; clear hE a; intro a hE
            refine WL.fnq hE (Mendwithin_ok hS  rfl (r := Mendwithin x64 0 (w64 (x0.Period - 1)))) (runs_plain rfl) bd54 rfl rfl rfl ?_
            clear hE hS; rintro e w ⟨rfl, hS⟩; refine ⟨_, rfl, ?_⟩; clear a; intro a hE
            refine WL.vS hS hE (runs_plain rfl) (Gives.p hE rfl) rfl ?_; clear hE a; intro a hE
            refine WL.nil ?_
            refine W.cond hE rfl (fun hc77 => ?_) (fun hc77 => ?_)
            · replace hq61 := iteT hc77 hq61
              refine W.seq ?_
              refine W.region ?_
              refine WL.vS hS hE (runs_plain rfl) (Gives.p hE rfl) rfl ?_; clear hE a; intro a hE
              refine WL.nil ?_
              refine W.ret ?_
              subst hK72
              rw [← hq61] at hr
              dsimp only at hr
              refine finG (fn := Try.f16) (rs := [.tmp 2]) (vs := [_]) hE rfl ⟨rfl, trivial⟩ ?_
              obtain rfl := Option.some.inj hr
              replace hS := hS.tail
              exact ⟨rfl, hS⟩
            · replace hq61 := iteF hc77 hq61
              refine W.skip ?_
              refine W.region ?_
              refine WL.vS hS hE (runs_plain rfl) (Gives.inc hE rfl (by have := h0_0.small; omega)) rfl ?_; clear hE a; intro a hE
              refine WL.vS hS hE (runs_plain rfl) (Gives.p hE rfl) rfl ?_; clear hE a; intro a hE
              refine WL.nil ?_
              subst hK72
              exact ⟨rest65.length, Nat.lt_succ_self _, rest65, k63 + 1, rfl, hd66, hq61, hE.pick _ ⟨rfl, rfl, rfl, rfl, trivial⟩, hS⟩
        · clear hE hS a w; rintro a w ⟨rfl, hE, hS⟩
          dsimp only at hr
          refine W.seq ?_
          refine W.seq ?_
          refine W.region ?_
          refine WL.vS hS hE (runs_plain rfl) (Gives.fld hE rfl fl25_2) rfl ?_; clear hE a; intro a hE
          refine WL.vS hS hE (runs_plain rfl) (Gives.loadB hE 0 rfl rfl rfl ty23) rfl ?_; clear hE a; intro a hE
          refine WL.vS hS hE (runs_plain rfl) (Gives.len hE rfl sl23) rfl ?_; clear hE a; intro a hE
          refine WL.vS hS hE (runs_plain rfl) (Gives.p hE rfl) rfl ?_; clear hE a; intro a hE
          refine WL.nil ?_
          obtain ⟨q79, hq78, hr⟩ := bindS hr
          refine W.cut (fun a w => (.next ()) = q79 ∧ Rep a 83 [(1, .pointer (some ⟨b51, 0, none⟩))] ∧ St w s (pt b51 (.cells #[.int .i64 x0.Period, .slice a0_0 x0.Plan.length c0_0, .slice a0_1 x0.Links.length c0_1] 25 (0, 0)) :: R)) ?_ ?_
          · refine W.block ?_
            refine W.loop (fun m a w => ∃ (rest82 : List MendLink) (k80 : Nat), rest82.length = m ∧ x0.Links.drop k80 = rest82 ∧ MendCheckRound.loop2 x0 rest82 = some q79 ∧ Rep a 83 [(1, .pointer (some ⟨b51, 0, none⟩)), (39, .slice a0_1 x0.Links.length c0_1), (40, .int .i64 ((x0.Links).length : Int)), (41, .int .i64 ((k80 : Nat) : Int))] ∧ St w s (pt b51 (.cells #[.int .i64 x0.Period, .slice a0_0 x0.Plan.length c0_0, .slice a0_1 x0.Links.length c0_1] 25 (0, 0)) :: R)) (m := x0.Links.length) ⟨x0.Links, 0, rfl, rfl, hq78, hE.pick _ ⟨rfl, rfl, rfl, rfl, trivial⟩, hS⟩ ?_
            clear hE hS a w hq78; rintro m86 a w ⟨rest82, k80, rfl, hd83, hq78, hE, hS⟩
            refine W.gen fun K89 hK89 => ?_
            rcases rest82 with _ | ⟨x81, rest82⟩
            · have hlt84 := drop_nil hd83
              refine W.seq ?_
              refine W.region ?_
              refine WL.vS hS hE (runs_plain rfl) (Gives.p hE rfl) rfl ?_; clear hE a; intro a hE
              refine WL.nil ?_
              refine W.seq ?_
              refine W.condF hE rfl (decide_eq_false (by omega)) ?_
              subst hK89
              refine W.exit rfl ?_
              exact ⟨Option.some.inj hq78, hE.pick _ ⟨rfl, trivial⟩, hS⟩
            · obtain ⟨hlt84, hx85, hd83⟩ := drop_cons hd83
              rw [MendCheckRound.loop2] at hq78
              refine W.seq ?_
              refine W.region ?_
              refine WL.vS hS hE (runs_plain rfl) (Gives.p hE rfl) rfl ?_; clear hE a; intro a hE
              refine WL.nil ?_
              refine W.seq ?_
              refine W.condT hE rfl (decide_eq_true (by omega)) ?_
              refine W.skip ?_
              refine W.seq ?_
              refine W.block ?_
              refine W.seq ?_
              refine W.region ?_
              obtain ⟨cs90, hl91, hR92, hat93⟩ := h0_1.at hx85
              subst hR92
              refine WL.vS hS hE (runs_plain rfl) (Gives.idx hE k80 rfl rfl sl23 rfl hlt84 (h0_1.aok hlt84)) rfl ?_; clear hE a; intro a hE
              refine WL.vS hS hE (runs_plain rfl) (Gives.loadA hE rfl (fun w h => hat93 w _ h) ty36) rfl ?_; clear hE a; intro a hE
              refine WL.alloc hE hS (runs_plain rfl) zr36 rfl ?_; clear hE hS a w; intro b94 a w hE hS
              refine WL.storeI hE hS 0 rfl (MendLink.cells x81) (runs_plain rfl) rfl rfl rfl ty36 rfl rfl rfl rfl ?_; clear hE hS a w; intro a w hE hS
              refine WL.nil ?_
              refine W.block ?_
              refine W.seq ?_
              obtain ⟨q96, hq95, hq78⟩ := bndS hq78
              refine W.cut (fun a w => ∃ (q99 : Bool), q99 = q96 ∧ Rep a 83 [(1, .pointer (some ⟨b51, 0, none⟩)), (6, .pointer (some ⟨b94, 0, none⟩)), (39, .slice a0_1 x0.Links.length c0_1), (40, .int .i64 ((x0.Links).length : Int)), (41, .int .i64 ((k80 : Nat) : Int)), (45, .bool q99)] ∧ St w s (pt b94 (.cells (MendLink.cells x81).toArray 36 (0, 0)) :: pt b51 (.cells #[.int .i64 x0.Period, .slice a0_0 x0.Plan.length c0_0, .slice a0_1 x0.Links.length c0_1] 25 (0, 0)) :: R)) ?_ ?_
              · refine W.gen fun K100 hK100 => ?_
                refine W.region ?_
                refine WL.vS hS hE (runs_plain rfl) (Gives.fld hE rfl fl36_0) rfl ?_; clear hE a; intro a hE
                refine WL.vS hS hE (runs_plain rfl) (Gives.loadB hE 0 rfl rfl rfl ty3) rfl ?_; clear hE a; intro a hE
                refine WL.vS hS hE (runs_plain rfl) (Gives.fld hE rfl fl25_1) rfl ?_; clear hE a; intro a hE
                refine WL.vS hS hE (runs_plain rfl) (Gives.loadB hE 1 rfl rfl rfl ty22) rfl ?_; clear hE a; intro a hE
                refine WL.vS hS hE (runs_plain rfl) (Gives.len hE rfl sl22) rfl ?_; clear hE a; intro a hE
                refine WL.vS hS hE (runs_plain rfl) (Gives.p hE rfl) rfl ?_; clear hE a; intro a hE
                refine WL.fnq hE (Mendwithin_ok hS  rfl (r := Mendwithin x81.From 0 (w64 (((x0.Plan).length : Int) - 1)))) (runs_plain rfl) bd54 rfl rfl rfl ?_
                clear hE hS; rintro e w ⟨rfl, hS⟩; refine ⟨_, rfl, ?_⟩; clear a; intro a hE
                refine WL.vS hS hE (runs_plain rfl) (Gives.p hE rfl) rfl ?_; clear hE a; intro a hE
                refine WL.vS hS hE (runs_plain rfl) (Gives.p hE rfl) rfl ?_; clear hE a; intro a hE
                rcases Bool.eq_false_or_eq_true (!(Mendwithin x81.From 0 (w64 (((x0.Plan).length : Int) - 1)))) with hg101 | hg101
                · replace hq95 := iteT hg101 hq95
                  refine WL.no hE (runs_not hE rfl rfl rfl (by rw [hg101]; decide)) rfl ?_; clear hE a; intro a hE
                  refine WL.no hE (runs_not hE rfl rfl rfl (by rw [hg101]; decide)) rfl ?_; clear hE a; intro a hE
                  refine WL.no hE (runs_not hE rfl rfl rfl (by rw [hg101]; decide)) rfl ?_; clear hE a; intro a hE
                  refine WL.no hE (runs_not hE rfl rfl rfl (by rw [hg101]; decide)) rfl ?_; clear hE a; intro a hE
                  refine WL.no hE (runs_not hE rfl rfl rfl (by rw [hg101]; decide)) rfl ?_; clear hE a; intro a hE
                  refine WL.no hE (runs_not hE rfl rfl rfl (by rw [hg101]; decide)) rfl ?_; clear hE a; intro a hE
                  refine WL.no hE (runs_not hE rfl rfl rfl (by rw [hg101]; decide)) rfl ?_; clear hE a; intro a hE
                  refine WL.no hE (runs_not hE rfl rfl rfl (by rw [hg101]; decide)) rfl ?_; clear hE a; intro a hE
                  refine WL.vS hS hE (runs_plain rfl) (Gives.pickT hE rfl hg101 rfl) rfl ?_; clear hE a; intro a hE
                  refine WL.vS hS hE (runs_plain rfl) (Gives.p hE rfl) rfl ?_; clear hE a; intro a hE
                  refine WL.nil ?_
                  subst hK100
                  exact ⟨true, hq95, hE.pick _ ⟨rfl, rfl, rfl, rfl, rfl, rfl, trivial⟩, hS⟩
                · replace hq95 := iteF hg101 hq95
                  refine WL.vS hS hE (runs_if hE rfl rfl rfl hg101) (Gives.fld hE rfl fl36_1) rfl ?_; clear hE a; intro a hE
                  refine WL.vS hS hE (runs_if hE rfl rfl rfl hg101) (Gives.loadB hE 0 rfl rfl rfl ty3) rfl ?_; clear hE a; intro a hE
                  refine WL.vS hS hE (runs_if hE rfl rfl rfl hg101) (Gives.fld hE rfl fl25_1) rfl ?_; clear hE a; intro a hE
                  refine WL.vS hS hE (runs_if hE rfl rfl rfl hg101) (Gives.loadB hE 1 rfl rfl rfl ty22) rfl ?_; clear hE a; intro a hE
                  refine WL.vS hS hE (runs_if hE rfl rfl rfl hg101) (Gives.len hE rfl sl22) rfl ?_; clear hE a; intro a hE
                  refine WL.vS hS hE (runs_if hE rfl rfl rfl hg101) (Gives.p hE rfl) rfl ?_; clear hE a; intro a hE
                  refine WL.fnq hE (Mendwithin_ok hS  rfl (r := Mendwithin x81.To 0 (w64 (((x0.Plan).length : Int) - 1)))) (runs_if hE rfl rfl rfl hg101) bd54 rfl rfl rfl ?_
                  clear hE hS; rintro e w ⟨rfl, hS⟩; refine ⟨_, rfl, ?_⟩; clear a; intro a hE
                  refine WL.vS hS hE (runs_if hE rfl rfl rfl hg101) (Gives.p hE rfl) rfl ?_; clear hE a; intro a hE
                  refine WL.vS hS hE (runs_plain rfl) (Gives.pickF hE rfl hg101 rfl) rfl ?_; clear hE a; intro a hE
                  refine WL.vS hS hE (runs_plain rfl) (Gives.p hE rfl) rfl ?_; clear hE a; intro a hE
                  refine WL.nil ?_
                  subst hK100
                  exact ⟨!(Mendwithin x81.To 0 (w64 (((x0.Plan).length : Int) - 1))), hq95, hE.pick _ ⟨rfl, rfl, rfl, rfl, rfl, rfl, trivial⟩, hS⟩
              · clear hE hS a w; rintro a w ⟨q99, rfl, hE, hS⟩
                refine W.cond hE rfl (fun hc102 => ?_) (fun hc102 => ?_)
                · replace hq78 := iteT hc102 hq78
                  refine W.seq ?_
                  refine W.region ?_
                  refine WL.vS hS hE (runs_plain rfl) (Gives.p hE rfl) rfl ?_; clear hE a; intro a hE
                  refine WL.nil ?_
                  refine W.ret ?_
                  subst hK89
                  rw [← Option.some.inj hq78] at hr
                  dsimp only at hr
                  refine finG (fn := Try.f16) (rs := [.tmp 2]) (vs := [_]) hE rfl ⟨rfl, trivial⟩ ?_
                  obtain rfl := Option.some.inj hr
                  replace hS := hS.tail
                  replace hS := hS.tail
                  exact ⟨rfl, hS⟩
                · replace hq78 := iteF hc102 hq78
                  refine W.seq ?_
                  obtain ⟨q104, hq103, hq78⟩ := bndS hq78
                  refine W.cut (fun a w => ∃ (q107 : Bool), q107 = q104 ∧ Rep a 83 [(1, .pointer (some ⟨b51, 0, none⟩)), (6, .pointer (some ⟨b94, 0, none⟩)), (39, .slice a0_1 x0.Links.length c0_1), (40, .int .i64 ((x0.Links).length : Int)), (41, .int .i64 ((k80 : Nat) : Int)), (64, .bool q107)] ∧ St w s (pt b94 (.cells (MendLink.cells x81).toArray 36 (0, 0)) :: pt b51 (.cells #[.int .i64 x0.Period, .slice a0_0 x0.Plan.length c0_0, .slice a0_1 x0.Links.length c0_1] 25 (0, 0)) :: R)) ?_ ?_
                  · refine W.gen fun K108 hK108 => ?_
                    refine W.region ?_
                    refine WL.vS hS hE (runs_plain rfl) (Gives.fld hE rfl fl36_2) rfl ?_; clear hE a; intro a hE
                    refine WL.vS hS hE (runs_plain rfl) (Gives.loadB hE 0 rfl rfl rfl ty3) rfl ?_; clear hE a; intro a hE
                    refine WL.fnq hE (Mendwithin_ok hS  rfl (r := Mendwithin x81.Len 0 28800)) (runs_plain rfl) bd54 rfl rfl rfl ?_
                    clear hE hS; rintro e w ⟨rfl, hS⟩; refine ⟨_, rfl, ?_⟩; clear a; intro a hE
                    refine WL.vS hS hE (runs_plain rfl) (Gives.p hE rfl) rfl ?_; clear hE a; intro a hE
                    refine WL.vS hS hE (runs_plain rfl) (Gives.p hE rfl) rfl ?_; clear hE a; intro a hE
                    rcases Bool.eq_false_or_eq_true (!(Mendwithin x81.Len 0 28800)) with hg109 | hg109
                    · replace hq103 := iteT hg109 hq103
                      refine WL.no hE (runs_not hE rfl rfl rfl (by rw [hg109]; decide)) rfl ?_; clear hE a; intro a hE
                      refine WL.no hE (runs_not hE rfl rfl rfl (by rw [hg109]; decide)) rfl ?_; clear hE a; intro a hE
                      refine WL.no hE (runs_not hE rfl rfl rfl (by rw [hg109]; decide)) rfl ?_; clear hE a; intro a hE
                      refine WL.no hE (runs_not hE rfl rfl rfl (by rw [hg109]; decide)) rfl ?_; clear hE a; intro a hE
                      refine WL.vS hS hE (runs_plain rfl) (Gives.pickT hE rfl hg109 rfl) rfl ?_; clear hE a; intro a hE
                      refine WL.vS hS hE (runs_plain rfl) (Gives.p hE rfl) rfl ?_; clear hE a; intro a hE
                      refine WL.nil ?_
                      subst hK108
                      exact ⟨true, hq103, hE.pick _ ⟨rfl, rfl, rfl, rfl, rfl, rfl, trivial⟩, hS⟩
                    · replace hq103 := iteF hg109 hq103
                      refine WL.vS hS hE (runs_if hE rfl rfl rfl hg109) (Gives.fld hE rfl fl36_3) rfl ?_; clear hE a; intro a hE
                      refine WL.vS hS hE (runs_if hE rfl rfl rfl hg109) (Gives.loadB hE 0 rfl rfl rfl ty3) rfl ?_; clear hE a; intro a hE
                      refine WL.fnq hE (Mendwithin_ok hS  rfl (r := Mendwithin x81.Back 0 3)) (runs_if hE rfl rfl rfl hg109) bd54 rfl rfl rfl ?_
                      clear hE hS; rintro e w ⟨rfl, hS⟩; refine ⟨_, rfl, ?_⟩; clear a; intro a hE
                      refine WL.vS hS hE (runs_if hE rfl rfl rfl hg109) (Gives.p hE rfl) rfl ?_; clear hE a; intro a hE
                      refine WL.vS hS hE (runs_plain rfl) (Gives.pickF hE rfl hg109 rfl) rfl ?_; clear hE a; intro a hE
                      refine WL.vS hS hE (runs_plain rfl) (Gives.p hE rfl) rfl ?_; clear hE a; intro a hE
                      refine WL.nil ?_
                      subst hK108
                      exact ⟨!(Mendwithin x81.Back 0 3), hq103, hE.pick _ ⟨rfl, rfl, rfl, rfl, rfl, rfl, trivial⟩, hS⟩
                  · clear hE hS a w; rintro a w ⟨q107, rfl, hE, hS⟩
                    refine W.cond hE rfl (fun hc110 => ?_) (fun hc110 => ?_)
                    · replace hq78 := iteT hc110 hq78
                      refine W.seq ?_
                      refine W.region ?_
                      refine WL.vS hS hE (runs_plain rfl) (Gives.p hE rfl) rfl ?_; clear hE a; intro a hE
                      refine WL.nil ?_
                      refine W.ret ?_
                      subst hK89
                      rw [← Option.some.inj hq78] at hr
                      dsimp only at hr
                      refine finG (fn := Try.f16) (rs := [.tmp 2]) (vs := [_]) hE rfl ⟨rfl, trivial⟩ ?_
                      obtain rfl := Option.some.inj hr
                      replace hS := hS.tail
                      replace hS := hS.tail
                      exact ⟨rfl, hS⟩
                    · replace hq78 := iteF hc110 hq78
                      refine W.seq ?_
                      refine W.region ?_
                      refine WL.vS hS hE (runs_plain rfl) (Gives.loadBA hE 1 rfl rfl ty25) rfl ?_; clear hE a; intro a hE
                      refine WL.vS hS hE (runs_plain rfl) (Gives.loadBA hE 0 rfl rfl ty36) rfl ?_; clear hE a; intro a hE
                      obtain ⟨q111, hq112, hq78⟩ := bindS hq78
                      have hc_ := MendRoundslack_ok hS h0_0 h0_1 hq112
                      refine WL.fnq hE (hc_) (runs_plain rfl) bd55 rfl rfl rfl ?_
                      clear hE hS hc_; rintro e w ⟨rfl, hS⟩; refine ⟨_, rfl, ?_⟩; clear a; intro a hE
                      refine WL.vS hS hE (runs_plain rfl) (Gives.p hE rfl) rfl ?_; clear hE a; intro a hE
                      refine WL.vS hS hE (runs_plain rfl) (Gives.p hE rfl) rfl ?_; clear hE a; intro a hE
                      refine WL.nil ?_
                      refine W.cond hE rfl (fun hc113 => ?_) (fun hc113 => ?_)
                      · replace hq78 := iteT hc113 hq78
                        refine W.seq ?_
                        refine W.region ?_
                        refine WL.vS hS hE (runs_plain rfl) (Gives.p hE rfl) rfl ?_; clear hE a; intro a hE
                        refine WL.nil ?_
                        refine W.ret ?_
                        subst hK89
                        rw [← Option.some.inj hq78] at hr
                        dsimp only at hr
                        refine finG (fn := Try.f16) (rs := [.tmp 2]) (vs := [_]) hE rfl ⟨rfl, trivial⟩ ?_
                        obtain rfl := Option.some.inj hr
                        replace hS := hS.tail
                        replace hS := hS.tail
                        exact ⟨rfl, hS⟩
                      · replace hq78 := iteF hc113 hq78
                        refine W.skip ?_
                        refine W.region ?_
                        refine WL.vS hS hE (runs_plain rfl) (Gives.inc hE rfl (by have := h0_1.small; omega)) rfl ?_; clear hE a; intro a hE
                        refine WL.vS hS hE (runs_plain rfl) (Gives.p hE rfl) rfl ?_; clear hE a; intro a hE
                        refine WL.nil ?_
                        replace hS := hS.tail
                        subst hK89
                        exact ⟨rest82.length, Nat.lt_succ_self _, rest82, k80 + 1, rfl, hd83, hq78, hE.pick _ ⟨rfl, rfl, rfl, rfl, trivial⟩, hS⟩
          · clear hE hS a w; rintro a w ⟨rfl, hE, hS⟩
            dsimp only at hr
            refine W.seq ?_
            refine W.seq ?_
            refine W.region ?_
            refine WL.vS hS hE (runs_plain rfl) (Gives.loadBA hE 0 rfl rfl ty25) rfl ?_; clear hE a; intro a hE
            obtain ⟨q114, hq115, hr⟩ := bindS hr
            have hc_ := MendRoundring_ok hS h0_0 h0_1 hq115
            refine WL.fnq hE (hc_) (runs_plain rfl) bd56 rfl rfl rfl ?_
            clear hE hS hc_; rintro e w ⟨rfl, hS⟩; refine ⟨_, rfl, ?_⟩; clear a; intro a hE
            refine WL.nil ?_
            refine W.cond hE rfl (fun hc116 => ?_) (fun hc116 => ?_)
            · replace hr := iteT hc116 hr
              refine W.seq ?_
              refine W.region ?_
              refine WL.vS hS hE (runs_plain rfl) (Gives.p hE rfl) rfl ?_; clear hE a; intro a hE
              refine WL.nil ?_
              refine W.ret ?_
              refine finG (fn := Try.f16) (rs := [.tmp 2]) (vs := [_]) hE rfl ⟨rfl, trivial⟩ ?_
              obtain rfl := Option.some.inj hr
              replace hS := hS.tail
              exact ⟨rfl, hS⟩
            · replace hr := iteF hc116 hr
              refine W.skip ?_
              refine W.seq ?_
              refine W.region ?_
              refine WL.vS hS hE (runs_plain rfl) (Gives.p hE rfl) rfl ?_; clear hE a; intro a hE
              refine WL.nil ?_
              refine W.ret ?_
              refine finG (fn := Try.f16) (rs := [.tmp 2]) (vs := [_]) hE rfl ⟨rfl, trivial⟩ ?_
              obtain rfl := Option.some.inj hr
              replace hS := hS.tail
              exact ⟨rfl, hS⟩
set_option maxHeartbeats 8000000 in
theorem SlicesCloneLint_ok  {w : World} {s : Sg} {R : List HP} {x0 : List Int} {a0 : Option Addr} {c0 : Nat} (hS : St w s (R)) (h0 : Sl 1 (RI .i64) s a0 c0 x0) {r : (List Int)} (hr : SlicesCloneLint x0 = some r) :
    Calls Try.prog 67 [.slice a0 x0.length c0].toArray w (fun e w => ∃ (a0 : Option Addr) (c0 n0 : Nat) (cs0 : List Value), e = .returned (.slice a0 n0 c0) ∧ Ev 1 (RI .i64) s cs0 r ∧ r.length = n0 ∧ St w s (vecC 3 1 a0 c0 n0 cs0 :: R)) := by
  refine enter Try.func67 rfl rfl rfl fun a hE => ?_
  rw [SlicesCloneLint] at hr
  refine W.seq ?_
  refine W.region ?_
  refine WL.vS hS hE (runs_plain rfl) (Gives.p hE rfl) rfl ?_; clear hE a; intro a hE
  refine WL.nil ?_
  refine W.seq ?_
  refine W.seq ?_
  refine W.region ?_
  refine WL.vS hS hE (runs_plain rfl) (Gives.p hE rfl) rfl ?_; clear hE a; intro a hE
  refine WL.vS hS hE (runs_plain rfl) (Gives.isNil hE rfl rfl isl22) rfl ?_; clear hE a; intro a hE
  refine WL.nil ?_
  rcases a0 with _ | g51
  · obtain rfl := h0.none_nil
    replace hr : some [] = _ := hr
    refine W.condT hE rfl rfl ?_
    refine W.seq ?_
    refine W.region ?_
    refine WL.vS hS hE (runs_plain rfl) (Gives.p hE rfl) rfl ?_; clear hE a; intro a hE
    refine WL.nil ?_
    refine W.ret ?_
    replace hS := hS.vecNil 3 1
    refine finG (fn := Try.f67) (rs := [.tmp 2]) (vs := [_]) hE rfl ⟨rfl, trivial⟩ ?_
    obtain rfl := Option.some.inj hr
    exact ⟨none, 0, 0, [], rfl, (Ev.nil), (rfl), hS⟩
  · skip
    refine W.condF hE rfl rfl ?_
    refine W.skip ?_
    refine W.seq ?_
    refine W.region ?_
    refine WL.lit hE hS (e := 3) (es := 1) (vs := []) (cs := []) (runs_plain rfl) rfl (by kernel_rfl) rfl ?_; clear hE hS a w; intro b53 a w hE hS
    replace hS := hS.ptVec (es := 1) (m := 0) rfl (by decide)
    have h55 : Ev 1 (RI .i64) s [] [] := (Ev.nil)
    refine WL.vS hS hE (runs_plain rfl) (Gives.p hE rfl) rfl ?_; clear hE a; intro a hE
    obtain ⟨x56, hx57, hr⟩ := bindS hr
    refine WL.appS hE hS 0 (runs_plain rfl) rfl rfl (xs := x0) rfl rfl ap22 RI.one h55 (rfl) h0 hx57 rfl ?_; clear hE hS a w; intro a58 c59 cs60 a w h61 hE hS
    refine WL.vS hS hE (runs_plain rfl) (Gives.p hE rfl) rfl ?_; clear hE a; intro a hE
    refine WL.nil ?_
    refine W.ret ?_
    refine finG (fn := Try.f67) (rs := [.tmp 2]) (vs := [_]) hE rfl ⟨rfl, trivial⟩ ?_
    obtain rfl := Option.some.inj hr
    exact ⟨a58, c59, x56.length, cs60, rfl, h61, (rfl), hS⟩
set_option maxHeartbeats 8000000 in
theorem MendRoundfollow_ok {fu : Nat}  {w : World} {s : Sg} {R : List HP} {x0 : MendRound} {a0_0 : Option Addr} {c0_0 : Nat} {a0_1 : Option Addr} {c0_1 : Nat} {x1 : List Int} {a1 : Option Addr} {c1 : Nat} {x2 : List (List Int)} {a2 : Option Addr} {c2 : Nat} (hS : St w s (R)) (h0_0 : Sl 1 (RI .i64) s a0_0 c0_0 x0.Plan) (h0_1 : Sl 4 RMendLink s a0_1 c0_1 x0.Links) (h1 : Sl 1 (RI .i64) s a1 c1 x1) (h2 : Sl 1 (RL 1 (RI .i64)) s a2 c2 x2) {r : (List Int)} (hr : MendRoundfollow fu x0 x1 x2 = some r) :
    Calls Try.prog 60 [.agg [.int .i64 x0.Period, .slice a0_0 x0.Plan.length c0_0, .slice a0_1 x0.Links.length c0_1].toArray, .slice a1 x1.length c1, .slice a2 x2.length c2].toArray w (fun e w => ∃ (a0 : Option Addr) (c0 n0 : Nat) (cs0 : List Value), e = .returned (.slice a0 n0 c0) ∧ Ev 1 (RI .i64) s cs0 r ∧ r.length = n0 ∧ St w s (vecC 3 1 a0 c0 n0 cs0 :: R)) := by
  refine enter Try.func60 rfl rfl rfl fun a hE => ?_
  rw [MendRoundfollow] at hr
  refine W.seq ?_
  refine W.region ?_
  refine WL.box hE hS (runs_plain rfl) rfl rfl rfl ?_; clear hE hS a w; intro b51 a w hE hS
  refine WL.vS hS hE (runs_plain rfl) (Gives.p hE rfl) rfl ?_; clear hE a; intro a hE
  refine WL.nil ?_
  refine W.seq ?_
  refine W.region ?_
  refine WL.vS hS hE (runs_plain rfl) (Gives.p hE rfl) rfl ?_; clear hE a; intro a hE
  obtain ⟨q52, hq53, hr⟩ := bindS hr
  have hc_ := SlicesCloneLint_ok hS h1 hq53
  refine WL.fnq hE (hc_) (runs_plain rfl) bd67 rfl rfl rfl ?_
  clear hE hS hc_; rintro e w ⟨a54, c55, n56, cs57, rfl, h58, rfl, hS⟩; refine ⟨_, rfl, ?_⟩; clear a; intro a hE
  refine WL.vS hS hE (runs_plain rfl) (Gives.p hE rfl) rfl ?_; clear hE a; intro a hE
  refine WL.nil ?_
  refine W.seq ?_
  refine W.seq ?_
  refine W.region ?_
  refine WL.vS hS hE (runs_plain rfl) (Gives.p hE rfl) rfl ?_; clear hE a; intro a hE
  refine WL.nil ?_
  obtain ⟨q61, hq60, hr⟩ := bindS hr
  refine W.cut (fun a w => ∃ (q66 : Bool), ∃ (q67 : List Int), ∃ (cs71 : List Value), (q66, q67) = q61 ∧ Ev 1 (RI .i64) s cs71 q67 ∧ q67.length = q52.length ∧ Rep a 60 [(1, .slice a54 q52.length c55)] ∧ St w s (vecC 3 1 a54 c55 q52.length cs71 :: pt b51 (.cells #[.int .i64 x0.Period, .slice a0_0 x0.Plan.length c0_0, .slice a0_1 x0.Links.length c0_1] 25 (0, 0)) :: R)) ?_ ?_
  · refine W.block ?_
    refine W.loop (fun m a w => ∃ (n62 : Nat), ∃ (q66 : Bool), ∃ (q67 : List Int), ∃ (cs71 : List Value), n62 = m ∧ MendRoundfollow.loop1 x0 x2 n62 q66 q67 = some q61 ∧ Ev 1 (RI .i64) s cs71 q67 ∧ q67.length = q52.length ∧ Rep a 60 [(1, .slice a54 q52.length c55), (2, .slice a2 x2.length c2), (3, .pointer (some ⟨b51, 0, none⟩)), (7, .bool q66)] ∧ St w s (vecC 3 1 a54 c55 q52.length cs71 :: pt b51 (.cells #[.int .i64 x0.Period, .slice a0_0 x0.Plan.length c0_0, .slice a0_1 x0.Links.length c0_1] 25 (0, 0)) :: R)) (m := fu) ⟨fu, true, q52, cs57, rfl, hq60, h58, rfl, hE.pick _ ⟨rfl, rfl, rfl, rfl, trivial⟩, hS⟩ ?_
    clear hE hS a w hq60; rintro m63 a w ⟨n62, q66, q67, cs71, rfl, hq60, h70, hn72, hE, hS⟩
    refine W.gen fun K73 hK73 => ?_
    rcases n62 with _ | n62
    · rw [MendRoundfollow.loop1] at hq60; exact absurd hq60 (by simp)
    rw [MendRoundfollow.loop1] at hq60
    refine W.seq ?_
    refine W.seq ?_
    refine W.region ?_
    refine WL.vS hS hE (runs_plain rfl) (Gives.p hE rfl) rfl ?_; clear hE a; intro a hE
    refine WL.nil ?_
    refine W.cond hE rfl (fun hc74 => ?_) (fun hc74 => ?_)
    · replace hq60 := iteT hc74 hq60
      refine W.skip ?_
      refine W.block ?_
      refine W.seq ?_
      refine W.region ?_
      refine WL.vS hS hE (runs_plain rfl) (Gives.p hE rfl) rfl ?_; clear hE a; intro a hE
      refine WL.nil ?_
      refine W.seq ?_
      refine W.region ?_
      refine WL.vS hS hE (runs_plain rfl) (Gives.fld hE rfl fl25_2) rfl ?_; clear hE a; intro a hE
      refine WL.vS hS hE (runs_plain rfl) (Gives.loadB hE 1 rfl rfl rfl ty23) rfl ?_; clear hE a; intro a hE
      refine WL.vS hS hE (runs_plain rfl) (Gives.len hE rfl sl23) rfl ?_; clear hE a; intro a hE
      refine WL.vS hS hE (runs_plain rfl) (Gives.p hE rfl) rfl ?_; clear hE a; intro a hE
      refine WL.nil ?_
      obtain ⟨q76, hq75, hq60⟩ := bindS hq60
      refine W.cut (fun a w => ∃ (q86 : Bool), ∃ (q87 : List Int), ∃ (cs91 : List Value), (q86, q87) = q76 ∧ Ev 1 (RI .i64) s cs91 q87 ∧ q87.length = q52.length ∧ Rep a 60 [(1, .slice a54 q52.length c55), (2, .slice a2 x2.length c2), (3, .pointer (some ⟨b51, 0, none⟩)), (7, .bool q86)] ∧ St w s (vecC 3 1 a54 c55 q52.length cs91 :: pt b51 (.cells #[.int .i64 x0.Period, .slice a0_0 x0.Plan.length c0_0, .slice a0_1 x0.Links.length c0_1] 25 (0, 0)) :: R)) ?_ ?_
      · refine W.block ?_
        refine W.loop (fun m a w => ∃ (rest79 : List MendLink) (k77 : Nat), ∃ (q86 : Bool), ∃ (q87 : List Int), ∃ (cs91 : List Value), rest79.length = m ∧ x0.Links.drop k77 = rest79 ∧ MendRoundfollow.loop2 x0 x2 rest79 q86 q87 = some q76 ∧ Ev 1 (RI .i64) s cs91 q87 ∧ q87.length = q52.length ∧ Rep a 60 [(1, .slice a54 q52.length c55), (2, .slice a2 x2.length c2), (3, .pointer (some ⟨b51, 0, none⟩)), (7, .bool q86), (16, .slice a0_1 x0.Links.length c0_1), (17, .int .i64 ((x0.Links).length : Int)), (18, .int .i64 ((k77 : Nat) : Int))] ∧ St w s (vecC 3 1 a54 c55 q52.length cs91 :: pt b51 (.cells #[.int .i64 x0.Period, .slice a0_0 x0.Plan.length c0_0, .slice a0_1 x0.Links.length c0_1] 25 (0, 0)) :: R)) (m := x0.Links.length) ⟨x0.Links, 0, false, q67, cs71, rfl, rfl, hq75, h70, hn72, hE.pick _ ⟨rfl, rfl, rfl, rfl, rfl, rfl, rfl, trivial⟩, hS⟩ ?_
        clear hE hS a w hq75; rintro m83 a w ⟨rest79, k77, q86, q87, cs91, rfl, hd80, hq75, h90, hn92, hE, hS⟩
        refine W.gen fun K93 hK93 => ?_
        rcases rest79 with _ | ⟨x78, rest79⟩
        · have hlt81 := drop_nil hd80
          refine W.seq ?_
          refine W.region ?_
          refine WL.vS hS hE (runs_plain rfl) (Gives.p hE rfl) rfl ?_; clear hE a; intro a hE
          refine WL.nil ?_
          refine W.seq ?_
          refine W.condF hE rfl (decide_eq_false (by omega)) ?_
          subst hK93
          refine W.exit rfl ?_
          exact ⟨q86, q87, cs91, Option.some.inj hq75, h90, hn92, hE.pick _ ⟨rfl, rfl, rfl, rfl, trivial⟩, hS⟩
        · obtain ⟨hlt81, hx82, hd80⟩ := drop_cons hd80
          rw [MendRoundfollow.loop2] at hq75
          refine W.seq ?_
          refine W.region ?_
          refine WL.vS hS hE (runs_plain rfl) (Gives.p hE rfl) rfl ?_; clear hE a; intro a hE
          refine WL.nil ?_
          refine W.seq ?_
          refine W.condT hE rfl (decide_eq_true (by omega)) ?_
          refine W.skip ?_
          refine W.seq ?_
          refine W.block ?_
          refine W.seq ?_
          refine W.region ?_
          obtain ⟨cs94, hl95, hR96, hat97⟩ := h0_1.at hx82
          subst hR96
          refine WL.vS hS hE (runs_plain rfl) (Gives.idx hE k77 rfl rfl sl23 rfl hlt81 (h0_1.aok hlt81)) rfl ?_; clear hE a; intro a hE
          refine WL.vS hS hE (runs_plain rfl) (Gives.loadA hE rfl (fun w h => hat97 w _ h) ty36) rfl ?_; clear hE a; intro a hE
          refine WL.alloc hE hS (runs_plain rfl) zr36 rfl ?_; clear hE hS a w; intro b98 a w hE hS
          refine WL.storeI hE hS 0 rfl (MendLink.cells x78) (runs_plain rfl) rfl rfl rfl ty36 rfl rfl rfl rfl ?_; clear hE hS a w; intro a w hE hS
          refine WL.nil ?_
          refine W.seq ?_
          refine W.region ?_
          refine WL.vS hS hE (runs_plain rfl) (Gives.p hE rfl) rfl ?_; clear hE a; intro a hE
          refine WL.vS hS hE (runs_plain rfl) (Gives.p hE rfl) rfl ?_; clear hE a; intro a hE
          refine WL.nil ?_
          refine W.seq ?_
          refine W.seq ?_
          refine W.region ?_
          refine WL.vS hS hE (runs_plain rfl) (Gives.fld hE rfl fl36_3) rfl ?_; clear hE a; intro a hE
          refine WL.vS hS hE (runs_plain rfl) (Gives.loadB hE 0 rfl rfl rfl ty3) rfl ?_; clear hE a; intro a hE
          refine WL.vS hS hE (runs_plain rfl) (Gives.p hE rfl) rfl ?_; clear hE a; intro a hE
          refine WL.nil ?_
          refine W.cond hE rfl (fun hc99 => ?_) (fun hc99 => ?_)
          · replace hq75 := iteT hc99 hq75
            refine W.seq ?_
            refine W.seq ?_
            refine W.region ?_
            refine WL.vS hS hE (runs_plain rfl) (Gives.fld hE rfl fl36_3) rfl ?_; clear hE a; intro a hE
            refine WL.vS hS hE (runs_plain rfl) (Gives.loadB hE 0 rfl rfl rfl ty3) rfl ?_; clear hE a; intro a hE
            refine WL.vS hS hE (runs_plain rfl) (Gives.p hE rfl) rfl ?_; clear hE a; intro a hE
            refine WL.vS hS hE (runs_plain rfl) (Gives.len hE rfl sl40) rfl ?_; clear hE a; intro a hE
            refine WL.vS hS hE (runs_plain rfl) (Gives.p hE rfl) rfl ?_; clear hE a; intro a hE
            refine WL.nil ?_
            refine W.cond hE rfl (fun hc100 => ?_) (fun hc100 => ?_)
            · replace hq75 := iteT hc100 hq75
              refine W.exit rfl ?_
              refine W.region ?_
              refine WL.vS hS hE (runs_plain rfl) (Gives.inc hE rfl (by have := h0_1.small; omega)) rfl ?_; clear hE a; intro a hE
              refine WL.vS hS hE (runs_plain rfl) (Gives.p hE rfl) rfl ?_; clear hE a; intro a hE
              refine WL.nil ?_
              replace hS := hS.tail
              subst hK93
              exact ⟨rest79.length, Nat.lt_succ_self _, rest79, k77 + 1, q86, q87, cs91, rfl, hd80, hq75, h90, hn92, hE.pick _ ⟨rfl, rfl, rfl, rfl, rfl, rfl, rfl, trivial⟩, hS⟩
            · replace hq75 := iteF hc100 hq75
              refine W.skip ?_
              refine W.region ?_
              refine WL.vS hS hE (runs_plain rfl) (Gives.p hE rfl) rfl ?_; clear hE a; intro a hE
              refine WL.vS hS hE (runs_plain rfl) (Gives.fld hE rfl fl36_3) rfl ?_; clear hE a; intro a hE
              refine WL.vS hS hE (runs_plain rfl) (Gives.loadB hE 0 rfl rfl rfl ty3) rfl ?_; clear hE a; intro a hE
              refine WL.vS hS hE (runs_plain rfl) (Gives.p hE rfl) rfl ?_; clear hE a; intro a hE
              obtain ⟨x101, hx102, hq75⟩ := bindS hq75
              obtain ⟨hi103, hlt104, hy105⟩ := gx_some hx102
              obtain ⟨cs106, hl107, hR108, hat109⟩ := h2.at hy105
              obtain ⟨a110, c111, rfl, h112⟩ := hR108
              refine WL.vS hS hE (runs_plain rfl) (Gives.idx hE (w64 (x78.Back - 1)).toNat rfl rfl sl40 hi103 hlt104 (h2.aok hlt104)) rfl ?_; clear hE a; intro a hE
              refine WL.vS hS hE (runs_plain rfl) (Gives.load1 hE rfl (fun w h => hat109 w _ h) ty22) rfl ?_; clear hE a; intro a hE
              refine WL.vS hS hE (runs_plain rfl) (Gives.p hE rfl) rfl ?_; clear hE a; intro a hE
              refine WL.nil ?_
              refine W.seq ?_
              refine W.regionQ (C := fun w => St w s (pt b98 (.cells (MendLink.cells x78).toArray 36 (0, 0)) :: vecC 3 1 a54 c55 q52.length cs91 :: pt b51 (.cells #[.int .i64 x0.Period, .slice a0_0 x0.Plan.length c0_0, .slice a0_1 x0.Links.length c0_1] 25 (0, 0)) :: R)) mixed (by kernel_rfl) hS.drew ?_
              refine QL.v hE (runs_plain rfl) (Gives.p hE rfl) rfl ?_; clear hE a; intro a hE
              refine QL.v hE (runs_plain rfl) (Gives.fld hE rfl fl36_0) rfl ?_; clear hE a; intro a hE
              refine QL.v hE (runs_plain rfl) (Gives.loadB hE 0 rfl rfl rfl ty3) rfl ?_; clear hE a; intro a hE
              obtain ⟨x113, hx114, hq75⟩ := bindS hq75
              obtain ⟨hi115, hlt116, hy117⟩ := gx_some hx114
              obtain ⟨cs118, hl119, hR120, hat121⟩ := h112.at hy117
              subst hR120
              refine QL.v hE (runs_plain rfl) (Gives.idx hE (x78.From).toNat rfl rfl sl22 hi115 hlt116 (h112.aok hlt116)) rfl ?_; clear hE a; intro a hE
              refine QL.v hE (runs_plain rfl) (Gives.load1 hE rfl (fun w h => hat121 w _ h) ty3) rfl ?_; clear hE a; intro a hE
              refine QL.v hE (runs_plain rfl) (Gives.loadBA hE 2 rfl rfl ty25) rfl ?_; clear hE a; intro a hE
              refine QL.v hE (runs_plain rfl) (Gives.loadBA hE 0 rfl rfl ty36) rfl ?_; clear hE a; intro a hE
              obtain ⟨q122, hq123, hq75⟩ := bindS hq75
              refine QL.fnq hE (fun w hS => MendRoundslack_ok hS h0_0 h0_1 hq123) (runs_plain rfl) bd55 rfl rfl rfl ?_; clear hE a; intro a hE
              refine QL.v hE (runs_plain rfl) (Gives.p hE rfl) rfl ?_; clear hE a; intro a hE
              refine QL.v hE (runs_plain rfl) (Gives.p hE rfl) rfl ?_; clear hE a; intro a hE
              refine QL.nil ?_; clear hS w; intro w hS
              refine W.seq ?_
              refine W.region ?_
              refine WL.vS hS hE (runs_plain rfl) (Gives.p hE rfl) rfl ?_; clear hE a; intro a hE
              refine WL.vS hS hE (runs_plain rfl) (Gives.p hE rfl) rfl ?_; clear hE a; intro a hE
              refine WL.vS hS hE (runs_plain rfl) (Gives.fld hE rfl fl36_1) rfl ?_; clear hE a; intro a hE
              refine WL.vS hS hE (runs_plain rfl) (Gives.loadB hE 0 rfl rfl rfl ty3) rfl ?_; clear hE a; intro a hE
              obtain ⟨x124, hx125, hq75⟩ := bindS hq75
              obtain ⟨hi126, hlt127, hy128⟩ := gx_some hx125
              obtain ⟨vs129, hl130, hR131, hd132, hget133⟩ := h90.at hy128
              subst hR131
              refine WL.vS hS hE (runs_plain rfl) (Gives.idx hE ((x78.To).toNat) rfl rfl sl22 hi126 (by have := hn92; omega) (hS.vecAok 1 rfl (by have := hn92; omega : (x78.To).toNat < q52.length))) rfl ?_; clear hE a; intro a hE
              refine WL.vS hS hE (runs_plain rfl) (Gives.load1 hE rfl (fun w h => St.vecSees h 1 rfl ((x78.To).toNat * 1) _ hget133) ty3) rfl ?_; clear hE a; intro a hE
              refine WL.vS hS hE (runs_plain rfl) (Gives.p hE rfl) rfl ?_; clear hE a; intro a hE
              refine WL.nil ?_
              obtain ⟨q135, hq134, hq75⟩ := bindS hq75
              refine W.cut (fun a w => ∃ (q138 : Bool), ∃ (q139 : List Int), ∃ (cs143 : List Value), (q138, q139) = q135 ∧ Ev 1 (RI .i64) s cs143 q139 ∧ q139.length = q52.length ∧ Rep a 60 [(1, .slice a54 q52.length c55), (2, .slice a2 x2.length c2), (3, .pointer (some ⟨b51, 0, none⟩)), (7, .bool q138), (16, .slice a0_1 x0.Links.length c0_1), (17, .int .i64 ((x0.Links).length : Int)), (18, .int .i64 ((k77 : Nat) : Int))] ∧ St w s (pt b98 (.cells (MendLink.cells x78).toArray 36 (0, 0)) :: vecC 3 1 a54 c55 q52.length cs143 :: pt b51 (.cells #[.int .i64 x0.Period, .slice a0_0 x0.Plan.length c0_0, .slice a0_1 x0.Links.length c0_1] 25 (0, 0)) :: R)) ?_ ?_
              · refine W.gen fun K145 hK145 => ?_
                refine W.cond hE rfl (fun hc146 => ?_) (fun hc146 => ?_)
                · replace hq134 := iteT hc146 hq134
                  refine W.region ?_
                  refine WL.vS hS hE (runs_plain rfl) (Gives.p hE rfl) rfl ?_; clear hE a; intro a hE
                  refine WL.vS hS hE (runs_plain rfl) (Gives.fld hE rfl fl36_1) rfl ?_; clear hE a; intro a hE
                  refine WL.vS hS hE (runs_plain rfl) (Gives.loadB hE 0 rfl rfl rfl ty3) rfl ?_; clear hE a; intro a hE
                  refine WL.vS hS hE (runs_plain rfl) (Gives.p hE rfl) rfl ?_; clear hE a; intro a hE
                  obtain ⟨_, hx148, hq134⟩ := bindS hq134
                  obtain ⟨h149, h150⟩ := ix_some hx148
                  refine WL.vS hS hE (runs_plain rfl) (Gives.idx hE ((x78.To).toNat) rfl rfl sl22 h149 (by have := hn92; omega) (hS.vecAok 1 rfl (by have := hn92; omega : (x78.To).toNat < q52.length))) rfl ?_; clear hE a; intro a hE
                  obtain ⟨x152, hx153, hq134⟩ := bindS hq134
                  refine WL.setD hE hS 1 rfl (runs_plain rfl) rfl rfl (vs := [.int .i64 (w64 (x113 - q122))]) rfl ty3 rfl rfl rfl h90 hn92 (sx_some hx153).1 hx153 rfl rfl ?_; clear hE hS a w; intro cs154 a w h155 hn156 hE hS
                  refine WL.vS hS hE (runs_plain rfl) (Gives.p hE rfl) rfl ?_; clear hE a; intro a hE
                  refine WL.nil ?_
                  subst hK145
                  exact ⟨true, x152, cs154, Option.some.inj hq134, h155, hn156, hE.pick _ ⟨rfl, rfl, rfl, rfl, rfl, rfl, rfl, trivial⟩, hS⟩
                · replace hq134 := iteF hc146 hq134
                  refine W.skip ?_
                  subst hK145
                  exact ⟨q86, q87, cs91, Option.some.inj hq134, h90, hn92, hE.pick _ ⟨rfl, rfl, rfl, rfl, rfl, rfl, rfl, trivial⟩, hS⟩
              · clear hE hS a w; rintro a w ⟨q138, q139, cs143, rfl, h142, hn144, hE, hS⟩
                dsimp only at hq75
                refine W.region ?_
                refine WL.vS hS hE (runs_plain rfl) (Gives.inc hE rfl (by have := h0_1.small; omega)) rfl ?_; clear hE a; intro a hE
                refine WL.vS hS hE (runs_plain rfl) (Gives.p hE rfl) rfl ?_; clear hE a; intro a hE
                refine WL.nil ?_
                replace hS := hS.tail
                subst hK93
                exact ⟨rest79.length, Nat.lt_succ_self _, rest79, k77 + 1, q138, q139, cs143, rfl, hd80, hq75, h142, hn144, hE.pick _ ⟨rfl, rfl, rfl, rfl, rfl, rfl, rfl, trivial⟩, hS⟩
          · replace hq75 := iteF hc99 hq75
            refine W.skip ?_
            refine W.seq ?_
            refine W.regionQ (C := fun w => St w s (pt b98 (.cells (MendLink.cells x78).toArray 36 (0, 0)) :: vecC 3 1 a54 c55 q52.length cs91 :: pt b51 (.cells #[.int .i64 x0.Period, .slice a0_0 x0.Plan.length c0_0, .slice a0_1 x0.Links.length c0_1] 25 (0, 0)) :: R)) mixed (by kernel_rfl) hS.drew ?_
            refine QL.v hE (runs_plain rfl) (Gives.p hE rfl) rfl ?_; clear hE a; intro a hE
            refine QL.v hE (runs_plain rfl) (Gives.fld hE rfl fl36_0) rfl ?_; clear hE a; intro a hE
            refine QL.v hE (runs_plain rfl) (Gives.loadB hE 0 rfl rfl rfl ty3) rfl ?_; clear hE a; intro a hE
            obtain ⟨x157, hx158, hq75⟩ := bindS hq75
            obtain ⟨hi159, hlt160, hy161⟩ := gx_some hx158
            obtain ⟨vs162, hl163, hR164, hd165, hget166⟩ := h90.at hy161
            subst hR164
            refine QL.v hE (runs_plain rfl) (Gives.idx hE ((x78.From).toNat) rfl rfl sl22 hi159 (by have := hn92; omega) (hS.vecAok 1 rfl (by have := hn92; omega : (x78.From).toNat < q52.length))) rfl ?_; clear hE a; intro a hE
            refine QL.v hE (runs_plain rfl) (Gives.load1 hE rfl (fun w h => St.vecSees h 1 rfl ((x78.From).toNat * 1) _ hget166) ty3) rfl ?_; clear hE a; intro a hE
            refine QL.v hE (runs_plain rfl) (Gives.loadBA hE 2 rfl rfl ty25) rfl ?_; clear hE a; intro a hE
            refine QL.v hE (runs_plain rfl) (Gives.loadBA hE 0 rfl rfl ty36) rfl ?_; clear hE a; intro a hE
            obtain ⟨q167, hq168, hq75⟩ := bindS hq75
            refine QL.fnq hE (fun w hS => MendRoundslack_ok hS h0_0 h0_1 hq168) (runs_plain rfl) bd55 rfl rfl rfl ?_; clear hE a; intro a hE
            refine QL.v hE (runs_plain rfl) (Gives.p hE rfl) rfl ?_; clear hE a; intro a hE
            refine QL.v hE (runs_plain rfl) (Gives.p hE rfl) rfl ?_; clear hE a; intro a hE
            refine QL.nil ?_; clear hS w; intro w hS
            refine W.seq ?_
            refine W.region ?_
            refine WL.vS hS hE (runs_plain rfl) (Gives.p hE rfl) rfl ?_; clear hE a; intro a hE
            refine WL.vS hS hE (runs_plain rfl) (Gives.p hE rfl) rfl ?_; clear hE a; intro a hE
            refine WL.vS hS hE (runs_plain rfl) (Gives.fld hE rfl fl36_1) rfl ?_; clear hE a; intro a hE
            refine WL.vS hS hE (runs_plain rfl) (Gives.loadB hE 0 rfl rfl rfl ty3) rfl ?_; clear hE a; intro a hE
            obtain ⟨x169, hx170, hq75⟩ := bindS hq75
            obtain ⟨hi171, hlt172, hy173⟩ := gx_some hx170
            obtain ⟨vs174, hl175, hR176, hd177, hget178⟩ := h90.at hy173
            subst hR176
            refine WL.vS hS hE (runs_plain rfl) (Gives.idx hE ((x78.To).toNat) rfl rfl sl22 hi171 (by have := hn92; omega) (hS.vecAok 1 rfl (by have := hn92; omega : (x78.To).toNat < q52.length))) rfl ?_; clear hE a; intro a hE
            refine WL.vS hS hE (runs_plain rfl) (Gives.load1 hE rfl (fun w h => St.vecSees h 1 rfl ((x78.To).toNat * 1) _ hget178) ty3) rfl ?_; clear hE a; intro a hE
            refine WL.vS hS hE (runs_plain rfl) (Gives.p hE rfl) rfl ?_; clear hE a; intro a hE
            refine WL.nil ?_
            obtain ⟨q180, hq179, hq75⟩ := bindS hq75
            refine W.cut (fun a w => ∃ (q183 : Bool), ∃ (q184 : List Int), ∃ (cs188 : List Value), (q183, q184) = q180 ∧ Ev 1 (RI .i64) s cs188 q184 ∧ q184.length = q52.length ∧ Rep a 60 [(1, .slice a54 q52.length c55), (2, .slice a2 x2.length c2), (3, .pointer (some ⟨b51, 0, none⟩)), (7, .bool q183), (16, .slice a0_1 x0.Links.length c0_1), (17, .int .i64 ((x0.Links).length : Int)), (18, .int .i64 ((k77 : Nat) : Int))] ∧ St w s (pt b98 (.cells (MendLink.cells x78).toArray 36 (0, 0)) :: vecC 3 1 a54 c55 q52.length cs188 :: pt b51 (.cells #[.int .i64 x0.Period, .slice a0_0 x0.Plan.length c0_0, .slice a0_1 x0.Links.length c0_1] 25 (0, 0)) :: R)) ?_ ?_
            · refine W.gen fun K190 hK190 => ?_
              refine W.cond hE rfl (fun hc191 => ?_) (fun hc191 => ?_)
              · replace hq179 := iteT hc191 hq179
                refine W.region ?_
                refine WL.vS hS hE (runs_plain rfl) (Gives.p hE rfl) rfl ?_; clear hE a; intro a hE
                refine WL.vS hS hE (runs_plain rfl) (Gives.fld hE rfl fl36_1) rfl ?_; clear hE a; intro a hE
                refine WL.vS hS hE (runs_plain rfl) (Gives.loadB hE 0 rfl rfl rfl ty3) rfl ?_; clear hE a; intro a hE
                refine WL.vS hS hE (runs_plain rfl) (Gives.p hE rfl) rfl ?_; clear hE a; intro a hE
                obtain ⟨_, hx193, hq179⟩ := bindS hq179
                obtain ⟨h194, h195⟩ := ix_some hx193
                refine WL.vS hS hE (runs_plain rfl) (Gives.idx hE ((x78.To).toNat) rfl rfl sl22 h194 (by have := hn92; omega) (hS.vecAok 1 rfl (by have := hn92; omega : (x78.To).toNat < q52.length))) rfl ?_; clear hE a; intro a hE
                obtain ⟨x197, hx198, hq179⟩ := bindS hq179
                refine WL.setD hE hS 1 rfl (runs_plain rfl) rfl rfl (vs := [.int .i64 (w64 (x157 - q167))]) rfl ty3 rfl rfl rfl h90 hn92 (sx_some hx198).1 hx198 rfl rfl ?_; clear hE hS a w; intro cs199 a w h200 hn201 hE hS
                refine WL.vS hS hE (runs_plain rfl) (Gives.p hE rfl) rfl ?_; clear hE a; intro a hE
                refine WL.nil ?_
                subst hK190
                exact ⟨true, x197, cs199, Option.some.inj hq179, h200, hn201, hE.pick _ ⟨rfl, rfl, rfl, rfl, rfl, rfl, rfl, trivial⟩, hS⟩
              · replace hq179 := iteF hc191 hq179
                refine W.skip ?_
                subst hK190
                exact ⟨q86, q87, cs91, Option.some.inj hq179, h90, hn92, hE.pick _ ⟨rfl, rfl, rfl, rfl, rfl, rfl, rfl, trivial⟩, hS⟩
            · clear hE hS a w; rintro a w ⟨q183, q184, cs188, rfl, h187, hn189, hE, hS⟩
              dsimp only at hq75
              refine W.region ?_
              refine WL.vS hS hE (runs_plain rfl) (Gives.inc hE rfl (by have := h0_1.small; omega)) rfl ?_; clear hE a; intro a hE
              refine WL.vS hS hE (runs_plain rfl) (Gives.p hE rfl) rfl ?_; clear hE a; intro a hE
              refine WL.nil ?_
              replace hS := hS.tail
              subst hK93
              exact ⟨rest79.length, Nat.lt_succ_self _, rest79, k77 + 1, q183, q184, cs188, rfl, hd80, hq75, h187, hn189, hE.pick _ ⟨rfl, rfl, rfl, rfl, rfl, rfl, rfl, trivial⟩, hS⟩
      · clear hE hS a w; rintro a w ⟨q86, q87, cs91, rfl, h90, hn92, hE, hS⟩
        dsimp only at hq60
        subst hK73
        exact ⟨n62, Nat.lt_succ_self _, n62, q86, q87, cs91, rfl, hq60, h90, hn92, hE.pick _ ⟨rfl, rfl, rfl, rfl, trivial⟩, hS⟩
    · replace hq60 := iteF hc74 hq60
      subst hK73
      refine W.exit rfl ?_
      exact ⟨q66, q67, cs71, Option.some.inj hq60, h70, hn72, hE.pick _ ⟨rfl, trivial⟩, hS⟩
  · clear hE hS a w; rintro a w ⟨q66, q67, cs71, rfl, h70, hn72, hE, hS⟩
    dsimp only at hr
    refine W.seq ?_
    refine W.region ?_
    refine WL.vS hS hE (runs_plain rfl) (Gives.p hE rfl) rfl ?_; clear hE a; intro a hE
    refine WL.vS hS hE (runs_plain rfl) (Gives.p hE rfl) rfl ?_; clear hE a; intro a hE
    refine WL.nil ?_
    refine W.ret ?_
    refine finG (fn := Try.f60) (rs := [.tmp 6]) (vs := [_]) hE rfl ⟨rfl, trivial⟩ ?_
    obtain rfl := Option.some.inj hr
    replace hS := hS.dropAt 1
    exact ⟨a54, c55, q52.length, cs71, rfl, h70, hn72, hS⟩
set_option maxHeartbeats 8000000 in
theorem MendSpread_ok {fu : Nat}  {w : World} {s : Sg} {R : List HP} {x0 : MendRound} {a0_0 : Option Addr} {c0_0 : Nat} {a0_1 : Option Addr} {c0_1 : Nat} {x1 : List MendFirst} {a1 : Option Addr} {c1 : Nat} {x2 : Int} (hS : St w s (R)) (h0_0 : Sl 1 (RI .i64) s a0_0 c0_0 x0.Plan) (h0_1 : Sl 4 RMendLink s a0_1 c0_1 x0.Links) (h1 : Sl 3 RMendFirst s a1 c1 x1) {r : (List (List Int)) × Int} (hr : MendSpread fu x0 x1 x2 = some r) :
    Calls Try.prog 19 [.agg [.int .i64 x0.Period, .slice a0_0 x0.Plan.length c0_0, .slice a0_1 x0.Links.length c0_1].toArray, .slice a1 x1.length c1, .int .i64 x2].toArray w (fun e w => ∃ (a0 : Option Addr) (c0 n0 : Nat) (cs0 : List Value) (t : Sg), e = .returned (.tuple #[.slice a0 n0 c0, .int .i64 r.2]) ∧ s.Le t ∧ Ev 1 (RL 1 (RI .i64)) t cs0 r.1 ∧ r.1.length = n0 ∧ St w t (vecC 22 1 a0 c0 n0 cs0 :: R)) := by
  refine enter Try.func19 rfl rfl rfl fun a hE => ?_
  rw [MendSpread] at hr
  refine W.seq ?_
  refine W.region ?_
  refine WL.box hE hS (runs_plain rfl) rfl rfl rfl ?_; clear hE hS a w; intro b51 a w hE hS
  refine WL.vS hS hE (runs_plain rfl) (Gives.p hE rfl) rfl ?_; clear hE a; intro a hE
  refine WL.vS hS hE (runs_plain rfl) (Gives.p hE rfl) rfl ?_; clear hE a; intro a hE
  refine WL.nil ?_
  refine W.seq ?_
  refine W.seq ?_
  refine W.region ?_
  refine WL.vS hS hE (runs_plain rfl) (Gives.loadBA hE 0 rfl rfl ty25) rfl ?_; clear hE a; intro a hE
  obtain ⟨q52, hq53, hr⟩ := bindS hr
  have hc_ := MendCheckRound_ok hS h0_0 h0_1 hq53
  refine WL.fnq hE (hc_) (runs_plain rfl) bd16 rfl rfl rfl ?_
  clear hE hS hc_; rintro e w ⟨rfl, hS⟩; refine ⟨_, rfl, ?_⟩; clear a; intro a hE
  refine WL.vS hS hE (runs_plain rfl) (Gives.p hE rfl) rfl ?_; clear hE a; intro a hE
  refine WL.nil ?_
  refine W.seq ?_
  refine W.region ?_
  refine WL.vS hS hE (runs_plain rfl) (Gives.p hE rfl) rfl ?_; clear hE a; intro a hE
  refine WL.vS hS hE (runs_plain rfl) (Gives.p hE rfl) rfl ?_; clear hE a; intro a hE
  refine WL.nil ?_
  refine W.cond hE rfl (fun hc54 => ?_) (fun hc54 => ?_)
  · replace hr := iteT hc54 hr
    refine W.seq ?_
    refine W.region ?_
    refine WL.vS hS hE (runs_plain rfl) (Gives.p hE rfl) rfl ?_; clear hE a; intro a hE
    refine WL.vS hS hE (runs_plain rfl) (Gives.p hE rfl) rfl ?_; clear hE a; intro a hE
    refine WL.vS hS hE (runs_plain rfl) (Gives.p hE rfl) rfl ?_; clear hE a; intro a hE
    refine WL.nil ?_
    refine W.ret ?_
    replace hS := hS.vecNil 22 1
    refine finG (fn := Try.f19) (rs := [.tmp 6, .tmp 7]) (vs := [_, _]) hE rfl ⟨rfl, rfl, trivial⟩ ?_
    obtain rfl := Option.some.inj hr
    replace hS := hS.dropAt 1
    exact ⟨none, 0, 0, [], s, rfl, (Sg.Le.refl _), (Ev.nil), (rfl), hS⟩
  · replace hr := iteF hc54 hr
    refine W.skip ?_
    refine W.seq ?_
    refine W.block ?_
    refine W.seq ?_
    refine W.region ?_
    refine WL.vS hS hE (runs_plain rfl) (Gives.p hE rfl) rfl ?_; clear hE a; intro a hE
    refine WL.fnq hE (Mendwithin_ok hS  rfl (r := Mendwithin x2 0 60)) (runs_plain rfl) bd54 rfl rfl rfl ?_
    clear hE hS; rintro e w ⟨rfl, hS⟩; refine ⟨_, rfl, ?_⟩; clear a; intro a hE
    refine WL.vS hS hE (runs_plain rfl) (Gives.p hE rfl) rfl ?_; clear hE a; intro a hE
    refine WL.vS hS hE (runs_plain rfl) (Gives.p hE rfl) rfl ?_; clear hE a; intro a hE
    refine WL.nil ?_
    refine W.cond hE rfl (fun hc56 => ?_) (fun hc56 => ?_)
    · replace hr := iteT hc56 hr
      refine W.seq ?_
      refine W.region ?_
      refine WL.vS hS hE (runs_plain rfl) (Gives.p hE rfl) rfl ?_; clear hE a; intro a hE
      refine WL.vS hS hE (runs_plain rfl) (Gives.p hE rfl) rfl ?_; clear hE a; intro a hE
      refine WL.nil ?_
      refine W.ret ?_
      replace hS := hS.vecNil 22 1
      refine finG (fn := Try.f19) (rs := [.tmp 6, .tmp 7]) (vs := [_, _]) hE rfl ⟨rfl, rfl, trivial⟩ ?_
      obtain rfl := Option.some.inj hr
      replace hS := hS.dropAt 1
      exact ⟨none, 0, 0, [], s, rfl, (Sg.Le.refl _), (Ev.nil), (rfl), hS⟩
    · replace hr := iteF hc56 hr
      refine W.seq ?_
      refine W.region ?_
      refine WL.vS hS hE (runs_plain rfl) (Gives.p hE rfl) rfl ?_; clear hE a; intro a hE
      refine WL.vS hS hE (runs_plain rfl) (Gives.len hE rfl sl39) rfl ?_; clear hE a; intro a hE
      refine WL.vS hS hE (runs_plain rfl) (Gives.p hE rfl) rfl ?_; clear hE a; intro a hE
      refine WL.vS hS hE (runs_plain rfl) (Gives.p hE rfl) rfl ?_; clear hE a; intro a hE
      refine WL.nil ?_
      refine W.cond hE rfl (fun hc58 => ?_) (fun hc58 => ?_)
      · replace hr := iteT hc58 hr
        refine W.seq ?_
        refine W.region ?_
        refine WL.vS hS hE (runs_plain rfl) (Gives.p hE rfl) rfl ?_; clear hE a; intro a hE
        refine WL.vS hS hE (runs_plain rfl) (Gives.p hE rfl) rfl ?_; clear hE a; intro a hE
        refine WL.nil ?_
        refine W.ret ?_
        replace hS := hS.vecNil 22 1
        refine finG (fn := Try.f19) (rs := [.tmp 6, .tmp 7]) (vs := [_, _]) hE rfl ⟨rfl, rfl, trivial⟩ ?_
        obtain rfl := Option.some.inj hr
        replace hS := hS.dropAt 1
        exact ⟨none, 0, 0, [], s, rfl, (Sg.Le.refl _), (Ev.nil), (rfl), hS⟩
      · replace hr := iteF hc58 hr
        refine W.skip ?_
        refine W.seq ?_
        refine W.seq ?_
        refine W.region ?_
        refine WL.vS hS hE (runs_plain rfl) (Gives.p hE rfl) rfl ?_; clear hE a; intro a hE
        refine WL.vS hS hE (runs_plain rfl) (Gives.len hE rfl sl39) rfl ?_; clear hE a; intro a hE
        refine WL.vS hS hE (runs_plain rfl) (Gives.p hE rfl) rfl ?_; clear hE a; intro a hE
        refine WL.nil ?_
        obtain ⟨q61, hq60, hr⟩ := bndS hr
        refine W.cut (fun a w => (.next ()) = q61 ∧ Rep a 106 [(1, .slice a1 x1.length c1), (2, .int .i64 x2), (3, .pointer (some ⟨b51, 0, none⟩))] ∧ St w s (pt b51 (.cells #[.int .i64 x0.Period, .slice a0_0 x0.Plan.length c0_0, .slice a0_1 x0.Links.length c0_1] 25 (0, 0)) :: R)) ?_ ?_
        · refine W.block ?_
          refine W.loop (fun m a w => ∃ (rest64 : List MendFirst) (k62 : Nat), rest64.length = m ∧ x1.drop k62 = rest64 ∧ MendSpread.loop1 x0 rest64 = q61 ∧ Rep a 106 [(1, .slice a1 x1.length c1), (2, .int .i64 x2), (3, .pointer (some ⟨b51, 0, none⟩)), (30, .slice a1 x1.length c1), (31, .int .i64 ((x1).length : Int)), (32, .int .i64 ((k62 : Nat) : Int))] ∧ St w s (pt b51 (.cells #[.int .i64 x0.Period, .slice a0_0 x0.Plan.length c0_0, .slice a0_1 x0.Links.length c0_1] 25 (0, 0)) :: R)) (m := x1.length) ⟨x1, 0, rfl, rfl, hq60, hE.pick _ ⟨rfl, rfl, rfl, rfl, rfl, rfl, trivial⟩, hS⟩ ?_
          clear hE hS a w hq60; rintro m68 a w ⟨rest64, k62, rfl, hd65, hq60, hE, hS⟩
          refine W.gen fun K71 hK71 => ?_
          rcases rest64 with _ | ⟨x63, rest64⟩
          · have hlt66 := drop_nil hd65
            refine W.seq ?_
            refine W.region ?_
            refine WL.vS hS hE (runs_plain rfl) (Gives.p hE rfl) rfl ?_; clear hE a; intro a hE
            refine WL.nil ?_
            refine W.seq ?_
            refine W.condF hE rfl (decide_eq_false (by omega)) ?_
            subst hK71
            refine W.exit rfl ?_
            exact ⟨hq60, hE.pick _ ⟨rfl, rfl, rfl, trivial⟩, hS⟩
          · obtain ⟨hlt66, hx67, hd65⟩ := drop_cons hd65
            rw [MendSpread.loop1] at hq60
            refine W.seq ?_
            refine W.region ?_
            refine WL.vS hS hE (runs_plain rfl) (Gives.p hE rfl) rfl ?_; clear hE a; intro a hE
            refine WL.nil ?_
            refine W.seq ?_
            refine W.condT hE rfl (decide_eq_true (by omega)) ?_
            refine W.skip ?_
            refine W.seq ?_
            refine W.block ?_
            refine W.seq ?_
            refine W.region ?_
            obtain ⟨cs72, hl73, hR74, hat75⟩ := h1.at hx67
            subst hR74
            refine WL.vS hS hE (runs_plain rfl) (Gives.idx hE k62 rfl rfl sl39 rfl hlt66 (h1.aok hlt66)) rfl ?_; clear hE a; intro a hE
            refine WL.vS hS hE (runs_plain rfl) (Gives.loadA hE rfl (fun w h => hat75 w _ h) ty90) rfl ?_; clear hE a; intro a hE
            refine WL.alloc hE hS (runs_plain rfl) zr90 rfl ?_; clear hE hS a w; intro b76 a w hE hS
            refine WL.storeI hE hS 0 rfl (MendFirst.cells x63) (runs_plain rfl) rfl rfl rfl ty90 rfl rfl rfl rfl ?_; clear hE hS a w; intro a w hE hS
            refine WL.nil ?_
            refine W.block ?_
            refine W.seq ?_
            refine W.region ?_
            refine WL.vS hS hE (runs_plain rfl) (Gives.fld hE rfl fl90_0) rfl ?_; clear hE a; intro a hE
            refine WL.vS hS hE (runs_plain rfl) (Gives.loadB hE 0 rfl rfl rfl ty3) rfl ?_; clear hE a; intro a hE
            refine WL.vS hS hE (runs_plain rfl) (Gives.fld hE rfl fl25_1) rfl ?_; clear hE a; intro a hE
            refine WL.vS hS hE (runs_plain rfl) (Gives.loadB hE 1 rfl rfl rfl ty22) rfl ?_; clear hE a; intro a hE
            refine WL.vS hS hE (runs_plain rfl) (Gives.len hE rfl sl22) rfl ?_; clear hE a; intro a hE
            refine WL.vS hS hE (runs_plain rfl) (Gives.p hE rfl) rfl ?_; clear hE a; intro a hE
            refine WL.fnq hE (Mendwithin_ok hS  rfl (r := Mendwithin x63.Event 0 (w64 (((x0.Plan).length : Int) - 1)))) (runs_plain rfl) bd54 rfl rfl rfl ?_
            clear hE hS; rintro e w ⟨rfl, hS⟩; refine ⟨_, rfl, ?_⟩; clear a; intro a hE
            refine WL.vS hS hE (runs_plain rfl) (Gives.p hE rfl) rfl ?_; clear hE a; intro a hE
            refine WL.vS hS hE (runs_plain rfl) (Gives.p hE rfl) rfl ?_; clear hE a; intro a hE
            refine WL.nil ?_
            refine W.cond hE rfl (fun hc77 => ?_) (fun hc77 => ?_)
            · replace hq60 := iteT hc77 hq60
              refine W.seq ?_
              refine W.region ?_
              refine WL.vS hS hE (runs_plain rfl) (Gives.p hE rfl) rfl ?_; clear hE a; intro a hE
              refine WL.vS hS hE (runs_plain rfl) (Gives.p hE rfl) rfl ?_; clear hE a; intro a hE
              refine WL.nil ?_
              refine W.ret ?_
              subst hK71
              rw [← hq60] at hr
              dsimp only at hr
              replace hS := hS.vecNil 22 1
              refine finG (fn := Try.f19) (rs := [.tmp 6, .tmp 7]) (vs := [_, _]) hE rfl ⟨rfl, rfl, trivial⟩ ?_
              obtain rfl := Option.some.inj hr
              replace hS := hS.dropAt 1
              replace hS := hS.dropAt 1
              exact ⟨none, 0, 0, [], s, rfl, (Sg.Le.refl _), (Ev.nil), (rfl), hS⟩
            · replace hq60 := iteF hc77 hq60
              refine W.seq ?_
              obtain ⟨q80, hq79, hq60⟩ := bndS hq60
              refine W.cut (fun a w => ∃ (q83 : Bool), q83 = q80 ∧ Rep a 106 [(1, .slice a1 x1.length c1), (2, .int .i64 x2), (3, .pointer (some ⟨b51, 0, none⟩)), (30, .slice a1 x1.length c1), (31, .int .i64 ((x1).length : Int)), (32, .int .i64 ((k62 : Nat) : Int)), (45, .bool q83)] ∧ St w s (pt b76 (.cells (MendFirst.cells x63).toArray 90 (0, 0)) :: pt b51 (.cells #[.int .i64 x0.Period, .slice a0_0 x0.Plan.length c0_0, .slice a0_1 x0.Links.length c0_1] 25 (0, 0)) :: R)) ?_ ?_
              · refine W.gen fun K84 hK84 => ?_
                refine W.region ?_
                refine WL.vS hS hE (runs_plain rfl) (Gives.fld hE rfl fl90_1) rfl ?_; clear hE a; intro a hE
                refine WL.vS hS hE (runs_plain rfl) (Gives.loadB hE 0 rfl rfl rfl ty3) rfl ?_; clear hE a; intro a hE
                refine WL.fnq hE (Mendwithin_ok hS  rfl (r := Mendwithin x63.Period 0 59)) (runs_plain rfl) bd54 rfl rfl rfl ?_
                clear hE hS; rintro e w ⟨rfl, hS⟩; refine ⟨_, rfl, ?_⟩; clear a; intro a hE
                refine WL.vS hS hE (runs_plain rfl) (Gives.p hE rfl) rfl ?_; clear hE a; intro a hE
                refine WL.vS hS hE (runs_plain rfl) (Gives.p hE rfl) rfl ?_; clear hE a; intro a hE
                rcases Bool.eq_false_or_eq_true (!(Mendwithin x63.Period 0 59)) with hg85 | hg85
                · replace hq79 := iteT hg85 hq79
                  refine WL.no hE (runs_not hE rfl rfl rfl (by rw [hg85]; decide)) rfl ?_; clear hE a; intro a hE
                  refine WL.no hE (runs_not hE rfl rfl rfl (by rw [hg85]; decide)) rfl ?_; clear hE a; intro a hE
                  refine WL.no hE (runs_not hE rfl rfl rfl (by rw [hg85]; decide)) rfl ?_; clear hE a; intro a hE
                  refine WL.no hE (runs_not hE rfl rfl rfl (by rw [hg85]; decide)) rfl ?_; clear hE a; intro a hE
                  refine WL.vS hS hE (runs_plain rfl) (Gives.pickT hE rfl hg85 rfl) rfl ?_; clear hE a; intro a hE
                  refine WL.vS hS hE (runs_plain rfl) (Gives.p hE rfl) rfl ?_; clear hE a; intro a hE
                  refine WL.nil ?_
                  subst hK84
                  exact ⟨true, hq79, hE.pick _ ⟨rfl, rfl, rfl, rfl, rfl, rfl, rfl, trivial⟩, hS⟩
                · replace hq79 := iteF hg85 hq79
                  refine WL.vS hS hE (runs_if hE rfl rfl rfl hg85) (Gives.fld hE rfl fl90_2) rfl ?_; clear hE a; intro a hE
                  refine WL.vS hS hE (runs_if hE rfl rfl rfl hg85) (Gives.loadB hE 0 rfl rfl rfl ty3) rfl ?_; clear hE a; intro a hE
                  refine WL.fnq hE (Mendwithin_ok hS  rfl (r := Mendwithin x63.Secs 0 28800)) (runs_if hE rfl rfl rfl hg85) bd54 rfl rfl rfl ?_
                  clear hE hS; rintro e w ⟨rfl, hS⟩; refine ⟨_, rfl, ?_⟩; clear a; intro a hE
                  refine WL.vS hS hE (runs_if hE rfl rfl rfl hg85) (Gives.p hE rfl) rfl ?_; clear hE a; intro a hE
                  refine WL.vS hS hE (runs_plain rfl) (Gives.pickF hE rfl hg85 rfl) rfl ?_; clear hE a; intro a hE
                  refine WL.vS hS hE (runs_plain rfl) (Gives.p hE rfl) rfl ?_; clear hE a; intro a hE
                  refine WL.nil ?_
                  subst hK84
                  exact ⟨!(Mendwithin x63.Secs 0 28800), hq79, hE.pick _ ⟨rfl, rfl, rfl, rfl, rfl, rfl, rfl, trivial⟩, hS⟩
              · clear hE hS a w; rintro a w ⟨q83, rfl, hE, hS⟩
                refine W.cond hE rfl (fun hc86 => ?_) (fun hc86 => ?_)
                · replace hq60 := iteT hc86 hq60
                  refine W.seq ?_
                  refine W.region ?_
                  refine WL.vS hS hE (runs_plain rfl) (Gives.p hE rfl) rfl ?_; clear hE a; intro a hE
                  refine WL.vS hS hE (runs_plain rfl) (Gives.p hE rfl) rfl ?_; clear hE a; intro a hE
                  refine WL.nil ?_
                  refine W.ret ?_
                  subst hK71
                  rw [← hq60] at hr
                  dsimp only at hr
                  replace hS := hS.vecNil 22 1
                  refine finG (fn := Try.f19) (rs := [.tmp 6, .tmp 7]) (vs := [_, _]) hE rfl ⟨rfl, rfl, trivial⟩ ?_
                  obtain rfl := Option.some.inj hr
                  replace hS := hS.dropAt 1
                  replace hS := hS.dropAt 1
                  exact ⟨none, 0, 0, [], s, rfl, (Sg.Le.refl _), (Ev.nil), (rfl), hS⟩
                · replace hq60 := iteF hc86 hq60
                  refine W.skip ?_
                  refine W.region ?_
                  refine WL.vS hS hE (runs_plain rfl) (Gives.inc hE rfl (by have := h1.small; omega)) rfl ?_; clear hE a; intro a hE
                  refine WL.vS hS hE (runs_plain rfl) (Gives.p hE rfl) rfl ?_; clear hE a; intro a hE
                  refine WL.nil ?_
                  replace hS := hS.tail
                  subst hK71
                  exact ⟨rest64.length, Nat.lt_succ_self _, rest64, k62 + 1, rfl, hd65, hq60, hE.pick _ ⟨rfl, rfl, rfl, rfl, rfl, rfl, trivial⟩, hS⟩
        · clear hE hS a w; rintro a w ⟨rfl, hE, hS⟩
          dsimp only at hr
          refine W.seq ?_
          refine W.region ?_
          replace hS := hS.vecNil 22 1
          refine WL.vS hS hE (runs_plain rfl) (Gives.p hE rfl) rfl ?_; clear hE a; intro a hE
          refine WL.vS hS hE (runs_plain rfl) (Gives.p hE rfl) rfl ?_; clear hE a; intro a hE
          refine WL.nil ?_
          refine W.seq ?_
          refine W.seq ?_
          refine W.region ?_
          refine WL.vS hS hE (runs_plain rfl) (Gives.p hE rfl) rfl ?_; clear hE a; intro a hE
          refine WL.vS hS hE (runs_plain rfl) (Gives.p hE rfl) rfl ?_; clear hE a; intro a hE
          refine WL.nil ?_
          obtain ⟨q101, hq100, hr⟩ := bindS hr
          refine W.cut (fun a w => ∃ (q106 : List (List Int)), ∃ (q113 : List (List Int)), ∃ (q117 : Int), ∃ (a107 : Option Addr), ∃ (c108 : Nat), ∃ (n110 : Nat), ∃ (cs111 : List Value), ∃ (a114 : Option Addr), ∃ (c115 : Nat), ∃ (s104 : Sg), s.Le s104 ∧ (q106, q113, q117) = q101 ∧ Ev 1 (RL 1 (RI .i64)) s104 cs111 q106 ∧ q106.length = n110 ∧ Sl 1 (RL 1 (RI .i64)) s104 a114 c115 q113 ∧ Rep a 106 [(11, .slice a107 n110 c108)] ∧ St w s104 (vecC 22 1 a107 c108 n110 cs111 :: pt b51 (.cells #[.int .i64 x0.Period, .slice a0_0 x0.Plan.length c0_0, .slice a0_1 x0.Links.length c0_1] 25 (0, 0)) :: R)) ?_ ?_
          · refine W.block ?_
            refine W.loop (fun m a w => ∃ (n102 : Nat), ∃ (q106 : List (List Int)), ∃ (q113 : List (List Int)), ∃ (q117 : Int), ∃ (a107 : Option Addr), ∃ (c108 : Nat), ∃ (n110 : Nat), ∃ (cs111 : List Value), ∃ (a114 : Option Addr), ∃ (c115 : Nat), ∃ (s104 : Sg), n102 = m ∧ s.Le s104 ∧ MendSpread.loop3 x0 x1 x2 fu n102 q106 q113 q117 = some q101 ∧ Ev 1 (RL 1 (RI .i64)) s104 cs111 q106 ∧ q106.length = n110 ∧ Sl 1 (RL 1 (RI .i64)) s104 a114 c115 q113 ∧ Rep a 106 [(1, .slice a1 x1.length c1), (3, .pointer (some ⟨b51, 0, none⟩)), (11, .slice a107 n110 c108), (12, .slice a114 q113.length c115), (57, .int .i64 x2), (58, .int .i64 q117)] ∧ St w s104 (vecC 22 1 a107 c108 n110 cs111 :: pt b51 (.cells #[.int .i64 x0.Period, .slice a0_0 x0.Plan.length c0_0, .slice a0_1 x0.Links.length c0_1] 25 (0, 0)) :: R)) (m := fu) ⟨fu, [], [], 0, none, 0, 0, [], none, 0, s, rfl, (Sg.Le.refl _), hq100, (Ev.nil), (rfl), Sl.nil, hE.pick _ ⟨rfl, rfl, rfl, rfl, rfl, rfl, trivial⟩, hS⟩ ?_
            clear hE hS a w hq100; rintro m103 a w ⟨n102, q106, q113, q117, a107, c108, n110, cs111, a114, c115, s104, rfl, hle105, hq100, h109, rfl, h116, hE, hS⟩
            refine W.gen fun K118 hK118 => ?_
            replace h1 := Sl.mono RMendFirst.mono hle105 h1
            replace h0_0 := Sl.mono RI.mono hle105 h0_0
            replace h0_1 := Sl.mono RMendLink.mono hle105 h0_1
            rcases n102 with _ | n102
            · rw [MendSpread.loop3] at hq100; exact absurd hq100 (by simp)
            rw [MendSpread.loop3] at hq100
            refine W.seq ?_
            refine W.region ?_
            refine WL.vS hS hE (runs_plain rfl) (Gives.p hE rfl) rfl ?_; clear hE a; intro a hE
            refine WL.nil ?_
            refine W.seq ?_
            refine W.cond hE rfl (fun hc119 => ?_) (fun hc119 => ?_)
            · replace hq100 := iteT hc119 hq100
              refine W.skip ?_
              refine W.seq ?_
              refine W.block ?_
              refine W.seq ?_
              refine W.region ?_
              refine WL.vS hS hE (runs_plain rfl) (Gives.p hE rfl) rfl ?_; clear hE a; intro a hE
              refine WL.vS hS hE (runs_plain rfl) (Gives.p hE rfl) rfl ?_; clear hE a; intro a hE
              refine WL.nil ?_
              refine W.seq ?_
              refine W.region ?_
              refine WL.vS hS hE (runs_plain rfl) (Gives.fld hE rfl fl25_1) rfl ?_; clear hE a; intro a hE
              refine WL.vS hS hE (runs_plain rfl) (Gives.loadB hE 1 rfl rfl rfl ty22) rfl ?_; clear hE a; intro a hE
              refine WL.vS hS hE (runs_plain rfl) (Gives.len hE rfl sl22) rfl ?_; clear hE a; intro a hE
              obtain ⟨x120, hx121, hq100⟩ := bindS hq100
              refine WL.mkD (Rr := RI .i64) hE hS (runs_plain rfl) rfl rfl ap22 zr3 rfl hx121 rfl ?_; clear hE hS a w; intro b122 cs123 a w h124 hE hS
              refine WL.vS hS hE (runs_plain rfl) (Gives.p hE rfl) rfl ?_; clear hE a; intro a hE
              refine WL.nil ?_
              refine W.seq ?_
              refine W.seq ?_
              refine W.region ?_
              refine WL.vS hS hE (runs_plain rfl) (Gives.p hE rfl) rfl ?_; clear hE a; intro a hE
              refine WL.vS hS hE (runs_plain rfl) (Gives.len hE rfl sl39) rfl ?_; clear hE a; intro a hE
              refine WL.vS hS hE (runs_plain rfl) (Gives.p hE rfl) rfl ?_; clear hE a; intro a hE
              refine WL.nil ?_
              obtain ⟨q127, hq126, hq100⟩ := bindS hq100
              refine W.cut (fun a w => ∃ (q137 : List Int), ∃ (cs141 : List Value), q137 = q127 ∧ Ev 1 (RI .i64) s104 cs141 q137 ∧ q137.length = x120.length ∧ Rep a 106 [(1, .slice a1 x1.length c1), (3, .pointer (some ⟨b51, 0, none⟩)), (11, .slice a107 q106.length c108), (12, .slice a114 q113.length c115), (14, .slice (some ⟨b122, 0, none⟩) x120.length x120.length), (57, .int .i64 x2), (58, .int .i64 q117)] ∧ St w s104 (vecC 3 1 (some ⟨b122, 0, none⟩) x120.length x120.length cs141 :: vecC 22 1 a107 c108 q106.length cs111 :: pt b51 (.cells #[.int .i64 x0.Period, .slice a0_0 x0.Plan.length c0_0, .slice a0_1 x0.Links.length c0_1] 25 (0, 0)) :: R)) ?_ ?_
              · refine W.block ?_
                refine W.loop (fun m a w => ∃ (rest130 : List MendFirst) (k128 : Nat), ∃ (q137 : List Int), ∃ (cs141 : List Value), rest130.length = m ∧ x1.drop k128 = rest130 ∧ MendSpread.loop4 q117 rest130 q137 = some q127 ∧ Ev 1 (RI .i64) s104 cs141 q137 ∧ q137.length = x120.length ∧ Rep a 106 [(1, .slice a1 x1.length c1), (3, .pointer (some ⟨b51, 0, none⟩)), (11, .slice a107 q106.length c108), (12, .slice a114 q113.length c115), (13, .int .i64 q117), (14, .slice (some ⟨b122, 0, none⟩) x120.length x120.length), (57, .int .i64 x2), (58, .int .i64 q117), (65, .slice a1 x1.length c1), (66, .int .i64 ((x1).length : Int)), (67, .int .i64 ((k128 : Nat) : Int))] ∧ St w s104 (vecC 3 1 (some ⟨b122, 0, none⟩) x120.length x120.length cs141 :: vecC 22 1 a107 c108 q106.length cs111 :: pt b51 (.cells #[.int .i64 x0.Period, .slice a0_0 x0.Plan.length c0_0, .slice a0_1 x0.Links.length c0_1] 25 (0, 0)) :: R)) (m := x1.length) ⟨x1, 0, x120, cs123, rfl, rfl, hq126, h124, (rfl), hE.pick _ ⟨rfl, rfl, rfl, rfl, rfl, rfl, rfl, rfl, rfl, rfl, rfl, trivial⟩, hS⟩ ?_
                clear hE hS a w hq126; rintro m134 a w ⟨rest130, k128, q137, cs141, rfl, hd131, hq126, h140, hn142, hE, hS⟩
                refine W.gen fun K143 hK143 => ?_
                rcases rest130 with _ | ⟨x129, rest130⟩
                · have hlt132 := drop_nil hd131
                  refine W.seq ?_
                  refine W.region ?_
                  refine WL.vS hS hE (runs_plain rfl) (Gives.p hE rfl) rfl ?_; clear hE a; intro a hE
                  refine WL.nil ?_
                  refine W.seq ?_
                  refine W.condF hE rfl (decide_eq_false (by omega)) ?_
                  subst hK143
                  refine W.exit rfl ?_
                  exact ⟨q137, cs141, Option.some.inj hq126, h140, hn142, hE.pick _ ⟨rfl, rfl, rfl, rfl, rfl, rfl, rfl, trivial⟩, hS⟩
                · obtain ⟨hlt132, hx133, hd131⟩ := drop_cons hd131
                  rw [MendSpread.loop4] at hq126
                  refine W.seq ?_
                  refine W.region ?_
                  refine WL.vS hS hE (runs_plain rfl) (Gives.p hE rfl) rfl ?_; clear hE a; intro a hE
                  refine WL.nil ?_
                  refine W.seq ?_
                  refine W.condT hE rfl (decide_eq_true (by omega)) ?_
                  refine W.skip ?_
                  refine W.seq ?_
                  refine W.block ?_
                  refine W.seq ?_
                  refine W.region ?_
                  obtain ⟨cs144, hl145, hR146, hat147⟩ := h1.at hx133
                  subst hR146
                  refine WL.vS hS hE (runs_plain rfl) (Gives.idx hE k128 rfl rfl sl39 rfl hlt132 (h1.aok hlt132)) rfl ?_; clear hE a; intro a hE
                  refine WL.vS hS hE (runs_plain rfl) (Gives.loadA hE rfl (fun w h => hat147 w _ h) ty90) rfl ?_; clear hE a; intro a hE
                  refine WL.alloc hE hS (runs_plain rfl) zr90 rfl ?_; clear hE hS a w; intro b148 a w hE hS
                  refine WL.storeI hE hS 0 rfl (MendFirst.cells x129) (runs_plain rfl) rfl rfl rfl ty90 rfl rfl rfl rfl ?_; clear hE hS a w; intro a w hE hS
                  refine WL.nil ?_
                  refine W.seq ?_
                  refine W.region ?_
                  refine WL.vS hS hE (runs_plain rfl) (Gives.fld hE rfl fl90_1) rfl ?_; clear hE a; intro a hE
                  refine WL.vS hS hE (runs_plain rfl) (Gives.loadB hE 0 rfl rfl rfl ty3) rfl ?_; clear hE a; intro a hE
                  refine WL.vS hS hE (runs_plain rfl) (Gives.p hE rfl) rfl ?_; clear hE a; intro a hE
                  refine WL.vS hS hE (runs_plain rfl) (Gives.p hE rfl) rfl ?_; clear hE a; intro a hE
                  refine WL.nil ?_
                  obtain ⟨q150, hq149, hq126⟩ := bindS hq126
                  refine W.cut (fun a w => ∃ (q153 : List Int), ∃ (cs157 : List Value), q153 = q150 ∧ Ev 1 (RI .i64) s104 cs157 q153 ∧ q153.length = x120.length ∧ Rep a 106 [(1, .slice a1 x1.length c1), (3, .pointer (some ⟨b51, 0, none⟩)), (11, .slice a107 q106.length c108), (12, .slice a114 q113.length c115), (13, .int .i64 q117), (14, .slice (some ⟨b122, 0, none⟩) x120.length x120.length), (57, .int .i64 x2), (58, .int .i64 q117), (65, .slice a1 x1.length c1), (66, .int .i64 ((x1).length : Int)), (67, .int .i64 ((k128 : Nat) : Int))] ∧ St w s104 (pt b148 (.cells (MendFirst.cells x129).toArray 90 (0, 0)) :: vecC 3 1 (some ⟨b122, 0, none⟩) x120.length x120.length cs157 :: vecC 22 1 a107 c108 q106.length cs111 :: pt b51 (.cells #[.int .i64 x0.Period, .slice a0_0 x0.Plan.length c0_0, .slice a0_1 x0.Links.length c0_1] 25 (0, 0)) :: R)) ?_ ?_
                  · refine W.gen fun K159 hK159 => ?_
                    refine W.cond hE rfl (fun hc160 => ?_) (fun hc160 => ?_)
                    · replace hq149 := iteT hc160 hq149
                      refine W.gen fun K161 hK161 => ?_
                      refine W.regionE (sel (fun w => St w s104 (pt b148 (.cells (MendFirst.cells x129).toArray 90 (0, 0)) :: vecC 3 1 (some ⟨b122, 0, none⟩) x120.length x120.length cs141 :: vecC 22 1 a107 c108 q106.length cs111 :: pt b51 (.cells #[.int .i64 x0.Period, .slice a0_0 x0.Plan.length c0_0, .slice a0_1 x0.Links.length c0_1] 25 (0, 0)) :: R)) (fun w => St w s104 (pt b148 (.cells (MendFirst.cells x129).toArray 90 (0, 0)) :: vecC 22 1 a107 c108 q106.length cs111 :: pt b51 (.cells #[.int .i64 x0.Period, .slice a0_0 x0.Plan.length c0_0, .slice a0_1 x0.Links.length c0_1] 25 (0, 0)) :: R))) (fun b i => cond b ([0, 1, 2, 3, 4, 5, 6, 7, 8, 9, 10, 11].contains i) ([0, 1, 2, 3, 4, 5, 6, 7, 8, 9, 10, 11, 12].contains i)) mixed ?_
                      replace hS := hS.drew
                      refine Rg.takeP (i := 0) hE rfl (by kernel_rfl) (runs_plain rfl) (Gives.p hE rfl) rfl (tw_sel (fun _ => hS) (fun _ => (hS.dropAt 1))) ?_; clear hE a; intro a hE
                      refine Rg.takeP (i := 1) hE rfl (by kernel_rfl) (runs_plain rfl) (Gives.fld hE rfl fl90_0) rfl (tw_sel (fun _ => hS) (fun _ => (hS.dropAt 1))) ?_; clear hE a; intro a hE
                      have hT := tw_sel (A := fun w => St w s104 (pt b148 (.cells (MendFirst.cells x129).toArray 90 (0, 0)) :: vecC 3 1 (some ⟨b122, 0, none⟩) x120.length x120.length cs141 :: vecC 22 1 a107 c108 q106.length cs111 :: pt b51 (.cells #[.int .i64 x0.Period, .slice a0_0 x0.Plan.length c0_0, .slice a0_1 x0.Links.length c0_1] 25 (0, 0)) :: R)) (B := fun w => St w s104 (pt b148 (.cells (MendFirst.cells x129).toArray 90 (0, 0)) :: vecC 22 1 a107 c108 q106.length cs111 :: pt b51 (.cells #[.int .i64 x0.Period, .slice a0_0 x0.Plan.length c0_0, .slice a0_1 x0.Links.length c0_1] 25 (0, 0)) :: R)) (w := _) (x := true) (y := true) (fun _ => hS) (fun _ => (hS.dropAt 1))
                      have hF := hS; replace hS := hS
                      refine Rg.take (i := 2) true rfl hE rfl (by kernel_rfl) (runs_plain rfl) (Gives.loadB hE 0 rfl rfl rfl ty3) rfl hT ?_; clear hE a; intro a hE
                      replace hS := hF; clear hF hT
                      refine Rg.takeP (i := 3) hE rfl (by kernel_rfl) (runs_plain rfl) (Gives.p hE rfl) rfl (tw_sel (fun _ => hS) (fun _ => (hS.dropAt 1))) ?_; clear hE a; intro a hE
                      refine Rg.takeP (i := 4) hE rfl (by kernel_rfl) (runs_plain rfl) (Gives.fld hE rfl fl90_0) rfl (tw_sel (fun _ => hS) (fun _ => (hS.dropAt 1))) ?_; clear hE a; intro a hE
                      have hT := tw_sel (A := fun w => St w s104 (pt b148 (.cells (MendFirst.cells x129).toArray 90 (0, 0)) :: vecC 3 1 (some ⟨b122, 0, none⟩) x120.length x120.length cs141 :: vecC 22 1 a107 c108 q106.length cs111 :: pt b51 (.cells #[.int .i64 x0.Period, .slice a0_0 x0.Plan.length c0_0, .slice a0_1 x0.Links.length c0_1] 25 (0, 0)) :: R)) (B := fun w => St w s104 (pt b148 (.cells (MendFirst.cells x129).toArray 90 (0, 0)) :: vecC 22 1 a107 c108 q106.length cs111 :: pt b51 (.cells #[.int .i64 x0.Period, .slice a0_0 x0.Plan.length c0_0, .slice a0_1 x0.Links.length c0_1] 25 (0, 0)) :: R)) (w := _) (x := true) (y := true) (fun _ => hS) (fun _ => (hS.dropAt 1))
                      have hF := hS; replace hS := hS
                      refine Rg.take (i := 5) true rfl hE rfl (by kernel_rfl) (runs_plain rfl) (Gives.loadB hE 0 rfl rfl rfl ty3) rfl hT ?_; clear hE a; intro a hE
                      replace hS := hF; clear hF hT
                      obtain ⟨x162, hx163, hq149⟩ := bindS hq149
                      obtain ⟨hi164, hlt165, hy166⟩ := gx_some hx163
                      obtain ⟨vs167, hl168, hR169, hd170, hget171⟩ := h140.at hy166
                      subst hR169
                      refine Rg.takeP (i := 6) hE rfl (by kernel_rfl) (runs_plain rfl) (Gives.idx hE ((x129.Event).toNat) rfl rfl sl22 hi164 (by have := hn142; omega) (hS.vecAok 1 rfl (by have := hn142; omega : (x129.Event).toNat < x120.length))) rfl (tw_sel (fun _ => hS) (fun _ => (hS.dropAt 1))) ?_; clear hE a; intro a hE
                      have hT := tw_sel (A := fun w => St w s104 (pt b148 (.cells (MendFirst.cells x129).toArray 90 (0, 0)) :: vecC 3 1 (some ⟨b122, 0, none⟩) x120.length x120.length cs141 :: vecC 22 1 a107 c108 q106.length cs111 :: pt b51 (.cells #[.int .i64 x0.Period, .slice a0_0 x0.Plan.length c0_0, .slice a0_1 x0.Links.length c0_1] 25 (0, 0)) :: R)) (B := fun w => St w s104 (pt b148 (.cells (MendFirst.cells x129).toArray 90 (0, 0)) :: vecC 22 1 a107 c108 q106.length cs111 :: pt b51 (.cells #[.int .i64 x0.Period, .slice a0_0 x0.Plan.length c0_0, .slice a0_1 x0.Links.length c0_1] 25 (0, 0)) :: R)) (w := _) (x := true) (y := true) (fun _ => hS) (fun _ => (hS.dropAt 1))
                      have hF := hS; replace hS := hS
                      refine Rg.take (i := 7) true rfl hE rfl (by kernel_rfl) (runs_plain rfl) (Gives.load1 hE rfl (fun w h => St.vecSees h 1 rfl ((x129.Event).toNat * 1) _ hget171) ty3) rfl hT ?_; clear hE a; intro a hE
                      replace hS := hF; clear hF hT
                      refine Rg.takeP (i := 8) hE rfl (by kernel_rfl) (runs_plain rfl) (Gives.fld hE rfl fl90_2) rfl (tw_sel (fun _ => hS) (fun _ => (hS.dropAt 1))) ?_; clear hE a; intro a hE
                      have hT := tw_sel (A := fun w => St w s104 (pt b148 (.cells (MendFirst.cells x129).toArray 90 (0, 0)) :: vecC 3 1 (some ⟨b122, 0, none⟩) x120.length x120.length cs141 :: vecC 22 1 a107 c108 q106.length cs111 :: pt b51 (.cells #[.int .i64 x0.Period, .slice a0_0 x0.Plan.length c0_0, .slice a0_1 x0.Links.length c0_1] 25 (0, 0)) :: R)) (B := fun w => St w s104 (pt b148 (.cells (MendFirst.cells x129).toArray 90 (0, 0)) :: vecC 22 1 a107 c108 q106.length cs111 :: pt b51 (.cells #[.int .i64 x0.Period, .slice a0_0 x0.Plan.length c0_0, .slice a0_1 x0.Links.length c0_1] 25 (0, 0)) :: R)) (w := _) (x := true) (y := true) (fun _ => hS) (fun _ => (hS.dropAt 1))
                      have hF := hS; replace hS := hS
                      refine Rg.take (i := 9) true rfl hE rfl (by kernel_rfl) (runs_plain rfl) (Gives.loadB hE 0 rfl rfl rfl ty3) rfl hT ?_; clear hE a; intro a hE
                      replace hS := hF; clear hF hT
                      refine Rg.takeP (i := 10) hE rfl (by kernel_rfl) (runs_plain rfl) (Gives.max2 hE rfl rfl) rfl (tw_sel (fun _ => hS) (fun _ => (hS.dropAt 1))) ?_; clear hE a; intro a hE
                      obtain ⟨_, hx173, hq149⟩ := bindS hq149
                      obtain ⟨h174, h175⟩ := ix_some hx173
                      refine Rg.takeP (i := 11) hE rfl (by kernel_rfl) (runs_plain rfl) (Gives.idx hE ((x129.Event).toNat) rfl rfl sl22 h174 (by have := hn142; omega) (hS.vecAok 1 rfl (by have := hn142; omega : (x129.Event).toNat < x120.length))) rfl (tw_sel (fun _ => hS) (fun _ => (hS.dropAt 1))) ?_; clear hE a; intro a hE
                      refine Rg.one (i := 12) false true rfl (by kernel_rfl) (by kernel_rfl) (by kernel_rfl) ?_
                      obtain ⟨x177, hx178, hq149⟩ := bindS hq149
                      refine WL.setD hE hS 1 rfl (runs_plain rfl) rfl rfl (vs := [.int .i64 (mx x162 x129.Secs)]) rfl ty3 rfl rfl rfl h140 hn142 (sx_some hx178).1 hx178 rfl rfl ?_; clear hE hS a w; intro cs179 a w h180 hn181 hE hS
                      refine WL.nil ?_
                      refine ⟨⟨fun h => absurd h (by decide), fun _ => (hS.dropAt 1)⟩, ?_⟩
                      refine Rg.done (by kernel_rfl) ?_
                      subst hK161
                      subst hK159
                      exact ⟨x177, cs179, Option.some.inj hq149, h180, hn181, hE.pick _ ⟨rfl, rfl, rfl, rfl, rfl, rfl, rfl, rfl, rfl, rfl, rfl, trivial⟩, hS⟩
                    · replace hq149 := iteF hc160 hq149
                      refine W.skip ?_
                      subst hK159
                      exact ⟨q137, cs141, Option.some.inj hq149, h140, hn142, hE.pick _ ⟨rfl, rfl, rfl, rfl, rfl, rfl, rfl, rfl, rfl, rfl, rfl, trivial⟩, hS⟩
                  · clear hE hS a w; rintro a w ⟨q153, cs157, rfl, h156, hn158, hE, hS⟩
                    refine W.region ?_
                    refine WL.vS hS hE (runs_plain rfl) (Gives.inc hE rfl (by have := h1.small; omega)) rfl ?_; clear hE a; intro a hE
                    refine WL.vS hS hE (runs_plain rfl) (Gives.p hE rfl) rfl ?_; clear hE a; intro a hE
                    refine WL.nil ?_
                    replace hS := hS.tail
                    subst hK143
                    exact ⟨rest130.length, Nat.lt_succ_self _, rest130, k128 + 1, q153, cs157, rfl, hd131, hq126, h156, hn158, hE.pick _ ⟨rfl, rfl, rfl, rfl, rfl, rfl, rfl, rfl, rfl, rfl, rfl, trivial⟩, hS⟩
              · clear hE hS a w; rintro a w ⟨q137, cs141, rfl, h140, hn142, hE, hS⟩
                refine W.seq ?_
                refine W.region ?_
                refine WL.vS hS hE (runs_plain rfl) (Gives.loadBA hE 2 rfl rfl ty25) rfl ?_; clear hE a; intro a hE
                refine WL.vS hS hE (runs_plain rfl) (Gives.p hE rfl) rfl ?_; clear hE a; intro a hE
                refine WL.vS hS hE (runs_plain rfl) (Gives.p hE rfl) rfl ?_; clear hE a; intro a hE
                obtain ⟨q182, hq183, hq100⟩ := bindS hq100
                have hF := hS.lendV RI.mono 0 rfl h140 hn142; clear hS; obtain ⟨t190, hle191, hS, hs192, bk193⟩ := hF
                have hc_ := (by have hc_ := MendRoundfollow_ok hS (Sl.mono RI.mono hle191 h0_0) (Sl.mono RMendLink.mono hle191 h0_1) hs192 (Sl.mono (RL.mono RI.mono) hle191 h116) hq183; rw [hn142] at hc_; exact hc_)
                refine WL.fnq hE (hc_) (runs_plain rfl) bd60 rfl rfl rfl ?_
                clear hE hS hc_; rintro e w ⟨a184, c185, n186, cs187, rfl, h188, rfl, hS⟩; refine ⟨_, rfl, ?_⟩; clear a; intro a hE
                replace hS := bk193 _ _ hS
                replace h188 := Ev.flat (s2 := s104) (fun _ _ _ _ h => h) h188
                refine WL.vS hS hE (runs_plain rfl) (Gives.p hE rfl) rfl ?_; clear hE a; intro a hE
                refine WL.nil ?_
                refine W.seq ?_
                refine W.region ?_
                refine WL.vS hS hE (runs_plain rfl) (Gives.p hE rfl) rfl ?_; clear hE a; intro a hE
                refine WL.vS hS hE (runs_plain rfl) (Gives.p hE rfl) rfl ?_; clear hE a; intro a hE
                have hF := hS.fixD RI.mono 1 rfl h188 rfl; clear hS; obtain ⟨s194, hle195, hS, h196⟩ := hF
                replace h1 := Sl.mono RMendFirst.mono hle195 h1
                replace h116 := Sl.mono (RL.mono RI.mono) hle195 h116
                replace h0_0 := Sl.mono RI.mono hle195 h0_0
                replace h0_1 := Sl.mono RMendLink.mono hle195 h0_1
                replace h140 := Ev.mono RI.mono hle195 h140
                replace h109 := Ev.mono (RL.mono RI.mono) hle195 h109
                refine WL.lit hE hS (e := 22) (es := 1) (vs := [(0, .slice a184 q182.length c185)]) (cs := [.slice a184 q182.length c185]) (runs_plain rfl) rfl (by kernel_rfl) rfl ?_; clear hE hS a w; intro b197 a w hE hS
                obtain ⟨x198, hx199, hq100⟩ := bindS hq100
                refine WL.appD hE hS 1 (m := 1) (runs_plain rfl) rfl rfl rfl ap40 rfl h109 rfl (xs := [q182]) (Ev.cons (c1 := [.slice a184 q182.length c185]) ⟨_, _, rfl, h196⟩ rfl (Ev.nil)) rfl rfl hx199 rfl ?_; clear hE hS a w; intro a200 c201 cs202 a w h203 hE hS
                refine WL.vS hS hE (runs_plain rfl) (Gives.p hE rfl) rfl ?_; clear hE a; intro a hE
                refine WL.nil ?_
                refine W.region ?_
                refine WL.vS hS hE (runs_plain rfl) (Gives.p hE rfl) rfl ?_; clear hE a; intro a hE
                refine WL.lit hE hS (e := 22) (es := 1) (vs := [(0, .slice a184 q182.length c185)]) (cs := [.slice a184 q182.length c185]) (runs_plain rfl) rfl (by kernel_rfl) rfl ?_; clear hE hS a w; intro b204 a w hE hS
                replace hS := hS.ptVec (es := 1) (m := 1) rfl (by decide)
                have h206 : Ev 1 (RL 1 (RI .i64)) s194 [.slice a184 q182.length c185] [q182] := (Ev.cons (c1 := [.slice a184 q182.length c185]) ⟨_, _, rfl, h196⟩ rfl (Ev.nil))
                refine WL.vS hS hE (runs_plain rfl) (Gives.p hE rfl) rfl ?_; clear hE a; intro a hE
                refine WL.vS hS hE (runs_plain rfl) (Gives.p hE rfl) rfl ?_; clear hE a; intro a hE
                refine WL.vS hS hE (runs_plain rfl) (Gives.len hE rfl sl40) rfl ?_; clear hE a; intro a hE
                refine WL.vS hS hE (runs_plain rfl) (Gives.min2 hE rfl rfl) rfl ?_; clear hE a; intro a hE
                obtain ⟨x207, hx208, hq100⟩ := bindS hq100
                obtain ⟨a209, c210, heq211, h212⟩ := h116.cut hx208
                obtain ⟨h213, h214, h215, _⟩ := cutl_some hx208
                refine WL.vS hS hE (runs_plain rfl) (Gives.slH hE sl40 rfl rfl (by omega) (by have := h116.len; omega) heq211) rfl ?_; clear hE a; intro a hE
                obtain ⟨x216, hx217, hq100⟩ := bindS hq100
                refine WL.appS hE hS 0 (runs_plain rfl) rfl rfl (xs := x207) rfl rfl ap40 RL.one h206 (rfl) h212 hx217 rfl ?_; clear hE hS a w; intro a218 c219 cs220 a w h221 hE hS
                refine WL.vS hS hE (runs_plain rfl) (Gives.p hE rfl) rfl ?_; clear hE a; intro a hE
                refine WL.nil ?_
                refine W.region ?_
                refine WL.vS hS hE (runs_plain rfl) (Gives.p hE rfl) rfl ?_; clear hE a; intro a hE
                refine WL.vS hS hE (runs_plain rfl) (Gives.p hE rfl) rfl ?_; clear hE a; intro a hE
                refine WL.nil ?_
                have hF := hS.fixD (RL.mono RI.mono) 0 rfl h221 (rfl); clear hS; obtain ⟨s222, hle223, hS, h224⟩ := hF
                replace h1 := Sl.mono RMendFirst.mono hle223 h1
                replace h196 := Sl.mono RI.mono hle223 h196
                replace h0_0 := Sl.mono RI.mono hle223 h0_0
                replace h0_1 := Sl.mono RMendLink.mono hle223 h0_1
                replace h116 := Sl.mono (RL.mono RI.mono) hle223 h116
                replace h212 := Sl.mono (RL.mono RI.mono) hle223 h212
                replace h140 := Ev.mono RI.mono hle223 h140
                replace h203 := Ev.mono (RL.mono RI.mono) hle223 h203
                replace hS := hS.tail
                subst hK118
                exact ⟨n102, Nat.lt_succ_self _, n102, x198, x216, (w64 (q117 + 1)), a200, c201, x198.length, cs202, a218, c219, s222, rfl, (Sg.Le.trans (Sg.Le.trans hle105 hle195) hle223), hq100, h203, (rfl), h224, hE.pick _ ⟨rfl, rfl, rfl, rfl, rfl, rfl, trivial⟩, hS⟩
            · replace hq100 := iteF hc119 hq100
              subst hK118
              refine W.exit rfl ?_
              exact ⟨q106, q113, q117, a107, c108, q106.length, cs111, a114, c115, s104, hle105, Option.some.inj hq100, h109, rfl, h116, hE.pick _ ⟨rfl, trivial⟩, hS⟩
          · clear hE hS a w; rintro a w ⟨q106, q113, q117, a107, c108, n110, cs111, a114, c115, s104, hle105, rfl, h109, rfl, h116, hE, hS⟩
            dsimp only at hr
            replace h1 := Sl.mono RMendFirst.mono hle105 h1
            replace h0_0 := Sl.mono RI.mono hle105 h0_0
            replace h0_1 := Sl.mono RMendLink.mono hle105 h0_1
            refine W.seq ?_
            refine W.region ?_
            refine WL.vS hS hE (runs_plain rfl) (Gives.p hE rfl) rfl ?_; clear hE a; intro a hE
            refine WL.vS hS hE (runs_plain rfl) (Gives.p hE rfl) rfl ?_; clear hE a; intro a hE
            refine WL.vS hS hE (runs_plain rfl) (Gives.p hE rfl) rfl ?_; clear hE a; intro a hE
            refine WL.nil ?_
            refine W.ret ?_
            refine finG (fn := Try.f19) (rs := [.tmp 6, .tmp 7]) (vs := [_, _]) hE rfl ⟨rfl, rfl, trivial⟩ ?_
            obtain rfl := Option.some.inj hr
            replace hS := hS.dropAt 1
            exact ⟨a107, c108, q106.length, cs111, s104, rfl, hle105, h109, rfl, hS⟩
set_option maxHeartbeats 8000000 in
theorem Fishref2within_ok  {w : World} {s : Sg} {R : List HP} {x0 : Int} {x1 : Int} {x2 : Int} (hS : St w s (R))  {r : Bool} (hr : Fishref2within x0 x1 x2 = r) :
    Calls Try.prog 51 [.int .i64 x0, .int .i64 x1, .int .i64 x2].toArray w (fun e w => e = .returned (.bool r) ∧ St w s (R)) := by
  refine enter Try.func51 rfl rfl rfl fun a hE => ?_
  rw [Fishref2within] at hr
  refine W.seq ?_
  refine W.region ?_
  refine WL.vS hS hE (runs_plain rfl) (Gives.p hE rfl) rfl ?_; clear hE a; intro a hE
  refine WL.nil ?_
  refine W.seq ?_
  obtain ⟨q52, hq51, hr⟩ := bndS hr
  refine W.cut (fun a w => ∃ (q55 : Bool), q55 = q52 ∧ Rep a 15 [(6, .bool q55)] ∧ St w s (R)) ?_ ?_
  · refine W.gen fun K56 hK56 => ?_
    refine W.region ?_
    refine WL.vS hS hE (runs_plain rfl) (Gives.p hE rfl) rfl ?_; clear hE a; intro a hE
    refine WL.vS hS hE (runs_plain rfl) (Gives.p hE rfl) rfl ?_; clear hE a; intro a hE
    refine WL.vS hS hE (runs_plain rfl) (Gives.p hE rfl) rfl ?_; clear hE a; intro a hE
    refine WL.vS hS hE (runs_plain rfl) (Gives.p hE rfl) rfl ?_; clear hE a; intro a hE
    rcases Bool.eq_false_or_eq_true (decide (x0 ≥ x1)) with hg57 | hg57
    · replace hq51 := iteT hg57 hq51
      refine WL.vS hS hE (runs_if hE rfl rfl rfl hg57) (Gives.p hE rfl) rfl ?_; clear hE a; intro a hE
      refine WL.vS hS hE (runs_if hE rfl rfl rfl hg57) (Gives.p hE rfl) rfl ?_; clear hE a; intro a hE
      refine WL.vS hS hE (runs_if hE rfl rfl rfl hg57) (Gives.p hE rfl) rfl ?_; clear hE a; intro a hE
      refine WL.vS hS hE (runs_plain rfl) (Gives.pickT hE rfl hg57 rfl) rfl ?_; clear hE a; intro a hE
      refine WL.vS hS hE (runs_plain rfl) (Gives.p hE rfl) rfl ?_; clear hE a; intro a hE
      refine WL.nil ?_
      subst hK56
      exact ⟨decide (x0 ≤ x2), hq51, hE.pick _ ⟨rfl, trivial⟩, hS⟩
    · replace hq51 := iteF hg57 hq51
      refine WL.no hE (runs_not hE rfl rfl rfl (by rw [hg57]; decide)) rfl ?_; clear hE a; intro a hE
      refine WL.no hE (runs_not hE rfl rfl rfl (by rw [hg57]; decide)) rfl ?_; clear hE a; intro a hE
      refine WL.no hE (runs_not hE rfl rfl rfl (by rw [hg57]; decide)) rfl ?_; clear hE a; intro a hE
      refine WL.vS hS hE (runs_plain rfl) (Gives.pickF hE rfl hg57 rfl) rfl ?_; clear hE a; intro a hE
      refine WL.vS hS hE (runs_plain rfl) (Gives.p hE rfl) rfl ?_; clear hE a; intro a hE
      refine WL.nil ?_
      subst hK56
      exact ⟨false, hq51, hE.pick _ ⟨rfl, trivial⟩, hS⟩
  · clear hE hS a w; rintro a w ⟨q55, rfl, hE, hS⟩
    refine W.ret ?_
    refine finG (fn := Try.f51) (rs := [.tmp 6]) (vs := [_]) hE rfl ⟨rfl, trivial⟩ ?_
    subst hr
    exact ⟨rfl, hS⟩
set_option maxHeartbeats 8000000 in
theorem Fishref2SlackOf_ok  {w : World} {s : Sg} {R : List HP} {x0 : MendRound} {a0_0 : Option Addr} {c0_0 : Nat} {a0_1 : Option Addr} {c0_1 : Nat} {x1 : MendLink} (hS : St w s (R)) (h0_0 : Sl 1 (RI .i64) s a0_0 c0_0 x0.Plan) (_h0_1 : Sl 4 RMendLink s a0_1 c0_1 x0.Links) {r : Int} (hr : Fishref2SlackOf x0 x1 = some r) :
    Calls Try.prog 52 [.agg [.int .i64 x0.Period, .slice a0_0 x0.Plan.length c0_0, .slice a0_1 x0.Links.length c0_1].toArray, .agg (MendLink.cells x1).toArray].toArray w (fun e w => e = .returned (.int .i64 r) ∧ St w s (R)) := by
  refine enter Try.func52 rfl rfl rfl fun a hE => ?_
  rw [Fishref2SlackOf] at hr
  refine W.seq ?_
  refine W.region ?_
  refine WL.box hE hS (runs_plain rfl) rfl rfl rfl ?_; clear hE hS a w; intro b51 a w hE hS
  refine WL.box hE hS (runs_plain rfl) rfl rfl rfl ?_; clear hE hS a w; intro b52 a w hE hS
  refine WL.vS hS hE (runs_plain rfl) (Gives.p hE rfl) rfl ?_; clear hE a; intro a hE
  refine WL.nil ?_
  refine W.seq ?_
  refine W.regionQ (C := fun w => St w s (pt b52 (.cells (MendLink.cells x1).toArray 36 (0, 0)) :: pt b51 (.cells #[.int .i64 x0.Period, .slice a0_0 x0.Plan.length c0_0, .slice a0_1 x0.Links.length c0_1] 25 (0, 0)) :: R)) mixed (by kernel_rfl) hS.drew ?_
  refine QL.v hE (runs_plain rfl) (Gives.fld hE rfl fl25_1) rfl ?_; clear hE a; intro a hE
  refine QL.v hE (runs_plain rfl) (Gives.loadB hE 1 rfl rfl rfl ty22) rfl ?_; clear hE a; intro a hE
  refine QL.v hE (runs_plain rfl) (Gives.fld hE rfl fl36_1) rfl ?_; clear hE a; intro a hE
  refine QL.v hE (runs_plain rfl) (Gives.loadB hE 0 rfl rfl rfl ty3) rfl ?_; clear hE a; intro a hE
  obtain ⟨x53, hx54, hr⟩ := bindS hr
  obtain ⟨hi55, hlt56, hy57⟩ := gx_some hx54
  obtain ⟨cs58, hl59, hR60, hat61⟩ := h0_0.at hy57
  subst hR60
  refine QL.v hE (runs_plain rfl) (Gives.idx hE (x1.To).toNat rfl rfl sl22 hi55 hlt56 (h0_0.aok hlt56)) rfl ?_; clear hE a; intro a hE
  refine QL.v hE (runs_plain rfl) (Gives.load1 hE rfl (fun w h => hat61 w _ h) ty3) rfl ?_; clear hE a; intro a hE
  refine QL.v hE (runs_plain rfl) (Gives.fld hE rfl fl25_1) rfl ?_; clear hE a; intro a hE
  refine QL.v hE (runs_plain rfl) (Gives.loadB hE 1 rfl rfl rfl ty22) rfl ?_; clear hE a; intro a hE
  refine QL.v hE (runs_plain rfl) (Gives.fld hE rfl fl36_0) rfl ?_; clear hE a; intro a hE
  refine QL.v hE (runs_plain rfl) (Gives.loadB hE 0 rfl rfl rfl ty3) rfl ?_; clear hE a; intro a hE
  obtain ⟨x62, hx63, hr⟩ := bindS hr
  obtain ⟨hi64, hlt65, hy66⟩ := gx_some hx63
  obtain ⟨cs67, hl68, hR69, hat70⟩ := h0_0.at hy66
  subst hR69
  refine QL.v hE (runs_plain rfl) (Gives.idx hE (x1.From).toNat rfl rfl sl22 hi64 hlt65 (h0_0.aok hlt65)) rfl ?_; clear hE a; intro a hE
  refine QL.v hE (runs_plain rfl) (Gives.load1 hE rfl (fun w h => hat70 w _ h) ty3) rfl ?_; clear hE a; intro a hE
  refine QL.v hE (runs_plain rfl) (Gives.p hE rfl) rfl ?_; clear hE a; intro a hE
  refine QL.v hE (runs_plain rfl) (Gives.fld hE rfl fl36_3) rfl ?_; clear hE a; intro a hE
  refine QL.v hE (runs_plain rfl) (Gives.loadB hE 0 rfl rfl rfl ty3) rfl ?_; clear hE a; intro a hE
  refine QL.v hE (runs_plain rfl) (Gives.fld hE rfl fl25_0) rfl ?_; clear hE a; intro a hE
  refine QL.v hE (runs_plain rfl) (Gives.loadB hE 1 rfl rfl rfl ty3) rfl ?_; clear hE a; intro a hE
  refine QL.v hE (runs_plain rfl) (Gives.p hE rfl) rfl ?_; clear hE a; intro a hE
  refine QL.v hE (runs_plain rfl) (Gives.p hE rfl) rfl ?_; clear hE a; intro a hE
  refine QL.v hE (runs_plain rfl) (Gives.fld hE rfl fl36_2) rfl ?_; clear hE a; intro a hE
  refine QL.v hE (runs_plain rfl) (Gives.loadB hE 0 rfl rfl rfl ty3) rfl ?_; clear hE a; intro a hE
  refine QL.v hE (runs_plain rfl) (Gives.p hE rfl) rfl ?_; clear hE a; intro a hE
  refine QL.v hE (runs_plain rfl) (Gives.p hE rfl) rfl ?_; clear hE a; intro a hE
  refine QL.nil ?_; clear hS w; intro w hS
  refine W.ret ?_
  refine finG (fn := Try.f52) (rs := [.tmp 4]) (vs := [_]) hE rfl ⟨rfl, trivial⟩ ?_
  obtain rfl := Option.some.inj hr
  replace hS := hS.tail
  replace hS := hS.tail
  exact ⟨rfl, hS⟩
set_option maxHeartbeats 8000000 in
theorem SlicesIndexLbool_ok  {w : World} {s : Sg} {R : List HP} {x0 : List Bool} {a0 : Option Addr} {c0 : Nat} {x1 : Bool} (hS : St w s (R)) (h0 : Sl 1 RB s a0 c0 x0) {r : Int} (hr : SlicesIndexLbool x0 x1 = r) :
    Calls Try.prog 84 [.slice a0 x0.length c0, .bool x1].toArray w (fun e w => e = .returned (.int .i64 r) ∧ St w s (R)) := by
  refine enter Try.func84 rfl rfl rfl fun a hE => ?_
  rw [SlicesIndexLbool] at hr
  refine W.seq ?_
  refine W.region ?_
  refine WL.vS hS hE (runs_plain rfl) (Gives.p hE rfl) rfl ?_; clear hE a; intro a hE
  refine WL.nil ?_
  refine W.seq ?_
  refine W.seq ?_
  refine W.region ?_
  refine WL.vS hS hE (runs_plain rfl) (Gives.p hE rfl) rfl ?_; clear hE a; intro a hE
  refine WL.vS hS hE (runs_plain rfl) (Gives.len hE rfl sl82) rfl ?_; clear hE a; intro a hE
  refine WL.vS hS hE (runs_plain rfl) (Gives.p hE rfl) rfl ?_; clear hE a; intro a hE
  refine WL.nil ?_
  obtain ⟨q52, hq51, hr⟩ := bndS hr
  refine W.cut (fun a w => (.next ()) = q52 ∧ Rep a 19 [] ∧ St w s (R)) ?_ ?_
  · refine W.block ?_
    refine W.loop (fun m a w => ∃ (rest55 : List Bool) (k53 : Nat), rest55.length = m ∧ x0.drop k53 = rest55 ∧ SlicesIndexLbool.loop1 x1 rest55 k53 = q52 ∧ Rep a 19 [(0, .slice a0 x0.length c0), (1, .bool x1), (7, .int .i64 ((x0).length : Int)), (8, .int .i64 ((k53 : Nat) : Int))] ∧ St w s (R)) (m := x0.length) ⟨x0, 0, rfl, rfl, hq51, hE.pick _ ⟨rfl, rfl, rfl, rfl, trivial⟩, hS⟩ ?_
    clear hE hS a w hq51; rintro m59 a w ⟨rest55, k53, rfl, hd56, hq51, hE, hS⟩
    refine W.gen fun K62 hK62 => ?_
    rcases rest55 with _ | ⟨x54, rest55⟩
    · have hlt57 := drop_nil hd56
      refine W.seq ?_
      refine W.region ?_
      refine WL.vS hS hE (runs_plain rfl) (Gives.p hE rfl) rfl ?_; clear hE a; intro a hE
      refine WL.nil ?_
      refine W.seq ?_
      refine W.condF hE rfl (decide_eq_false (by omega)) ?_
      subst hK62
      refine W.exit rfl ?_
      exact ⟨hq51, hE.pick _ trivial, hS⟩
    · obtain ⟨hlt57, hx58, hd56⟩ := drop_cons hd56
      rw [SlicesIndexLbool.loop1] at hq51
      refine W.seq ?_
      refine W.region ?_
      refine WL.vS hS hE (runs_plain rfl) (Gives.p hE rfl) rfl ?_; clear hE a; intro a hE
      refine WL.nil ?_
      refine W.seq ?_
      refine W.condT hE rfl (decide_eq_true (by omega)) ?_
      refine W.skip ?_
      refine W.seq ?_
      refine W.block ?_
      refine W.seq ?_
      refine W.region ?_
      refine WL.vS hS hE (runs_plain rfl) (Gives.p hE rfl) rfl ?_; clear hE a; intro a hE
      refine WL.vS hS hE (runs_plain rfl) (Gives.p hE rfl) rfl ?_; clear hE a; intro a hE
      refine WL.nil ?_
      refine W.seq ?_
      refine W.region ?_
      refine WL.vS hS hE (runs_plain rfl) (Gives.p hE rfl) rfl ?_; clear hE a; intro a hE
      refine WL.vS hS hE (runs_plain rfl) (Gives.p hE rfl) rfl ?_; clear hE a; intro a hE
      refine WL.vS hS hE (runs_plain rfl) (Gives.p hE rfl) rfl ?_; clear hE a; intro a hE
      obtain ⟨cs63, hl64, hR65, hat66⟩ := h0.at hx58
      subst hR65
      refine WL.vS hS hE (runs_plain rfl) (Gives.idx hE k53 rfl rfl sl82 rfl hlt57 (h0.aok hlt57)) rfl ?_; clear hE a; intro a hE
      refine WL.vS hS hE (runs_plain rfl) (Gives.load1 hE rfl (fun w h => hat66 w _ h) ty4) rfl ?_; clear hE a; intro a hE
      refine WL.vS hS hE (runs_plain rfl) (Gives.eqB hE rfl rfl bl4) rfl ?_; clear hE a; intro a hE
      refine WL.nil ?_
      refine W.cond hE rfl (fun hc67 => ?_) (fun hc67 => ?_)
      · replace hq51 := iteT hc67 hq51
        refine W.seq ?_
        refine W.region ?_
        refine WL.vS hS hE (runs_plain rfl) (Gives.p hE rfl) rfl ?_; clear hE a; intro a hE
        refine WL.vS hS hE (runs_plain rfl) (Gives.p hE rfl) rfl ?_; clear hE a; intro a hE
        refine WL.nil ?_
        refine W.ret ?_
        subst hK62
        rw [← hq51] at hr
        dsimp only at hr
        refine finG (fn := Try.f84) (rs := [.tmp 4]) (vs := [_]) hE rfl ⟨rfl, trivial⟩ ?_
        subst hr
        exact ⟨rfl, hS⟩
      · replace hq51 := iteF hc67 hq51
        refine W.skip ?_
        refine W.region ?_
        refine WL.vS hS hE (runs_plain rfl) (Gives.inc hE rfl (by have := h0.small; omega)) rfl ?_; clear hE a; intro a hE
        refine WL.vS hS hE (runs_plain rfl) (Gives.p hE rfl) rfl ?_; clear hE a; intro a hE
        refine WL.nil ?_
        subst hK62
        exact ⟨rest55.length, Nat.lt_succ_self _, rest55, k53 + 1, rfl, hd56, hq51, hE.pick _ ⟨rfl, rfl, rfl, rfl, trivial⟩, hS⟩
  · clear hE hS a w; rintro a w ⟨rfl, hE, hS⟩
    dsimp only at hr
    refine W.seq ?_
    refine W.region ?_
    refine WL.vS hS hE (runs_plain rfl) (Gives.p hE rfl) rfl ?_; clear hE a; intro a hE
    refine WL.nil ?_
    refine W.ret ?_
    refine finG (fn := Try.f84) (rs := [.tmp 4]) (vs := [_]) hE rfl ⟨rfl, trivial⟩ ?_
    subst hr
    exact ⟨rfl, hS⟩
set_option maxHeartbeats 8000000 in
theorem SlicesContainsLbool_ok  {w : World} {s : Sg} {R : List HP} {x0 : List Bool} {a0 : Option Addr} {c0 : Nat} {x1 : Bool} (hS : St w s (R)) (h0 : Sl 1 RB s a0 c0 x0) {r : Bool} (hr : SlicesContainsLbool x0 x1 = r) :
    Calls Try.prog 53 [.slice a0 x0.length c0, .bool x1].toArray w (fun e w => e = .returned (.bool r) ∧ St w s (R)) := by
  refine enter Try.func53 rfl rfl rfl fun a hE => ?_
  rw [SlicesContainsLbool] at hr
  refine W.seq ?_
  refine W.region ?_
  refine WL.vS hS hE (runs_plain rfl) (Gives.p hE rfl) rfl ?_; clear hE a; intro a hE
  refine WL.nil ?_
  refine W.seq ?_
  refine W.region ?_
  refine WL.vS hS hE (runs_plain rfl) (Gives.p hE rfl) rfl ?_; clear hE a; intro a hE
  refine WL.vS hS hE (runs_plain rfl) (Gives.p hE rfl) rfl ?_; clear hE a; intro a hE
  refine WL.fnq hE (SlicesIndexLbool_ok hS h0 rfl (r := SlicesIndexLbool x0 x1)) (runs_plain rfl) bd84 rfl rfl rfl ?_
  clear hE hS; rintro e w ⟨rfl, hS⟩; refine ⟨_, rfl, ?_⟩; clear a; intro a hE
  refine WL.vS hS hE (runs_plain rfl) (Gives.p hE rfl) rfl ?_; clear hE a; intro a hE
  refine WL.vS hS hE (runs_plain rfl) (Gives.p hE rfl) rfl ?_; clear hE a; intro a hE
  refine WL.nil ?_
  refine W.ret ?_
  refine finG (fn := Try.f53) (rs := [.tmp 4]) (vs := [_]) hE rfl ⟨rfl, trivial⟩ ?_
  subst hr
  exact ⟨rfl, hS⟩
set_option maxHeartbeats 8000000 in
theorem Fishref2RoundFault_ok  {w : World} {s : Sg} {R : List HP} {x0 : MendRound} {a0_0 : Option Addr} {c0_0 : Nat} {a0_1 : Option Addr} {c0_1 : Nat} (hS : St w s (R)) (h0_0 : Sl 1 (RI .i64) s a0_0 c0_0 x0.Plan) (h0_1 : Sl 4 RMendLink s a0_1 c0_1 x0.Links) {r : Int} (hr : Fishref2RoundFault x0 = some r) :
    Calls Try.prog 14 [.agg [.int .i64 x0.Period, .slice a0_0 x0.Plan.length c0_0, .slice a0_1 x0.Links.length c0_1].toArray].toArray w (fun e w => e = .returned (.int .i64 r) ∧ St w s (R)) := by
  refine enter Try.func14 rfl rfl rfl fun a hE => ?_
  rw [Fishref2RoundFault] at hr
  refine W.seq ?_
  refine W.region ?_
  refine WL.box hE hS (runs_plain rfl) rfl rfl rfl ?_; clear hE hS a w; intro b51 a w hE hS
  refine WL.vS hS hE (runs_plain rfl) (Gives.p hE rfl) rfl ?_; clear hE a; intro a hE
  refine WL.nil ?_
  refine W.seq ?_
  refine W.seq ?_
  refine W.region ?_
  refine WL.vS hS hE (runs_plain rfl) (Gives.fld hE rfl fl25_0) rfl ?_; clear hE a; intro a hE
  refine WL.vS hS hE (runs_plain rfl) (Gives.loadB hE 0 rfl rfl rfl ty3) rfl ?_; clear hE a; intro a hE
  refine WL.fnq hE (Fishref2within_ok hS  rfl (r := Fishref2within x0.Period 1 3600)) (runs_plain rfl) bd51 rfl rfl rfl ?_
  clear hE hS; rintro e w ⟨rfl, hS⟩; refine ⟨_, rfl, ?_⟩; clear a; intro a hE
  refine WL.vS hS hE (runs_plain rfl) (Gives.p hE rfl) rfl ?_; clear hE a; intro a hE
  refine WL.nil ?_
  refine W.cond hE rfl (fun hc52 => ?_) (fun hc52 => ?_)
  · replace hr := iteT hc52 hr
    refine W.seq ?_
    refine W.region ?_
    refine WL.vS hS hE (runs_plain rfl) (Gives.p hE rfl) rfl ?_; clear hE a; intro a hE
    refine WL.nil ?_
    refine W.ret ?_
    refine finG (fn := Try.f14) (rs := [.tmp 2]) (vs := [_]) hE rfl ⟨rfl, trivial⟩ ?_
    obtain rfl := Option.some.inj hr
    replace hS := hS.tail
    exact ⟨rfl, hS⟩
  · replace hr := iteF hc52 hr
    refine W.skip ?_
    refine W.seq ?_
    refine W.region ?_
    refine WL.vS hS hE (runs_plain rfl) (Gives.fld hE rfl fl25_1) rfl ?_; clear hE a; intro a hE
    refine WL.vS hS hE (runs_plain rfl) (Gives.loadB hE 0 rfl rfl rfl ty22) rfl ?_; clear hE a; intro a hE
    refine WL.vS hS hE (runs_plain rfl) (Gives.len hE rfl sl22) rfl ?_; clear hE a; intro a hE
    refine WL.vS hS hE (runs_plain rfl) (Gives.p hE rfl) rfl ?_; clear hE a; intro a hE
    refine WL.nil ?_
    refine W.seq ?_
    refine W.seq ?_
    obtain ⟨q54, hq53, hr⟩ := bndS hr
    refine W.cut (fun a w => ∃ (q57 : Bool), q57 = q54 ∧ Rep a 138 [(1, .pointer (some ⟨b51, 0, none⟩)), (3, .int .i64 ((x0.Plan).length : Int)), (28, .bool q57)] ∧ St w s (pt b51 (.cells #[.int .i64 x0.Period, .slice a0_0 x0.Plan.length c0_0, .slice a0_1 x0.Links.length c0_1] 25 (0, 0)) :: R)) ?_ ?_
    · refine W.gen fun K58 hK58 => ?_
      refine W.region ?_
      refine WL.vS hS hE (runs_plain rfl) (Gives.p hE rfl) rfl ?_; clear hE a; intro a hE
      refine WL.fnq hE (Fishref2within_ok hS  rfl (r := Fishref2within ((x0.Plan).length : Int) 1 8)) (runs_plain rfl) bd51 rfl rfl rfl ?_
      clear hE hS; rintro e w ⟨rfl, hS⟩; refine ⟨_, rfl, ?_⟩; clear a; intro a hE
      refine WL.vS hS hE (runs_plain rfl) (Gives.p hE rfl) rfl ?_; clear hE a; intro a hE
      refine WL.vS hS hE (runs_plain rfl) (Gives.p hE rfl) rfl ?_; clear hE a; intro a hE
      rcases Bool.eq_false_or_eq_true (!(Fishref2within ((x0.Plan).length : Int) 1 8)) with hg59 | hg59
      · replace hq53 := iteT hg59 hq53
        refine WL.no hE (runs_not hE rfl rfl rfl (by rw [hg59]; decide)) rfl ?_; clear hE a; intro a hE
        refine WL.no hE (runs_not hE rfl rfl rfl (by rw [hg59]; decide)) rfl ?_; clear hE a; intro a hE
        refine WL.no hE (runs_not hE rfl rfl rfl (by rw [hg59]; decide)) rfl ?_; clear hE a; intro a hE
        refine WL.no hE (runs_not hE rfl rfl rfl (by rw [hg59]; decide)) rfl ?_; clear hE a; intro a hE
        refine WL.vS hS hE (runs_plain rfl) (Gives.pickT hE rfl hg59 rfl) rfl ?_; clear hE a; intro a hE
        refine WL.nil ?_
        subst hK58
        exact ⟨true, hq53, hE.pick _ ⟨rfl, rfl, rfl, trivial⟩, hS⟩
      · replace hq53 := iteF hg59 hq53
        refine WL.vS hS hE (runs_if hE rfl rfl rfl hg59) (Gives.fld hE rfl fl25_2) rfl ?_; clear hE a; intro a hE
        refine WL.vS hS hE (runs_if hE rfl rfl rfl hg59) (Gives.loadB hE 0 rfl rfl rfl ty23) rfl ?_; clear hE a; intro a hE
        refine WL.vS hS hE (runs_if hE rfl rfl rfl hg59) (Gives.len hE rfl sl23) rfl ?_; clear hE a; intro a hE
        refine WL.vS hS hE (runs_if hE rfl rfl rfl hg59) (Gives.p hE rfl) rfl ?_; clear hE a; intro a hE
        refine WL.vS hS hE (runs_plain rfl) (Gives.pickF hE rfl hg59 rfl) rfl ?_; clear hE a; intro a hE
        refine WL.nil ?_
        subst hK58
        exact ⟨decide (((x0.Links).length : Int) > 24), hq53, hE.pick _ ⟨rfl, rfl, rfl, trivial⟩, hS⟩
    · clear hE hS a w; rintro a w ⟨q57, rfl, hE, hS⟩
      refine W.cond hE rfl (fun hc60 => ?_) (fun hc60 => ?_)
      · replace hr := iteT hc60 hr
        refine W.seq ?_
        refine W.region ?_
        refine WL.vS hS hE (runs_plain rfl) (Gives.p hE rfl) rfl ?_; clear hE a; intro a hE
        refine WL.nil ?_
        refine W.ret ?_
        refine finG (fn := Try.f14) (rs := [.tmp 2]) (vs := [_]) hE rfl ⟨rfl, trivial⟩ ?_
        obtain rfl := Option.some.inj hr
        replace hS := hS.tail
        exact ⟨rfl, hS⟩
      · replace hr := iteF hc60 hr
        refine W.skip ?_
        refine W.seq ?_
        refine W.seq ?_
        refine W.region ?_
        refine WL.vS hS hE (runs_plain rfl) (Gives.fld hE rfl fl25_1) rfl ?_; clear hE a; intro a hE
        refine WL.vS hS hE (runs_plain rfl) (Gives.loadB hE 0 rfl rfl rfl ty22) rfl ?_; clear hE a; intro a hE
        refine WL.vS hS hE (runs_plain rfl) (Gives.len hE rfl sl22) rfl ?_; clear hE a; intro a hE
        refine WL.vS hS hE (runs_plain rfl) (Gives.p hE rfl) rfl ?_; clear hE a; intro a hE
        refine WL.nil ?_
        obtain ⟨q62, hq61, hr⟩ := bndS hr
        refine W.cut (fun a w => (.next ()) = q62 ∧ Rep a 138 [(1, .pointer (some ⟨b51, 0, none⟩)), (3, .int .i64 ((x0.Plan).length : Int))] ∧ St w s (pt b51 (.cells #[.int .i64 x0.Period, .slice a0_0 x0.Plan.length c0_0, .slice a0_1 x0.Links.length c0_1] 25 (0, 0)) :: R)) ?_ ?_
        · refine W.block ?_
          refine W.loop (fun m a w => ∃ (rest65 : List Int) (k63 : Nat), rest65.length = m ∧ x0.Plan.drop k63 = rest65 ∧ Fishref2RoundFault.loop1 x0 rest65 = q62 ∧ Rep a 138 [(1, .pointer (some ⟨b51, 0, none⟩)), (3, .int .i64 ((x0.Plan).length : Int)), (30, .slice a0_0 x0.Plan.length c0_0), (31, .int .i64 ((x0.Plan).length : Int)), (32, .int .i64 ((k63 : Nat) : Int))] ∧ St w s (pt b51 (.cells #[.int .i64 x0.Period, .slice a0_0 x0.Plan.length c0_0, .slice a0_1 x0.Links.length c0_1] 25 (0, 0)) :: R)) (m := x0.Plan.length) ⟨x0.Plan, 0, rfl, rfl, hq61, hE.pick _ ⟨rfl, rfl, rfl, rfl, rfl, trivial⟩, hS⟩ ?_
          clear hE hS a w hq61; rintro m69 a w ⟨rest65, k63, rfl, hd66, hq61, hE, hS⟩
          refine W.gen fun K72 hK72 => ?_
          rcases rest65 with _ | ⟨x64, rest65⟩
          · have hlt67 := drop_nil hd66
            refine W.seq ?_
            refine W.region ?_
            refine WL.vS hS hE (runs_plain rfl) (Gives.p hE rfl) rfl ?_; clear hE a; intro a hE
            refine WL.nil ?_
            refine W.seq ?_
            refine W.condF hE rfl (decide_eq_false (by omega)) ?_
            subst hK72
            refine W.exit rfl ?_
            exact ⟨hq61, hE.pick _ ⟨rfl, rfl, trivial⟩, hS⟩
          · obtain ⟨hlt67, hx68, hd66⟩ := drop_cons hd66
            rw [Fishref2RoundFault.loop1] at hq61
            refine W.seq ?_
            refine W.region ?_
            refine WL.vS hS hE (runs_plain rfl) (Gives.p hE rfl) rfl ?_; clear hE a; intro a hE
            refine WL.nil ?_
            refine W.seq ?_
            refine W.condT hE rfl (decide_eq_true (by omega)) ?_
            refine W.skip ?_
            refine W.seq ?_
            refine W.block ?_
            refine W.seq ?_
            refine W.region ?_
            obtain ⟨cs73, hl74, hR75, hat76⟩ := h0_0.at hx68
            subst hR75
            refine WL.vS hS hE (runs_plain rfl) (Gives.idx hE k63 rfl rfl sl22 rfl hlt67 (h0_0.aok hlt67)) rfl ?_; clear hE a; intro a hE
            refine WL.vS hS hE (runs_plain rfl) (Gives.load1 hE rfl (fun w h => hat76 w _ h) ty3) rfl ?_; clear hE a; intro a hE
            refine WL.vS hS hE (runs_plain rfl) (Gives.p hE rfl) rfl ?_; clear hE a; intro a hE
            refine WL.nil ?_
            refine W.seq ?_
            refine W.region ?_
            refine WL.vS hS hE (runs_plain rfl) (Gives.p hE rfl) rfl ?_; clear hE a; intro a hE
            refine WL.vS hS hE (runs_plain rfl) (Gives.fld hE rfl fl25_0) rfl ?_; clear hE a; intro a hE
            refine WL.vS hS hE (runs_plain rfl) (Gives.loadB hE 0 rfl rfl rfl ty3) rfl ?_; clear hE a; intro a hE
            refine WL.vS hS hE (runs_plain rfl) (Gives.p hE rfl) rfl ?_; clear hE a; intro a hE
            refine WL.fnq hE (Fishref2within_ok hS  rfl (r := Fishref2within x64 0 (w64 (x0.Period - 1)))) (runs_plain rfl) bd51 rfl rfl rfl ?_
            clear hE hS; rintro e w ⟨rfl, hS⟩; refine ⟨_, rfl, ?_⟩; clear a; intro a hE
            refine WL.vS hS hE (runs_plain rfl) (Gives.p hE rfl) rfl ?_; clear hE a; intro a hE
            refine WL.nil ?_
            refine W.cond hE rfl (fun hc77 => ?_) (fun hc77 => ?_)
            · replace hq61 := iteT hc77 hq61
              refine W.seq ?_
              refine W.region ?_
              refine WL.vS hS hE (runs_plain rfl) (Gives.p hE rfl) rfl ?_; clear hE a; intro a hE
              refine WL.nil ?_
              refine W.ret ?_
              subst hK72
              rw [← hq61] at hr
              dsimp only at hr
              refine finG (fn := Try.f14) (rs := [.tmp 2]) (vs := [_]) hE rfl ⟨rfl, trivial⟩ ?_
              obtain rfl := Option.some.inj hr
              replace hS := hS.tail
              exact ⟨rfl, hS⟩
            · replace hq61 := iteF hc77 hq61
              refine W.skip ?_
              refine W.region ?_
              refine WL.vS hS hE (runs_plain rfl) (Gives.inc hE rfl (by have := h0_0.small; omega)) rfl ?_; clear hE a; intro a hE
              refine WL.vS hS hE (runs_plain rfl) (Gives.p hE rfl) rfl ?_; clear hE a; intro a hE
              refine WL.nil ?_
              subst hK72
              exact ⟨rest65.length, Nat.lt_succ_self _, rest65, k63 + 1, rfl, hd66, hq61, hE.pick _ ⟨rfl, rfl, rfl, rfl, rfl, trivial⟩, hS⟩
        · clear hE hS a w; rintro a w ⟨rfl, hE, hS⟩
          dsimp only at hr
          refine W.seq ?_
          refine W.seq ?_
          refine W.region ?_
          refine WL.vS hS hE (runs_plain rfl) (Gives.fld hE rfl fl25_2) rfl ?_; clear hE a; intro a hE
          refine WL.vS hS hE (runs_plain rfl) (Gives.loadB hE 0 rfl rfl rfl ty23) rfl ?_; clear hE a; intro a hE
          refine WL.vS hS hE (runs_plain rfl) (Gives.len hE rfl sl23) rfl ?_; clear hE a; intro a hE
          refine WL.vS hS hE (runs_plain rfl) (Gives.p hE rfl) rfl ?_; clear hE a; intro a hE
          refine WL.nil ?_
          obtain ⟨q79, hq78, hr⟩ := bindS hr
          refine W.cut (fun a w => (.next ()) = q79 ∧ Rep a 138 [(1, .pointer (some ⟨b51, 0, none⟩)), (3, .int .i64 ((x0.Plan).length : Int))] ∧ St w s (pt b51 (.cells #[.int .i64 x0.Period, .slice a0_0 x0.Plan.length c0_0, .slice a0_1 x0.Links.length c0_1] 25 (0, 0)) :: R)) ?_ ?_
          · refine W.block ?_
            refine W.loop (fun m a w => ∃ (rest82 : List MendLink) (k80 : Nat), rest82.length = m ∧ x0.Links.drop k80 = rest82 ∧ Fishref2RoundFault.loop2 x0 rest82 = some q79 ∧ Rep a 138 [(1, .pointer (some ⟨b51, 0, none⟩)), (3, .int .i64 ((x0.Plan).length : Int)), (44, .slice a0_1 x0.Links.length c0_1), (45, .int .i64 ((x0.Links).length : Int)), (46, .int .i64 ((k80 : Nat) : Int))] ∧ St w s (pt b51 (.cells #[.int .i64 x0.Period, .slice a0_0 x0.Plan.length c0_0, .slice a0_1 x0.Links.length c0_1] 25 (0, 0)) :: R)) (m := x0.Links.length) ⟨x0.Links, 0, rfl, rfl, hq78, hE.pick _ ⟨rfl, rfl, rfl, rfl, rfl, trivial⟩, hS⟩ ?_
            clear hE hS a w hq78; rintro m86 a w ⟨rest82, k80, rfl, hd83, hq78, hE, hS⟩
            refine W.gen fun K89 hK89 => ?_
            rcases rest82 with _ | ⟨x81, rest82⟩
            · have hlt84 := drop_nil hd83
              refine W.seq ?_
              refine W.region ?_
              refine WL.vS hS hE (runs_plain rfl) (Gives.p hE rfl) rfl ?_; clear hE a; intro a hE
              refine WL.nil ?_
              refine W.seq ?_
              refine W.condF hE rfl (decide_eq_false (by omega)) ?_
              subst hK89
              refine W.exit rfl ?_
              exact ⟨Option.some.inj hq78, hE.pick _ ⟨rfl, rfl, trivial⟩, hS⟩
            · obtain ⟨hlt84, hx85, hd83⟩ := drop_cons hd83
              rw [Fishref2RoundFault.loop2] at hq78
              refine W.seq ?_
              refine W.region ?_
              refine WL.vS hS hE (runs_plain rfl) (Gives.p hE rfl) rfl ?_; clear hE a; intro a hE
              refine WL.nil ?_
              refine W.seq ?_
              refine W.condT hE rfl (decide_eq_true (by omega)) ?_
              refine W.skip ?_
              refine W.seq ?_
              refine W.block ?_
              refine W.seq ?_
              refine W.region ?_
              obtain ⟨cs90, hl91, hR92, hat93⟩ := h0_1.at hx85
              subst hR92
              refine WL.vS hS hE (runs_plain rfl) (Gives.idx hE k80 rfl rfl sl23 rfl hlt84 (h0_1.aok hlt84)) rfl ?_; clear hE a; intro a hE
              refine WL.vS hS hE (runs_plain rfl) (Gives.loadA hE rfl (fun w h => hat93 w _ h) ty36) rfl ?_; clear hE a; intro a hE
              refine WL.alloc hE hS (runs_plain rfl) zr36 rfl ?_; clear hE hS a w; intro b94 a w hE hS
              refine WL.storeI hE hS 0 rfl (MendLink.cells x81) (runs_plain rfl) rfl rfl rfl ty36 rfl rfl rfl rfl ?_; clear hE hS a w; intro a w hE hS
              refine WL.nil ?_
              refine W.block ?_
              refine W.seq ?_
              obtain ⟨q96, hq95, hq78⟩ := bndS hq78
              refine W.cut (fun a w => ∃ (q99 : Bool), q99 = q96 ∧ Rep a 138 [(1, .pointer (some ⟨b51, 0, none⟩)), (3, .int .i64 ((x0.Plan).length : Int)), (7, .pointer (some ⟨b94, 0, none⟩)), (44, .slice a0_1 x0.Links.length c0_1), (45, .int .i64 ((x0.Links).length : Int)), (46, .int .i64 ((k80 : Nat) : Int)), (50, .bool q99)] ∧ St w s (pt b94 (.cells (MendLink.cells x81).toArray 36 (0, 0)) :: pt b51 (.cells #[.int .i64 x0.Period, .slice a0_0 x0.Plan.length c0_0, .slice a0_1 x0.Links.length c0_1] 25 (0, 0)) :: R)) ?_ ?_
              · refine W.gen fun K100 hK100 => ?_
                refine W.region ?_
                refine WL.vS hS hE (runs_plain rfl) (Gives.fld hE rfl fl36_0) rfl ?_; clear hE a; intro a hE
                refine WL.vS hS hE (runs_plain rfl) (Gives.loadB hE 0 rfl rfl rfl ty3) rfl ?_; clear hE a; intro a hE
                refine WL.vS hS hE (runs_plain rfl) (Gives.p hE rfl) rfl ?_; clear hE a; intro a hE
                refine WL.vS hS hE (runs_plain rfl) (Gives.p hE rfl) rfl ?_; clear hE a; intro a hE
                rcases Bool.eq_false_or_eq_true (decide (x81.From < 0)) with hg101 | hg101
                · replace hq95 := iteT hg101 hq95
                  refine WL.no hE (runs_not hE rfl rfl rfl (by rw [hg101]; decide)) rfl ?_; clear hE a; intro a hE
                  refine WL.no hE (runs_not hE rfl rfl rfl (by rw [hg101]; decide)) rfl ?_; clear hE a; intro a hE
                  refine WL.no hE (runs_not hE rfl rfl rfl (by rw [hg101]; decide)) rfl ?_; clear hE a; intro a hE
                  refine WL.no hE (runs_not hE rfl rfl rfl (by rw [hg101]; decide)) rfl ?_; clear hE a; intro a hE
                  refine WL.vS hS hE (runs_plain rfl) (Gives.pickT hE rfl hg101 rfl) rfl ?_; clear hE a; intro a hE
                  refine WL.vS hS hE (runs_plain rfl) (Gives.p hE rfl) rfl ?_; clear hE a; intro a hE
                  refine WL.no hE (runs_not hE rfl rfl rfl (by decide)) rfl ?_; clear hE a; intro a hE
                  refine WL.no hE (runs_not hE rfl rfl rfl (by decide)) rfl ?_; clear hE a; intro a hE
                  refine WL.no hE (runs_not hE rfl rfl rfl (by decide)) rfl ?_; clear hE a; intro a hE
                  refine WL.vS hS hE (runs_plain rfl) (Gives.pickT hE rfl rfl rfl) rfl ?_; clear hE a; intro a hE
                  refine WL.vS hS hE (runs_plain rfl) (Gives.p hE rfl) rfl ?_; clear hE a; intro a hE
                  refine WL.no hE (runs_not hE rfl rfl rfl (by decide)) rfl ?_; clear hE a; intro a hE
                  refine WL.no hE (runs_not hE rfl rfl rfl (by decide)) rfl ?_; clear hE a; intro a hE
                  refine WL.no hE (runs_not hE rfl rfl rfl (by decide)) rfl ?_; clear hE a; intro a hE
                  refine WL.no hE (runs_not hE rfl rfl rfl (by decide)) rfl ?_; clear hE a; intro a hE
                  refine WL.vS hS hE (runs_plain rfl) (Gives.pickT hE rfl rfl rfl) rfl ?_; clear hE a; intro a hE
                  refine WL.vS hS hE (runs_plain rfl) (Gives.p hE rfl) rfl ?_; clear hE a; intro a hE
                  refine WL.nil ?_
                  subst hK100
                  exact ⟨true, hq95, hE.pick _ ⟨rfl, rfl, rfl, rfl, rfl, rfl, rfl, trivial⟩, hS⟩
                · replace hq95 := iteF hg101 hq95
                  refine WL.vS hS hE (runs_if hE rfl rfl rfl hg101) (Gives.fld hE rfl fl36_0) rfl ?_; clear hE a; intro a hE
                  refine WL.vS hS hE (runs_if hE rfl rfl rfl hg101) (Gives.loadB hE 0 rfl rfl rfl ty3) rfl ?_; clear hE a; intro a hE
                  refine WL.vS hS hE (runs_if hE rfl rfl rfl hg101) (Gives.p hE rfl) rfl ?_; clear hE a; intro a hE
                  refine WL.vS hS hE (runs_if hE rfl rfl rfl hg101) (Gives.p hE rfl) rfl ?_; clear hE a; intro a hE
                  refine WL.vS hS hE (runs_plain rfl) (Gives.pickF hE rfl hg101 rfl) rfl ?_; clear hE a; intro a hE
                  refine WL.vS hS hE (runs_plain rfl) (Gives.p hE rfl) rfl ?_; clear hE a; intro a hE
                  rcases Bool.eq_false_or_eq_true (decide (x81.From ≥ ((x0.Plan).length : Int))) with hg102 | hg102
                  · replace hq95 := iteT hg102 hq95
                    refine WL.no hE (runs_not hE rfl rfl rfl (by rw [hg102]; decide)) rfl ?_; clear hE a; intro a hE
                    refine WL.no hE (runs_not hE rfl rfl rfl (by rw [hg102]; decide)) rfl ?_; clear hE a; intro a hE
                    refine WL.no hE (runs_not hE rfl rfl rfl (by rw [hg102]; decide)) rfl ?_; clear hE a; intro a hE
                    refine WL.vS hS hE (runs_plain rfl) (Gives.pickT hE rfl hg102 rfl) rfl ?_; clear hE a; intro a hE
                    refine WL.vS hS hE (runs_plain rfl) (Gives.p hE rfl) rfl ?_; clear hE a; intro a hE
                    refine WL.no hE (runs_not hE rfl rfl rfl (by decide)) rfl ?_; clear hE a; intro a hE
                    refine WL.no hE (runs_not hE rfl rfl rfl (by decide)) rfl ?_; clear hE a; intro a hE
                    refine WL.no hE (runs_not hE rfl rfl rfl (by decide)) rfl ?_; clear hE a; intro a hE
                    refine WL.no hE (runs_not hE rfl rfl rfl (by decide)) rfl ?_; clear hE a; intro a hE
                    refine WL.vS hS hE (runs_plain rfl) (Gives.pickT hE rfl rfl rfl) rfl ?_; clear hE a; intro a hE
                    refine WL.vS hS hE (runs_plain rfl) (Gives.p hE rfl) rfl ?_; clear hE a; intro a hE
                    refine WL.nil ?_
                    subst hK100
                    exact ⟨true, hq95, hE.pick _ ⟨rfl, rfl, rfl, rfl, rfl, rfl, rfl, trivial⟩, hS⟩
                  · replace hq95 := iteF hg102 hq95
                    refine WL.vS hS hE (runs_if hE rfl rfl rfl hg102) (Gives.fld hE rfl fl36_1) rfl ?_; clear hE a; intro a hE
                    refine WL.vS hS hE (runs_if hE rfl rfl rfl hg102) (Gives.loadB hE 0 rfl rfl rfl ty3) rfl ?_; clear hE a; intro a hE
                    refine WL.vS hS hE (runs_if hE rfl rfl rfl hg102) (Gives.p hE rfl) rfl ?_; clear hE a; intro a hE
                    refine WL.vS hS hE (runs_plain rfl) (Gives.pickF hE rfl hg102 rfl) rfl ?_; clear hE a; intro a hE
                    refine WL.vS hS hE (runs_plain rfl) (Gives.p hE rfl) rfl ?_; clear hE a; intro a hE
                    rcases Bool.eq_false_or_eq_true (decide (x81.To < 0)) with hg103 | hg103
                    · replace hq95 := iteT hg103 hq95
                      refine WL.no hE (runs_not hE rfl rfl rfl (by rw [hg103]; decide)) rfl ?_; clear hE a; intro a hE
                      refine WL.no hE (runs_not hE rfl rfl rfl (by rw [hg103]; decide)) rfl ?_; clear hE a; intro a hE
                      refine WL.no hE (runs_not hE rfl rfl rfl (by rw [hg103]; decide)) rfl ?_; clear hE a; intro a hE
                      refine WL.no hE (runs_not hE rfl rfl rfl (by rw [hg103]; decide)) rfl ?_; clear hE a; intro a hE
                      refine WL.vS hS hE (runs_plain rfl) (Gives.pickT hE rfl hg103 rfl) rfl ?_; clear hE a; intro a hE
                      refine WL.vS hS hE (runs_plain rfl) (Gives.p hE rfl) rfl ?_; clear hE a; intro a hE
                      refine WL.nil ?_
                      subst hK100
                      exact ⟨true, hq95, hE.pick _ ⟨rfl, rfl, rfl, rfl, rfl, rfl, rfl, trivial⟩, hS⟩
                    · replace hq95 := iteF hg103 hq95
                      refine WL.vS hS hE (runs_if hE rfl rfl rfl hg103) (Gives.fld hE rfl fl36_1) rfl ?_; clear hE a; intro a hE
                      refine WL.vS hS hE (runs_if hE rfl rfl rfl hg103) (Gives.loadB hE 0 rfl rfl rfl ty3) rfl ?_; clear hE a; intro a hE
                      refine WL.vS hS hE (runs_if hE rfl rfl rfl hg103) (Gives.p hE rfl) rfl ?_; clear hE a; intro a hE
                      refine WL.vS hS hE (runs_if hE rfl rfl rfl hg103) (Gives.p hE rfl) rfl ?_; clear hE a; intro a hE
                      refine WL.vS hS hE (runs_plain rfl) (Gives.pickF hE rfl hg103 rfl) rfl ?_; clear hE a; intro a hE
                      refine WL.vS hS hE (runs_plain rfl) (Gives.p hE rfl) rfl ?_; clear hE a; intro a hE
                      refine WL.nil ?_
                      subst hK100
                      exact ⟨decide (x81.To ≥ ((x0.Plan).length : Int)), hq95, hE.pick _ ⟨rfl, rfl, rfl, rfl, rfl, rfl, rfl, trivial⟩, hS⟩
              · clear hE hS a w; rintro a w ⟨q99, rfl, hE, hS⟩
                refine W.cond hE rfl (fun hc104 => ?_) (fun hc104 => ?_)
                · replace hq78 := iteT hc104 hq78
                  refine W.seq ?_
                  refine W.region ?_
                  refine WL.vS hS hE (runs_plain rfl) (Gives.p hE rfl) rfl ?_; clear hE a; intro a hE
                  refine WL.nil ?_
                  refine W.ret ?_
                  subst hK89
                  rw [← Option.some.inj hq78] at hr
                  dsimp only at hr
                  refine finG (fn := Try.f14) (rs := [.tmp 2]) (vs := [_]) hE rfl ⟨rfl, trivial⟩ ?_
                  obtain rfl := Option.some.inj hr
                  replace hS := hS.tail
                  replace hS := hS.tail
                  exact ⟨rfl, hS⟩
                · replace hq78 := iteF hc104 hq78
                  refine W.seq ?_
                  obtain ⟨q106, hq105, hq78⟩ := bndS hq78
                  refine W.cut (fun a w => ∃ (q109 : Bool), q109 = q106 ∧ Rep a 138 [(1, .pointer (some ⟨b51, 0, none⟩)), (3, .int .i64 ((x0.Plan).length : Int)), (7, .pointer (some ⟨b94, 0, none⟩)), (44, .slice a0_1 x0.Links.length c0_1), (45, .int .i64 ((x0.Links).length : Int)), (46, .int .i64 ((k80 : Nat) : Int)), (71, .bool q109)] ∧ St w s (pt b94 (.cells (MendLink.cells x81).toArray 36 (0, 0)) :: pt b51 (.cells #[.int .i64 x0.Period, .slice a0_0 x0.Plan.length c0_0, .slice a0_1 x0.Links.length c0_1] 25 (0, 0)) :: R)) ?_ ?_
                  · refine W.gen fun K110 hK110 => ?_
                    refine W.region ?_
                    refine WL.vS hS hE (runs_plain rfl) (Gives.fld hE rfl fl36_2) rfl ?_; clear hE a; intro a hE
                    refine WL.vS hS hE (runs_plain rfl) (Gives.loadB hE 0 rfl rfl rfl ty3) rfl ?_; clear hE a; intro a hE
                    refine WL.fnq hE (Fishref2within_ok hS  rfl (r := Fishref2within x81.Len 0 28800)) (runs_plain rfl) bd51 rfl rfl rfl ?_
                    clear hE hS; rintro e w ⟨rfl, hS⟩; refine ⟨_, rfl, ?_⟩; clear a; intro a hE
                    refine WL.vS hS hE (runs_plain rfl) (Gives.p hE rfl) rfl ?_; clear hE a; intro a hE
                    refine WL.vS hS hE (runs_plain rfl) (Gives.p hE rfl) rfl ?_; clear hE a; intro a hE
                    rcases Bool.eq_false_or_eq_true (!(Fishref2within x81.Len 0 28800)) with hg111 | hg111
                    · replace hq105 := iteT hg111 hq105
                      refine WL.no hE (runs_not hE rfl rfl rfl (by rw [hg111]; decide)) rfl ?_; clear hE a; intro a hE
                      refine WL.no hE (runs_not hE rfl rfl rfl (by rw [hg111]; decide)) rfl ?_; clear hE a; intro a hE
                      refine WL.no hE (runs_not hE rfl rfl rfl (by rw [hg111]; decide)) rfl ?_; clear hE a; intro a hE
                      refine WL.no hE (runs_not hE rfl rfl rfl (by rw [hg111]; decide)) rfl ?_; clear hE a; intro a hE
                      refine WL.vS hS hE (runs_plain rfl) (Gives.pickT hE rfl hg111 rfl) rfl ?_; clear hE a; intro a hE
                      refine WL.vS hS hE (runs_plain rfl) (Gives.p hE rfl) rfl ?_; clear hE a; intro a hE
                      refine WL.nil ?_
                      subst hK110
                      exact ⟨true, hq105, hE.pick _ ⟨rfl, rfl, rfl, rfl, rfl, rfl, rfl, trivial⟩, hS⟩
                    · replace hq105 := iteF hg111 hq105
                      refine WL.vS hS hE (runs_if hE rfl rfl rfl hg111) (Gives.fld hE rfl fl36_3) rfl ?_; clear hE a; intro a hE
                      refine WL.vS hS hE (runs_if hE rfl rfl rfl hg111) (Gives.loadB hE 0 rfl rfl rfl ty3) rfl ?_; clear hE a; intro a hE
                      refine WL.fnq hE (Fishref2within_ok hS  rfl (r := Fishref2within x81.Back 0 3)) (runs_if hE rfl rfl rfl hg111) bd51 rfl rfl rfl ?_
                      clear hE hS; rintro e w ⟨rfl, hS⟩; refine ⟨_, rfl, ?_⟩; clear a; intro a hE
                      refine WL.vS hS hE (runs_if hE rfl rfl rfl hg111) (Gives.p hE rfl) rfl ?_; clear hE a; intro a hE
                      refine WL.vS hS hE (runs_plain rfl) (Gives.pickF hE rfl hg111 rfl) rfl ?_; clear hE a; intro a hE
                      refine WL.vS hS hE (runs_plain rfl) (Gives.p hE rfl) rfl ?_; clear hE a; intro a hE
                      refine WL.nil ?_
                      subst hK110
                      exact ⟨!(Fishref2within x81.Back 0 3), hq105, hE.pick _ ⟨rfl, rfl, rfl, rfl, rfl, rfl, rfl, trivial⟩, hS⟩
                  · clear hE hS a w; rintro a w ⟨q109, rfl, hE, hS⟩
                    refine W.cond hE rfl (fun hc112 => ?_) (fun hc112 => ?_)
                    · replace hq78 := iteT hc112 hq78
                      refine W.seq ?_
                      refine W.region ?_
                      refine WL.vS hS hE (runs_plain rfl) (Gives.p hE rfl) rfl ?_; clear hE a; intro a hE
                      refine WL.nil ?_
                      refine W.ret ?_
                      subst hK89
                      rw [← Option.some.inj hq78] at hr
                      dsimp only at hr
                      refine finG (fn := Try.f14) (rs := [.tmp 2]) (vs := [_]) hE rfl ⟨rfl, trivial⟩ ?_
                      obtain rfl := Option.some.inj hr
                      replace hS := hS.tail
                      replace hS := hS.tail
                      exact ⟨rfl, hS⟩
                    · replace hq78 := iteF hc112 hq78
                      refine W.seq ?_
                      refine W.region ?_
                      refine WL.vS hS hE (runs_plain rfl) (Gives.loadBA hE 1 rfl rfl ty25) rfl ?_; clear hE a; intro a hE
                      refine WL.vS hS hE (runs_plain rfl) (Gives.loadBA hE 0 rfl rfl ty36) rfl ?_; clear hE a; intro a hE
                      obtain ⟨q113, hq114, hq78⟩ := bindS hq78
                      have hc_ := Fishref2SlackOf_ok hS h0_0 h0_1 hq114
                      refine WL.fnq hE (hc_) (runs_plain rfl) bd52 rfl rfl rfl ?_
                      clear hE hS hc_; rintro e w ⟨rfl, hS⟩; refine ⟨_, rfl, ?_⟩; clear a; intro a hE
                      refine WL.vS hS hE (runs_plain rfl) (Gives.p hE rfl) rfl ?_; clear hE a; intro a hE
                      refine WL.vS hS hE (runs_plain rfl) (Gives.p hE rfl) rfl ?_; clear hE a; intro a hE
                      refine WL.nil ?_
                      refine W.cond hE rfl (fun hc115 => ?_) (fun hc115 => ?_)
                      · replace hq78 := iteT hc115 hq78
                        refine W.seq ?_
                        refine W.region ?_
                        refine WL.vS hS hE (runs_plain rfl) (Gives.p hE rfl) rfl ?_; clear hE a; intro a hE
                        refine WL.nil ?_
                        refine W.ret ?_
                        subst hK89
                        rw [← Option.some.inj hq78] at hr
                        dsimp only at hr
                        refine finG (fn := Try.f14) (rs := [.tmp 2]) (vs := [_]) hE rfl ⟨rfl, trivial⟩ ?_
                        obtain rfl := Option.some.inj hr
                        replace hS := hS.tail
                        replace hS := hS.tail
                        exact ⟨rfl, hS⟩
                      · replace hq78 := iteF hc115 hq78
                        refine W.skip ?_
                        refine W.region ?_
                        refine WL.vS hS hE (runs_plain rfl) (Gives.inc hE rfl (by have := h0_1.small; omega)) rfl ?_; clear hE a; intro a hE
                        refine WL.vS hS hE (runs_plain rfl) (Gives.p hE rfl) rfl ?_; clear hE a; intro a hE
                        refine WL.nil ?_
                        replace hS := hS.tail
                        subst hK89
                        exact ⟨rest82.length, Nat.lt_succ_self _, rest82, k80 + 1, rfl, hd83, hq78, hE.pick _ ⟨rfl, rfl, rfl, rfl, rfl, trivial⟩, hS⟩
          · clear hE hS a w; rintro a w ⟨rfl, hE, hS⟩
            dsimp only at hr
            refine W.seq ?_
            refine W.region ?_
            refine WL.vS hS hE (runs_plain rfl) (Gives.p hE rfl) rfl ?_; clear hE a; intro a hE
            obtain ⟨x116, hx117, hr⟩ := bindS hr
            refine WL.mkD (Rr := RB) hE hS (runs_plain rfl) rfl rfl ap82 zr4 rfl hx117 rfl ?_; clear hE hS a w; intro b118 cs119 a w h120 hE hS
            refine WL.vS hS hE (runs_plain rfl) (Gives.p hE rfl) rfl ?_; clear hE a; intro a hE
            refine WL.nil ?_
            refine W.seq ?_
            refine W.seq ?_
            refine W.region ?_
            refine WL.vS hS hE (runs_plain rfl) (Gives.p hE rfl) rfl ?_; clear hE a; intro a hE
            refine WL.vS hS hE (runs_plain rfl) (Gives.p hE rfl) rfl ?_; clear hE a; intro a hE
            refine WL.nil ?_
            obtain ⟨q123, hq122, hr⟩ := bindS hr
            refine W.cut (fun a w => ∃ (q133 : List Bool), ∃ (cs137 : List Value), q133 = q123 ∧ Ev 1 RB s cs137 q133 ∧ q133.length = x116.length ∧ Rep a 138 [(8, .slice (some ⟨b118, 0, none⟩) x116.length x116.length)] ∧ St w s (vecC 4 1 (some ⟨b118, 0, none⟩) x116.length x116.length cs137 :: pt b51 (.cells #[.int .i64 x0.Period, .slice a0_0 x0.Plan.length c0_0, .slice a0_1 x0.Links.length c0_1] 25 (0, 0)) :: R)) ?_ ?_
            · refine W.block ?_
              refine W.loop (fun m a w => ∃ (rest126 : List Int) (k124 : Nat), ∃ (q133 : List Bool), ∃ (cs137 : List Value), rest126.length = m ∧ x0.Plan.drop k124 = rest126 ∧ Fishref2RoundFault.loop3 x0 rest126 q133 = some q123 ∧ Ev 1 RB s cs137 q133 ∧ q133.length = x116.length ∧ Rep a 138 [(1, .pointer (some ⟨b51, 0, none⟩)), (3, .int .i64 ((x0.Plan).length : Int)), (8, .slice (some ⟨b118, 0, none⟩) x116.length x116.length), (90, .int .i64 ((x0.Plan).length : Int)), (91, .int .i64 ((k124 : Nat) : Int))] ∧ St w s (vecC 4 1 (some ⟨b118, 0, none⟩) x116.length x116.length cs137 :: pt b51 (.cells #[.int .i64 x0.Period, .slice a0_0 x0.Plan.length c0_0, .slice a0_1 x0.Links.length c0_1] 25 (0, 0)) :: R)) (m := x0.Plan.length) ⟨x0.Plan, 0, x116, cs119, rfl, rfl, hq122, h120, (rfl), hE.pick _ ⟨rfl, rfl, rfl, rfl, rfl, trivial⟩, hS⟩ ?_
              clear hE hS a w hq122; rintro m130 a w ⟨rest126, k124, q133, cs137, rfl, hd127, hq122, h136, hn138, hE, hS⟩
              refine W.gen fun K139 hK139 => ?_
              rcases rest126 with _ | ⟨x125, rest126⟩
              · have hlt128 := drop_nil hd127
                refine W.seq ?_
                refine W.region ?_
                refine WL.vS hS hE (runs_plain rfl) (Gives.p hE rfl) rfl ?_; clear hE a; intro a hE
                refine WL.nil ?_
                refine W.seq ?_
                refine W.condF hE rfl (decide_eq_false (by omega)) ?_
                subst hK139
                refine W.exit rfl ?_
                exact ⟨q133, cs137, Option.some.inj hq122, h136, hn138, hE.pick _ ⟨rfl, trivial⟩, hS⟩
              · obtain ⟨hlt128, hx129, hd127⟩ := drop_cons hd127
                rw [Fishref2RoundFault.loop3] at hq122
                refine W.seq ?_
                refine W.region ?_
                refine WL.vS hS hE (runs_plain rfl) (Gives.p hE rfl) rfl ?_; clear hE a; intro a hE
                refine WL.nil ?_
                refine W.seq ?_
                refine W.condT hE rfl (decide_eq_true (by omega)) ?_
                refine W.skip ?_
                refine W.seq ?_
                refine W.block ?_
                refine W.seq ?_
                refine W.region ?_
                refine WL.vS hS hE (runs_plain rfl) (Gives.p hE rfl) rfl ?_; clear hE a; intro a hE
                refine WL.vS hS hE (runs_plain rfl) (Gives.p hE rfl) rfl ?_; clear hE a; intro a hE
                refine WL.nil ?_
                obtain ⟨q141, hq140, hq122⟩ := bindS hq122
                refine W.cut (fun a w => ∃ (q151 : List Bool), ∃ (cs155 : List Value), q151 = q141 ∧ Ev 1 RB s cs155 q151 ∧ q151.length = x116.length ∧ Rep a 138 [(1, .pointer (some ⟨b51, 0, none⟩)), (3, .int .i64 ((x0.Plan).length : Int)), (8, .slice (some ⟨b118, 0, none⟩) x116.length x116.length), (90, .int .i64 ((x0.Plan).length : Int)), (91, .int .i64 ((k124 : Nat) : Int))] ∧ St w s (vecC 4 1 (some ⟨b118, 0, none⟩) x116.length x116.length cs155 :: pt b51 (.cells #[.int .i64 x0.Period, .slice a0_0 x0.Plan.length c0_0, .slice a0_1 x0.Links.length c0_1] 25 (0, 0)) :: R)) ?_ ?_
                · refine W.block ?_
                  refine W.loop (fun m a w => ∃ (rest144 : List Int) (k142 : Nat), ∃ (q151 : List Bool), ∃ (cs155 : List Value), rest144.length = m ∧ x0.Plan.drop k142 = rest144 ∧ Fishref2RoundFault.loop4 x0 rest144 k142 q151 = some q141 ∧ Ev 1 RB s cs155 q151 ∧ q151.length = x116.length ∧ Rep a 138 [(1, .pointer (some ⟨b51, 0, none⟩)), (3, .int .i64 ((x0.Plan).length : Int)), (8, .slice (some ⟨b118, 0, none⟩) x116.length x116.length), (90, .int .i64 ((x0.Plan).length : Int)), (91, .int .i64 ((k124 : Nat) : Int)), (93, .int .i64 ((x0.Plan).length : Int)), (94, .int .i64 ((k142 : Nat) : Int))] ∧ St w s (vecC 4 1 (some ⟨b118, 0, none⟩) x116.length x116.length cs155 :: pt b51 (.cells #[.int .i64 x0.Period, .slice a0_0 x0.Plan.length c0_0, .slice a0_1 x0.Links.length c0_1] 25 (0, 0)) :: R)) (m := x0.Plan.length) ⟨x0.Plan, 0, q133, cs137, rfl, rfl, hq140, h136, hn138, hE.pick _ ⟨rfl, rfl, rfl, rfl, rfl, rfl, rfl, trivial⟩, hS⟩ ?_
                  clear hE hS a w hq140; rintro m148 a w ⟨rest144, k142, q151, cs155, rfl, hd145, hq140, h154, hn156, hE, hS⟩
                  refine W.gen fun K157 hK157 => ?_
                  rcases rest144 with _ | ⟨x143, rest144⟩
                  · have hlt146 := drop_nil hd145
                    refine W.seq ?_
                    refine W.region ?_
                    refine WL.vS hS hE (runs_plain rfl) (Gives.p hE rfl) rfl ?_; clear hE a; intro a hE
                    refine WL.nil ?_
                    refine W.seq ?_
                    refine W.condF hE rfl (decide_eq_false (by omega)) ?_
                    subst hK157
                    refine W.exit rfl ?_
                    exact ⟨q151, cs155, Option.some.inj hq140, h154, hn156, hE.pick _ ⟨rfl, rfl, rfl, rfl, rfl, trivial⟩, hS⟩
                  · obtain ⟨hlt146, hx147, hd145⟩ := drop_cons hd145
                    rw [Fishref2RoundFault.loop4] at hq140
                    refine W.seq ?_
                    refine W.region ?_
                    refine WL.vS hS hE (runs_plain rfl) (Gives.p hE rfl) rfl ?_; clear hE a; intro a hE
                    refine WL.nil ?_
                    refine W.seq ?_
                    refine W.condT hE rfl (decide_eq_true (by omega)) ?_
                    refine W.skip ?_
                    refine W.seq ?_
                    refine W.block ?_
                    refine W.seq ?_
                    refine W.region ?_
                    refine WL.vS hS hE (runs_plain rfl) (Gives.p hE rfl) rfl ?_; clear hE a; intro a hE
                    refine WL.vS hS hE (runs_plain rfl) (Gives.p hE rfl) rfl ?_; clear hE a; intro a hE
                    refine WL.nil ?_
                    refine W.seq ?_
                    refine W.region ?_
                    refine WL.vS hS hE (runs_plain rfl) (Gives.p hE rfl) rfl ?_; clear hE a; intro a hE
                    refine WL.nil ?_
                    refine W.seq ?_
                    refine W.seq ?_
                    refine W.region ?_
                    refine WL.vS hS hE (runs_plain rfl) (Gives.fld hE rfl fl25_2) rfl ?_; clear hE a; intro a hE
                    refine WL.vS hS hE (runs_plain rfl) (Gives.loadB hE 1 rfl rfl rfl ty23) rfl ?_; clear hE a; intro a hE
                    refine WL.vS hS hE (runs_plain rfl) (Gives.len hE rfl sl23) rfl ?_; clear hE a; intro a hE
                    refine WL.vS hS hE (runs_plain rfl) (Gives.p hE rfl) rfl ?_; clear hE a; intro a hE
                    refine WL.nil ?_
                    obtain ⟨q159, hq158, hq140⟩ := bindS hq140
                    refine W.cut (fun a w => ∃ (q169 : Bool), q169 = q159 ∧ Rep a 138 [(1, .pointer (some ⟨b51, 0, none⟩)), (3, .int .i64 ((x0.Plan).length : Int)), (8, .slice (some ⟨b118, 0, none⟩) x116.length x116.length), (9, .int .i64 ((k142 : Nat) : Int)), (10, .bool q169), (90, .int .i64 ((x0.Plan).length : Int)), (91, .int .i64 ((k124 : Nat) : Int)), (93, .int .i64 ((x0.Plan).length : Int)), (94, .int .i64 ((k142 : Nat) : Int))] ∧ St w s (vecC 4 1 (some ⟨b118, 0, none⟩) x116.length x116.length cs155 :: pt b51 (.cells #[.int .i64 x0.Period, .slice a0_0 x0.Plan.length c0_0, .slice a0_1 x0.Links.length c0_1] 25 (0, 0)) :: R)) ?_ ?_
                    · refine W.block ?_
                      refine W.loop (fun m a w => ∃ (rest162 : List MendLink) (k160 : Nat), ∃ (q169 : Bool), rest162.length = m ∧ x0.Links.drop k160 = rest162 ∧ Fishref2RoundFault.loop5 q151 k142 rest162 q169 = some q159 ∧ Rep a 138 [(1, .pointer (some ⟨b51, 0, none⟩)), (3, .int .i64 ((x0.Plan).length : Int)), (8, .slice (some ⟨b118, 0, none⟩) x116.length x116.length), (9, .int .i64 ((k142 : Nat) : Int)), (10, .bool q169), (90, .int .i64 ((x0.Plan).length : Int)), (91, .int .i64 ((k124 : Nat) : Int)), (93, .int .i64 ((x0.Plan).length : Int)), (94, .int .i64 ((k142 : Nat) : Int)), (98, .slice a0_1 x0.Links.length c0_1), (99, .int .i64 ((x0.Links).length : Int)), (100, .int .i64 ((k160 : Nat) : Int))] ∧ St w s (vecC 4 1 (some ⟨b118, 0, none⟩) x116.length x116.length cs155 :: pt b51 (.cells #[.int .i64 x0.Period, .slice a0_0 x0.Plan.length c0_0, .slice a0_1 x0.Links.length c0_1] 25 (0, 0)) :: R)) (m := x0.Links.length) ⟨x0.Links, 0, true, rfl, rfl, hq158, hE.pick _ ⟨rfl, rfl, rfl, rfl, rfl, rfl, rfl, rfl, rfl, rfl, rfl, rfl, trivial⟩, hS⟩ ?_
                      clear hE hS a w hq158; rintro m166 a w ⟨rest162, k160, q169, rfl, hd163, hq158, hE, hS⟩
                      refine W.gen fun K170 hK170 => ?_
                      rcases rest162 with _ | ⟨x161, rest162⟩
                      · have hlt164 := drop_nil hd163
                        refine W.seq ?_
                        refine W.region ?_
                        refine WL.vS hS hE (runs_plain rfl) (Gives.p hE rfl) rfl ?_; clear hE a; intro a hE
                        refine WL.nil ?_
                        refine W.seq ?_
                        refine W.condF hE rfl (decide_eq_false (by omega)) ?_
                        subst hK170
                        refine W.exit rfl ?_
                        exact ⟨q169, Option.some.inj hq158, hE.pick _ ⟨rfl, rfl, rfl, rfl, rfl, rfl, rfl, rfl, rfl, trivial⟩, hS⟩
                      · obtain ⟨hlt164, hx165, hd163⟩ := drop_cons hd163
                        rw [Fishref2RoundFault.loop5] at hq158
                        refine W.seq ?_
                        refine W.region ?_
                        refine WL.vS hS hE (runs_plain rfl) (Gives.p hE rfl) rfl ?_; clear hE a; intro a hE
                        refine WL.nil ?_
                        refine W.seq ?_
                        refine W.condT hE rfl (decide_eq_true (by omega)) ?_
                        refine W.skip ?_
                        refine W.seq ?_
                        refine W.block ?_
                        refine W.seq ?_
                        refine W.region ?_
                        obtain ⟨cs171, hl172, hR173, hat174⟩ := h0_1.at hx165
                        subst hR173
                        refine WL.vS hS hE (runs_plain rfl) (Gives.idx hE k160 rfl rfl sl23 rfl hlt164 (h0_1.aok hlt164)) rfl ?_; clear hE a; intro a hE
                        refine WL.vS hS hE (runs_plain rfl) (Gives.loadA hE rfl (fun w h => hat174 w _ h) ty36) rfl ?_; clear hE a; intro a hE
                        refine WL.alloc hE hS (runs_plain rfl) zr36 rfl ?_; clear hE hS a w; intro b175 a w hE hS
                        refine WL.storeI hE hS 0 rfl (MendLink.cells x161) (runs_plain rfl) rfl rfl rfl ty36 rfl rfl rfl rfl ?_; clear hE hS a w; intro a w hE hS
                        refine WL.nil ?_
                        obtain ⟨q177, hq176, hq158⟩ := bindS hq158
                        refine W.cut (fun a w => ∃ (q180 : Bool), q180 = q177 ∧ Rep a 138 [(1, .pointer (some ⟨b51, 0, none⟩)), (3, .int .i64 ((x0.Plan).length : Int)), (8, .slice (some ⟨b118, 0, none⟩) x116.length x116.length), (9, .int .i64 ((k142 : Nat) : Int)), (10, .bool q180), (90, .int .i64 ((x0.Plan).length : Int)), (91, .int .i64 ((k124 : Nat) : Int)), (93, .int .i64 ((x0.Plan).length : Int)), (94, .int .i64 ((k142 : Nat) : Int)), (98, .slice a0_1 x0.Links.length c0_1), (99, .int .i64 ((x0.Links).length : Int)), (100, .int .i64 ((k160 : Nat) : Int))] ∧ St w s (pt b175 (.cells (MendLink.cells x161).toArray 36 (0, 0)) :: vecC 4 1 (some ⟨b118, 0, none⟩) x116.length x116.length cs155 :: pt b51 (.cells #[.int .i64 x0.Period, .slice a0_0 x0.Plan.length c0_0, .slice a0_1 x0.Links.length c0_1] 25 (0, 0)) :: R)) ?_ ?_
                        · refine W.gen fun K181 hK181 => ?_
                          refine W.region ?_
                          refine WL.vS hS hE (runs_plain rfl) (Gives.p hE rfl) rfl ?_; clear hE a; intro a hE
                          refine WL.vS hS hE (runs_plain rfl) (Gives.p hE rfl) rfl ?_; clear hE a; intro a hE
                          rcases Bool.eq_false_or_eq_true q169 with hg182 | hg182
                          · replace hq176 := iteT hg182 hq176
                            refine WL.vS hS hE (runs_if hE rfl rfl rfl hg182) (Gives.fld hE rfl fl36_3) rfl ?_; clear hE a; intro a hE
                            refine WL.vS hS hE (runs_if hE rfl rfl rfl hg182) (Gives.loadB hE 0 rfl rfl rfl ty3) rfl ?_; clear hE a; intro a hE
                            refine WL.vS hS hE (runs_if hE rfl rfl rfl hg182) (Gives.p hE rfl) rfl ?_; clear hE a; intro a hE
                            refine WL.vS hS hE (runs_if hE rfl rfl rfl hg182) (Gives.p hE rfl) rfl ?_; clear hE a; intro a hE
                            rcases Bool.eq_false_or_eq_true (decide (x161.Back > 0)) with hg183 | hg183
                            · replace hq176 := iteT hg183 hq176
                              refine WL.no hE (runs_not hE rfl rfl rfl (by rw [hg183]; decide)) rfl ?_; clear hE a; intro a hE
                              refine WL.no hE (runs_not hE rfl rfl rfl (by rw [hg183]; decide)) rfl ?_; clear hE a; intro a hE
                              refine WL.no hE (runs_not hE rfl rfl rfl (by rw [hg183]; decide)) rfl ?_; clear hE a; intro a hE
                              refine WL.no hE (runs_not hE rfl rfl rfl (by rw [hg183]; decide)) rfl ?_; clear hE a; intro a hE
                              refine WL.vS hS hE (runs_if hE rfl rfl rfl hg182) (Gives.pickT hE rfl hg183 rfl) rfl ?_; clear hE a; intro a hE
                              refine WL.vS hS hE (runs_if hE rfl rfl rfl hg182) (Gives.p hE rfl) rfl ?_; clear hE a; intro a hE
                              refine WL.no hE (runs_not hE rfl rfl rfl (by decide)) rfl ?_; clear hE a; intro a hE
                              refine WL.no hE (runs_not hE rfl rfl rfl (by decide)) rfl ?_; clear hE a; intro a hE
                              refine WL.no hE (runs_not hE rfl rfl rfl (by decide)) rfl ?_; clear hE a; intro a hE
                              refine WL.no hE (runs_not hE rfl rfl rfl (by decide)) rfl ?_; clear hE a; intro a hE
                              refine WL.no hE (runs_not hE rfl rfl rfl (by decide)) rfl ?_; clear hE a; intro a hE
                              refine WL.vS hS hE (runs_if hE rfl rfl rfl hg182) (Gives.pickT hE rfl rfl rfl) rfl ?_; clear hE a; intro a hE
                              refine WL.vS hS hE (runs_plain rfl) (Gives.pickT hE rfl hg182 rfl) rfl ?_; clear hE a; intro a hE
                              refine WL.vS hS hE (runs_plain rfl) (Gives.p hE rfl) rfl ?_; clear hE a; intro a hE
                              refine WL.nil ?_
                              subst hK181
                              exact ⟨true, Option.some.inj hq176, hE.pick _ ⟨rfl, rfl, rfl, rfl, rfl, rfl, rfl, rfl, rfl, rfl, rfl, rfl, trivial⟩, hS⟩
                            · replace hq176 := iteF hg183 hq176
                              refine WL.vS hS hE (runs_if hE rfl rfl rfl hg183) (Gives.fld hE rfl fl36_1) rfl ?_; clear hE a; intro a hE
                              refine WL.vS hS hE (runs_if hE rfl rfl rfl hg183) (Gives.loadB hE 0 rfl rfl rfl ty3) rfl ?_; clear hE a; intro a hE
                              refine WL.vS hS hE (runs_if hE rfl rfl rfl hg183) (Gives.p hE rfl) rfl ?_; clear hE a; intro a hE
                              refine WL.vS hS hE (runs_if hE rfl rfl rfl hg183) (Gives.p hE rfl) rfl ?_; clear hE a; intro a hE
                              refine WL.vS hS hE (runs_if hE rfl rfl rfl hg182) (Gives.pickF hE rfl hg183 rfl) rfl ?_; clear hE a; intro a hE
                              refine WL.vS hS hE (runs_if hE rfl rfl rfl hg182) (Gives.p hE rfl) rfl ?_; clear hE a; intro a hE
                              rcases Bool.eq_false_or_eq_true (x161.To != ((k142 : Nat) : Int)) with hg184 | hg184
                              · replace hq176 := iteT hg184 hq176
                                refine WL.no hE (runs_not hE rfl rfl rfl (by rw [hg184]; decide)) rfl ?_; clear hE a; intro a hE
                                refine WL.no hE (runs_not hE rfl rfl rfl (by rw [hg184]; decide)) rfl ?_; clear hE a; intro a hE
                                refine WL.no hE (runs_not hE rfl rfl rfl (by rw [hg184]; decide)) rfl ?_; clear hE a; intro a hE
                                refine WL.no hE (runs_not hE rfl rfl rfl (by rw [hg184]; decide)) rfl ?_; clear hE a; intro a hE
                                refine WL.no hE (runs_not hE rfl rfl rfl (by rw [hg184]; decide)) rfl ?_; clear hE a; intro a hE
                                refine WL.vS hS hE (runs_if hE rfl rfl rfl hg182) (Gives.pickT hE rfl hg184 rfl) rfl ?_; clear hE a; intro a hE
                                refine WL.vS hS hE (runs_plain rfl) (Gives.pickT hE rfl hg182 rfl) rfl ?_; clear hE a; intro a hE
                                refine WL.vS hS hE (runs_plain rfl) (Gives.p hE rfl) rfl ?_; clear hE a; intro a hE
                                refine WL.nil ?_
                                subst hK181
                                exact ⟨true, Option.some.inj hq176, hE.pick _ ⟨rfl, rfl, rfl, rfl, rfl, rfl, rfl, rfl, rfl, rfl, rfl, rfl, trivial⟩, hS⟩
                              · replace hq176 := iteF hg184 hq176
                                refine WL.vS hS hE (runs_if hE rfl rfl rfl hg184) (Gives.p hE rfl) rfl ?_; clear hE a; intro a hE
                                refine WL.vS hS hE (runs_if hE rfl rfl rfl hg184) (Gives.fld hE rfl fl36_0) rfl ?_; clear hE a; intro a hE
                                refine WL.vS hS hE (runs_if hE rfl rfl rfl hg184) (Gives.loadB hE 0 rfl rfl rfl ty3) rfl ?_; clear hE a; intro a hE
                                obtain ⟨x185, hx186, hq176⟩ := bindS hq176
                                obtain ⟨hi187, hlt188, hy189⟩ := gx_some hx186
                                obtain ⟨vs190, hl191, hR192, hd193, hget194⟩ := h154.at hy189
                                subst hR192
                                refine WL.vS hS hE (runs_if hE rfl rfl rfl hg184) (Gives.idx hE ((x161.From).toNat) rfl rfl sl82 hi187 (by have := hn156; omega) (hS.vecAok 1 rfl (by have := hn156; omega : (x161.From).toNat < x116.length))) rfl ?_; clear hE a; intro a hE
                                refine WL.vS hS hE (runs_if hE rfl rfl rfl hg184) (Gives.load1 hE rfl (fun w h => St.vecSees h 1 rfl ((x161.From).toNat * 1) _ hget194) ty4) rfl ?_; clear hE a; intro a hE
                                refine WL.vS hS hE (runs_if hE rfl rfl rfl hg182) (Gives.pickF hE rfl hg184 rfl) rfl ?_; clear hE a; intro a hE
                                refine WL.vS hS hE (runs_plain rfl) (Gives.pickT hE rfl hg182 rfl) rfl ?_; clear hE a; intro a hE
                                refine WL.vS hS hE (runs_plain rfl) (Gives.p hE rfl) rfl ?_; clear hE a; intro a hE
                                refine WL.nil ?_
                                subst hK181
                                exact ⟨x185, Option.some.inj hq176, hE.pick _ ⟨rfl, rfl, rfl, rfl, rfl, rfl, rfl, rfl, rfl, rfl, rfl, rfl, trivial⟩, hS⟩
                          · replace hq176 := iteF hg182 hq176
                            refine WL.no hE (runs_not hE rfl rfl rfl (by rw [hg182]; decide)) rfl ?_; clear hE a; intro a hE
                            refine WL.no hE (runs_not hE rfl rfl rfl (by rw [hg182]; decide)) rfl ?_; clear hE a; intro a hE
                            refine WL.no hE (runs_not hE rfl rfl rfl (by rw [hg182]; decide)) rfl ?_; clear hE a; intro a hE
                            refine WL.no hE (runs_not hE rfl rfl rfl (by rw [hg182]; decide)) rfl ?_; clear hE a; intro a hE
                            refine WL.no hE (runs_undef hE rfl rfl rfl) rfl ?_; clear hE a; intro a hE
                            refine WL.no hE (runs_undef hE rfl rfl rfl) rfl ?_; clear hE a; intro a hE
                            refine WL.no hE (runs_undef hE rfl rfl rfl) rfl ?_; clear hE a; intro a hE
                            refine WL.no hE (runs_undef hE rfl rfl rfl) rfl ?_; clear hE a; intro a hE
                            refine WL.no hE (runs_not hE rfl rfl rfl (by rw [hg182]; decide)) rfl ?_; clear hE a; intro a hE
                            refine WL.no hE (runs_not hE rfl rfl rfl (by rw [hg182]; decide)) rfl ?_; clear hE a; intro a hE
                            refine WL.no hE (runs_undef hE rfl rfl rfl) rfl ?_; clear hE a; intro a hE
                            refine WL.no hE (runs_undef hE rfl rfl rfl) rfl ?_; clear hE a; intro a hE
                            refine WL.no hE (runs_undef hE rfl rfl rfl) rfl ?_; clear hE a; intro a hE
                            refine WL.no hE (runs_undef hE rfl rfl rfl) rfl ?_; clear hE a; intro a hE
                            refine WL.no hE (runs_undef hE rfl rfl rfl) rfl ?_; clear hE a; intro a hE
                            refine WL.no hE (runs_not hE rfl rfl rfl (by rw [hg182]; decide)) rfl ?_; clear hE a; intro a hE
                            refine WL.vS hS hE (runs_plain rfl) (Gives.pickF hE rfl hg182 rfl) rfl ?_; clear hE a; intro a hE
                            refine WL.vS hS hE (runs_plain rfl) (Gives.p hE rfl) rfl ?_; clear hE a; intro a hE
                            refine WL.nil ?_
                            subst hK181
                            exact ⟨false, Option.some.inj hq176, hE.pick _ ⟨rfl, rfl, rfl, rfl, rfl, rfl, rfl, rfl, rfl, rfl, rfl, rfl, trivial⟩, hS⟩
                        · clear hE hS a w; rintro a w ⟨q180, rfl, hE, hS⟩
                          refine W.region ?_
                          refine WL.vS hS hE (runs_plain rfl) (Gives.inc hE rfl (by have := h0_1.small; omega)) rfl ?_; clear hE a; intro a hE
                          refine WL.vS hS hE (runs_plain rfl) (Gives.p hE rfl) rfl ?_; clear hE a; intro a hE
                          refine WL.nil ?_
                          replace hS := hS.tail
                          subst hK170
                          exact ⟨rest162.length, Nat.lt_succ_self _, rest162, k160 + 1, q180, rfl, hd163, hq158, hE.pick _ ⟨rfl, rfl, rfl, rfl, rfl, rfl, rfl, rfl, rfl, rfl, rfl, rfl, trivial⟩, hS⟩
                    · clear hE hS a w; rintro a w ⟨q169, rfl, hE, hS⟩
                      obtain ⟨q196, hq195, hq140⟩ := bindS hq140
                      refine W.cut (fun a w => ∃ (q199 : List Bool), ∃ (cs203 : List Value), q199 = q196 ∧ Ev 1 RB s cs203 q199 ∧ q199.length = x116.length ∧ Rep a 138 [(1, .pointer (some ⟨b51, 0, none⟩)), (3, .int .i64 ((x0.Plan).length : Int)), (8, .slice (some ⟨b118, 0, none⟩) x116.length x116.length), (90, .int .i64 ((x0.Plan).length : Int)), (91, .int .i64 ((k124 : Nat) : Int)), (93, .int .i64 ((x0.Plan).length : Int)), (94, .int .i64 ((k142 : Nat) : Int))] ∧ St w s (vecC 4 1 (some ⟨b118, 0, none⟩) x116.length x116.length cs203 :: pt b51 (.cells #[.int .i64 x0.Period, .slice a0_0 x0.Plan.length c0_0, .slice a0_1 x0.Links.length c0_1] 25 (0, 0)) :: R)) ?_ ?_
                      · refine W.gen fun K205 hK205 => ?_
                        refine W.region ?_
                        refine WL.vS hS hE (runs_plain rfl) (Gives.p hE rfl) rfl ?_; clear hE a; intro a hE
                        refine WL.vS hS hE (runs_plain rfl) (Gives.p hE rfl) rfl ?_; clear hE a; intro a hE
                        refine WL.vS hS hE (runs_plain rfl) (Gives.p hE rfl) rfl ?_; clear hE a; intro a hE
                        refine WL.vS hS hE (runs_plain rfl) (Gives.p hE rfl) rfl ?_; clear hE a; intro a hE
                        obtain ⟨x206, hx207, hq195⟩ := bindS hq195
                        obtain ⟨hi208, hlt209, hy210⟩ := gx_some hx207
                        obtain ⟨vs211, hl212, hR213, hd214, hget215⟩ := h154.at hy210
                        subst hR213
                        refine WL.vS hS hE (runs_plain rfl) (Gives.idx hE ((((k142 : Nat) : Int)).toNat) rfl rfl sl82 hi208 (by have := hn156; omega) (hS.vecAok 0 rfl (by have := hn156; omega : (((k142 : Nat) : Int)).toNat < x116.length))) rfl ?_; clear hE a; intro a hE
                        refine WL.vS hS hE (runs_plain rfl) (Gives.load1 hE rfl (fun w h => St.vecSees h 0 rfl ((((k142 : Nat) : Int)).toNat * 1) _ hget215) ty4) rfl ?_; clear hE a; intro a hE
                        refine WL.vS hS hE (runs_plain rfl) (Gives.p hE rfl) rfl ?_; clear hE a; intro a hE
                        rcases Bool.eq_false_or_eq_true x206 with hg216 | hg216
                        · replace hq195 := iteT hg216 hq195
                          refine WL.no hE (runs_not hE rfl rfl rfl (by rw [hg216]; decide)) rfl ?_; clear hE a; intro a hE
                          refine WL.vS hS hE (runs_plain rfl) (Gives.pickT hE rfl hg216 rfl) rfl ?_; clear hE a; intro a hE
                          obtain ⟨_, hx218, hq195⟩ := bindS hq195
                          obtain ⟨h219, h220⟩ := ix_some hx218
                          refine WL.vS hS hE (runs_plain rfl) (Gives.idx hE ((((k142 : Nat) : Int)).toNat) rfl rfl sl82 h219 (by have := hn156; omega) (hS.vecAok 0 rfl (by have := hn156; omega : (((k142 : Nat) : Int)).toNat < x116.length))) rfl ?_; clear hE a; intro a hE
                          obtain ⟨x222, hx223, hq195⟩ := bindS hq195
                          refine WL.setD hE hS 0 rfl (runs_plain rfl) rfl rfl (vs := [.bool true]) rfl ty4 rfl rfl rfl h154 hn156 (sx_some hx223).1 hx223 rfl rfl ?_; clear hE hS a w; intro cs224 a w h225 hn226 hE hS
                          refine WL.nil ?_
                          subst hK205
                          exact ⟨x222, cs224, Option.some.inj hq195, h225, hn226, hE.pick _ ⟨rfl, rfl, rfl, rfl, rfl, rfl, rfl, trivial⟩, hS⟩
                        · replace hq195 := iteF hg216 hq195
                          refine WL.vS hS hE (runs_if hE rfl rfl rfl hg216) (Gives.p hE rfl) rfl ?_; clear hE a; intro a hE
                          refine WL.vS hS hE (runs_plain rfl) (Gives.pickF hE rfl hg216 rfl) rfl ?_; clear hE a; intro a hE
                          obtain ⟨_, hx228, hq195⟩ := bindS hq195
                          obtain ⟨h229, h230⟩ := ix_some hx228
                          refine WL.vS hS hE (runs_plain rfl) (Gives.idx hE ((((k142 : Nat) : Int)).toNat) rfl rfl sl82 h229 (by have := hn156; omega) (hS.vecAok 0 rfl (by have := hn156; omega : (((k142 : Nat) : Int)).toNat < x116.length))) rfl ?_; clear hE a; intro a hE
                          obtain ⟨x232, hx233, hq195⟩ := bindS hq195
                          refine WL.setD hE hS 0 rfl (runs_plain rfl) rfl rfl (vs := [.bool q169]) rfl ty4 rfl rfl rfl h154 hn156 (sx_some hx233).1 hx233 rfl rfl ?_; clear hE hS a w; intro cs234 a w h235 hn236 hE hS
                          refine WL.nil ?_
                          subst hK205
                          exact ⟨x232, cs234, Option.some.inj hq195, h235, hn236, hE.pick _ ⟨rfl, rfl, rfl, rfl, rfl, rfl, rfl, trivial⟩, hS⟩
                      · clear hE hS a w; rintro a w ⟨q199, cs203, rfl, h202, hn204, hE, hS⟩
                        refine W.region ?_
                        refine WL.vS hS hE (runs_plain rfl) (Gives.inc hE rfl (by have := h0_0.small; omega)) rfl ?_; clear hE a; intro a hE
                        refine WL.vS hS hE (runs_plain rfl) (Gives.p hE rfl) rfl ?_; clear hE a; intro a hE
                        refine WL.nil ?_
                        subst hK157
                        exact ⟨rest144.length, Nat.lt_succ_self _, rest144, k142 + 1, q199, cs203, rfl, hd145, hq140, h202, hn204, hE.pick _ ⟨rfl, rfl, rfl, rfl, rfl, rfl, rfl, trivial⟩, hS⟩
                · clear hE hS a w; rintro a w ⟨q151, cs155, rfl, h154, hn156, hE, hS⟩
                  refine W.region ?_
                  refine WL.vS hS hE (runs_plain rfl) (Gives.inc hE rfl (by have := h0_0.small; omega)) rfl ?_; clear hE a; intro a hE
                  refine WL.vS hS hE (runs_plain rfl) (Gives.p hE rfl) rfl ?_; clear hE a; intro a hE
                  refine WL.nil ?_
                  subst hK139
                  exact ⟨rest126.length, Nat.lt_succ_self _, rest126, k124 + 1, q151, cs155, rfl, hd127, hq122, h154, hn156, hE.pick _ ⟨rfl, rfl, rfl, rfl, rfl, trivial⟩, hS⟩
            · clear hE hS a w; rintro a w ⟨q133, cs137, rfl, h136, hn138, hE, hS⟩
              refine W.seq ?_
              refine W.seq ?_
              refine W.region ?_
              refine WL.vS hS hE (runs_plain rfl) (Gives.p hE rfl) rfl ?_; clear hE a; intro a hE
              have hF := hS.lendV RB.mono 0 rfl h136 hn138; clear hS; obtain ⟨t237, hle238, hS, hs239, bk240⟩ := hF
              refine WL.fnq hE ((by have hc_ := SlicesContainsLbool_ok hS hs239 rfl (r := SlicesContainsLbool q133 false); rw [hn138] at hc_; exact hc_)) (runs_plain rfl) bd53 rfl rfl rfl ?_
              clear hE hS; rintro e w ⟨rfl, hS⟩; refine ⟨_, rfl, ?_⟩; clear a; intro a hE
              replace hS := bk240 _ _ hS
              refine WL.nil ?_
              refine W.cond hE rfl (fun hc241 => ?_) (fun hc241 => ?_)
              · replace hr := iteT hc241 hr
                refine W.seq ?_
                refine W.region ?_
                refine WL.vS hS hE (runs_plain rfl) (Gives.p hE rfl) rfl ?_; clear hE a; intro a hE
                refine WL.nil ?_
                refine W.ret ?_
                refine finG (fn := Try.f14) (rs := [.tmp 2]) (vs := [_]) hE rfl ⟨rfl, trivial⟩ ?_
                obtain rfl := Option.some.inj hr
                replace hS := hS.tail
                replace hS := hS.tail
                exact ⟨rfl, hS⟩
              · replace hr := iteF hc241 hr
                refine W.skip ?_
                refine W.seq ?_
                refine W.region ?_
                refine WL.vS hS hE (runs_plain rfl) (Gives.p hE rfl) rfl ?_; clear hE a; intro a hE
                refine WL.nil ?_
                refine W.ret ?_
                refine finG (fn := Try.f14) (rs := [.tmp 2]) (vs := [_]) hE rfl ⟨rfl, trivial⟩ ?_
                obtain rfl := Option.some.inj hr
                replace hS := hS.tail
                replace hS := hS.tail
                exact ⟨rfl, hS⟩
set_option maxHeartbeats 8000000 in
theorem Fishlaw2firstsFault_ok  {w : World} {s : Sg} {R : List HP} {x0 : MendRound} {a0_0 : Option Addr} {c0_0 : Nat} {a0_1 : Option Addr} {c0_1 : Nat} {x1 : List MendFirst} {a1 : Option Addr} {c1 : Nat} {x2 : Int} (hS : St w s (R)) (_h0_0 : Sl 1 (RI .i64) s a0_0 c0_0 x0.Plan) (_h0_1 : Sl 4 RMendLink s a0_1 c0_1 x0.Links) (h1 : Sl 3 RMendFirst s a1 c1 x1) {r : Int} (hr : Fishlaw2firstsFault x0 x1 x2 = r) :
    Calls Try.prog 20 [.agg [.int .i64 x0.Period, .slice a0_0 x0.Plan.length c0_0, .slice a0_1 x0.Links.length c0_1].toArray, .slice a1 x1.length c1, .int .i64 x2].toArray w (fun e w => e = .returned (.int .i64 r) ∧ St w s (R)) := by
  refine enter Try.func20 rfl rfl rfl fun a hE => ?_
  rw [Fishlaw2firstsFault] at hr
  refine W.seq ?_
  refine W.region ?_
  refine WL.box hE hS (runs_plain rfl) rfl rfl rfl ?_; clear hE hS a w; intro b51 a w hE hS
  refine WL.vS hS hE (runs_plain rfl) (Gives.p hE rfl) rfl ?_; clear hE a; intro a hE
  refine WL.nil ?_
  refine W.seq ?_
  refine W.block ?_
  refine W.seq ?_
  obtain ⟨q53, hq52, hr⟩ := bndS hr
  refine W.cut (fun a w => ∃ (q56 : Bool), q56 = q53 ∧ Rep a 56 [(1, .slice a1 x1.length c1), (3, .pointer (some ⟨b51, 0, none⟩)), (9, .bool q56)] ∧ St w s (pt b51 (.cells #[.int .i64 x0.Period, .slice a0_0 x0.Plan.length c0_0, .slice a0_1 x0.Links.length c0_1] 25 (0, 0)) :: R)) ?_ ?_
  · refine W.gen fun K57 hK57 => ?_
    refine W.region ?_
    refine WL.vS hS hE (runs_plain rfl) (Gives.p hE rfl) rfl ?_; clear hE a; intro a hE
    refine WL.vS hS hE (runs_plain rfl) (Gives.p hE rfl) rfl ?_; clear hE a; intro a hE
    refine WL.vS hS hE (runs_plain rfl) (Gives.p hE rfl) rfl ?_; clear hE a; intro a hE
    rcases Bool.eq_false_or_eq_true (decide (x2 < 0)) with hg58 | hg58
    · replace hq52 := iteT hg58 hq52
      refine WL.no hE (runs_not hE rfl rfl rfl (by rw [hg58]; decide)) rfl ?_; clear hE a; intro a hE
      refine WL.no hE (runs_not hE rfl rfl rfl (by rw [hg58]; decide)) rfl ?_; clear hE a; intro a hE
      refine WL.vS hS hE (runs_plain rfl) (Gives.pickT hE rfl hg58 rfl) rfl ?_; clear hE a; intro a hE
      refine WL.vS hS hE (runs_plain rfl) (Gives.p hE rfl) rfl ?_; clear hE a; intro a hE
      refine WL.nil ?_
      subst hK57
      exact ⟨true, hq52, hE.pick _ ⟨rfl, rfl, rfl, trivial⟩, hS⟩
    · replace hq52 := iteF hg58 hq52
      refine WL.vS hS hE (runs_if hE rfl rfl rfl hg58) (Gives.p hE rfl) rfl ?_; clear hE a; intro a hE
      refine WL.vS hS hE (runs_if hE rfl rfl rfl hg58) (Gives.p hE rfl) rfl ?_; clear hE a; intro a hE
      refine WL.vS hS hE (runs_plain rfl) (Gives.pickF hE rfl hg58 rfl) rfl ?_; clear hE a; intro a hE
      refine WL.vS hS hE (runs_plain rfl) (Gives.p hE rfl) rfl ?_; clear hE a; intro a hE
      refine WL.nil ?_
      subst hK57
      exact ⟨decide (x2 > 60), hq52, hE.pick _ ⟨rfl, rfl, rfl, trivial⟩, hS⟩
  · clear hE hS a w; rintro a w ⟨q56, rfl, hE, hS⟩
    refine W.cond hE rfl (fun hc59 => ?_) (fun hc59 => ?_)
    · replace hr := iteT hc59 hr
      refine W.seq ?_
      refine W.region ?_
      refine WL.vS hS hE (runs_plain rfl) (Gives.p hE rfl) rfl ?_; clear hE a; intro a hE
      refine WL.nil ?_
      refine W.ret ?_
      refine finG (fn := Try.f20) (rs := [.tmp 6]) (vs := [_]) hE rfl ⟨rfl, trivial⟩ ?_
      subst hr
      replace hS := hS.tail
      exact ⟨rfl, hS⟩
    · replace hr := iteF hc59 hr
      refine W.seq ?_
      refine W.region ?_
      refine WL.vS hS hE (runs_plain rfl) (Gives.p hE rfl) rfl ?_; clear hE a; intro a hE
      refine WL.vS hS hE (runs_plain rfl) (Gives.len hE rfl sl39) rfl ?_; clear hE a; intro a hE
      refine WL.vS hS hE (runs_plain rfl) (Gives.p hE rfl) rfl ?_; clear hE a; intro a hE
      refine WL.vS hS hE (runs_plain rfl) (Gives.p hE rfl) rfl ?_; clear hE a; intro a hE
      refine WL.nil ?_
      refine W.cond hE rfl (fun hc60 => ?_) (fun hc60 => ?_)
      · replace hr := iteT hc60 hr
        refine W.seq ?_
        refine W.region ?_
        refine WL.vS hS hE (runs_plain rfl) (Gives.p hE rfl) rfl ?_; clear hE a; intro a hE
        refine WL.nil ?_
        refine W.ret ?_
        refine finG (fn := Try.f20) (rs := [.tmp 6]) (vs := [_]) hE rfl ⟨rfl, trivial⟩ ?_
        subst hr
        replace hS := hS.tail
        exact ⟨rfl, hS⟩
      · replace hr := iteF hc60 hr
        refine W.skip ?_
        refine W.seq ?_
        refine W.seq ?_
        refine W.region ?_
        refine WL.vS hS hE (runs_plain rfl) (Gives.p hE rfl) rfl ?_; clear hE a; intro a hE
        refine WL.vS hS hE (runs_plain rfl) (Gives.len hE rfl sl39) rfl ?_; clear hE a; intro a hE
        refine WL.vS hS hE (runs_plain rfl) (Gives.p hE rfl) rfl ?_; clear hE a; intro a hE
        refine WL.nil ?_
        obtain ⟨q62, hq61, hr⟩ := bndS hr
        refine W.cut (fun a w => (.next ()) = q62 ∧ Rep a 56 [] ∧ St w s (pt b51 (.cells #[.int .i64 x0.Period, .slice a0_0 x0.Plan.length c0_0, .slice a0_1 x0.Links.length c0_1] 25 (0, 0)) :: R)) ?_ ?_
        · refine W.block ?_
          refine W.loop (fun m a w => ∃ (rest65 : List MendFirst) (k63 : Nat), rest65.length = m ∧ x1.drop k63 = rest65 ∧ Fishlaw2firstsFault.loop1 x0 rest65 = q62 ∧ Rep a 56 [(3, .pointer (some ⟨b51, 0, none⟩)), (20, .slice a1 x1.length c1), (21, .int .i64 ((x1).length : Int)), (22, .int .i64 ((k63 : Nat) : Int))] ∧ St w s (pt b51 (.cells #[.int .i64 x0.Period, .slice a0_0 x0.Plan.length c0_0, .slice a0_1 x0.Links.length c0_1] 25 (0, 0)) :: R)) (m := x1.length) ⟨x1, 0, rfl, rfl, hq61, hE.pick _ ⟨rfl, rfl, rfl, rfl, trivial⟩, hS⟩ ?_
          clear hE hS a w hq61; rintro m69 a w ⟨rest65, k63, rfl, hd66, hq61, hE, hS⟩
          refine W.gen fun K72 hK72 => ?_
          rcases rest65 with _ | ⟨x64, rest65⟩
          · have hlt67 := drop_nil hd66
            refine W.seq ?_
            refine W.region ?_
            refine WL.vS hS hE (runs_plain rfl) (Gives.p hE rfl) rfl ?_; clear hE a; intro a hE
            refine WL.nil ?_
            refine W.seq ?_
            refine W.condF hE rfl (decide_eq_false (by omega)) ?_
            subst hK72
            refine W.exit rfl ?_
            exact ⟨hq61, hE.pick _ trivial, hS⟩
          · obtain ⟨hlt67, hx68, hd66⟩ := drop_cons hd66
            rw [Fishlaw2firstsFault.loop1] at hq61
            refine W.seq ?_
            refine W.region ?_
            refine WL.vS hS hE (runs_plain rfl) (Gives.p hE rfl) rfl ?_; clear hE a; intro a hE
            refine WL.nil ?_
            refine W.seq ?_
            refine W.condT hE rfl (decide_eq_true (by omega)) ?_
            refine W.skip ?_
            refine W.seq ?_
            refine W.block ?_
            refine W.seq ?_
            refine W.region ?_
            obtain ⟨cs73, hl74, hR75, hat76⟩ := h1.at hx68
            subst hR75
            refine WL.vS hS hE (runs_plain rfl) (Gives.idx hE k63 rfl rfl sl39 rfl hlt67 (h1.aok hlt67)) rfl ?_; clear hE a; intro a hE
            refine WL.vS hS hE (runs_plain rfl) (Gives.loadA hE rfl (fun w h => hat76 w _ h) ty90) rfl ?_; clear hE a; intro a hE
            refine WL.alloc hE hS (runs_plain rfl) zr90 rfl ?_; clear hE hS a w; intro b77 a w hE hS
            refine WL.storeI hE hS 0 rfl (MendFirst.cells x64) (runs_plain rfl) rfl rfl rfl ty90 rfl rfl rfl rfl ?_; clear hE hS a w; intro a w hE hS
            refine WL.nil ?_
            refine W.seq ?_
            refine W.seq ?_
            obtain ⟨q79, hq78, hq61⟩ := bndS hq61
            refine W.cut (fun a w => ∃ (q82 : Bool), q82 = q79 ∧ Rep a 56 [(3, .pointer (some ⟨b51, 0, none⟩)), (8, .pointer (some ⟨b77, 0, none⟩)), (20, .slice a1 x1.length c1), (21, .int .i64 ((x1).length : Int)), (22, .int .i64 ((k63 : Nat) : Int)), (36, .bool q82)] ∧ St w s (pt b77 (.cells (MendFirst.cells x64).toArray 90 (0, 0)) :: pt b51 (.cells #[.int .i64 x0.Period, .slice a0_0 x0.Plan.length c0_0, .slice a0_1 x0.Links.length c0_1] 25 (0, 0)) :: R)) ?_ ?_
            · refine W.gen fun K83 hK83 => ?_
              refine W.region ?_
              refine WL.vS hS hE (runs_plain rfl) (Gives.fld hE rfl fl90_0) rfl ?_; clear hE a; intro a hE
              refine WL.vS hS hE (runs_plain rfl) (Gives.loadB hE 0 rfl rfl rfl ty3) rfl ?_; clear hE a; intro a hE
              refine WL.vS hS hE (runs_plain rfl) (Gives.p hE rfl) rfl ?_; clear hE a; intro a hE
              refine WL.vS hS hE (runs_plain rfl) (Gives.p hE rfl) rfl ?_; clear hE a; intro a hE
              rcases Bool.eq_false_or_eq_true (decide (x64.Event < 0)) with hg84 | hg84
              · replace hq78 := iteT hg84 hq78
                refine WL.no hE (runs_not hE rfl rfl rfl (by rw [hg84]; decide)) rfl ?_; clear hE a; intro a hE
                refine WL.no hE (runs_not hE rfl rfl rfl (by rw [hg84]; decide)) rfl ?_; clear hE a; intro a hE
                refine WL.no hE (runs_not hE rfl rfl rfl (by rw [hg84]; decide)) rfl ?_; clear hE a; intro a hE
                refine WL.no hE (runs_not hE rfl rfl rfl (by rw [hg84]; decide)) rfl ?_; clear hE a; intro a hE
                refine WL.no hE (runs_not hE rfl rfl rfl (by rw [hg84]; decide)) rfl ?_; clear hE a; intro a hE
                refine WL.no hE (runs_not hE rfl rfl rfl (by rw [hg84]; decide)) rfl ?_; clear hE a; intro a hE
                refine WL.vS hS hE (runs_plain rfl) (Gives.pickT hE rfl hg84 rfl) rfl ?_; clear hE a; intro a hE
                refine WL.nil ?_
                subst hK83
                exact ⟨true, hq78, hE.pick _ ⟨rfl, rfl, rfl, rfl, rfl, rfl, trivial⟩, hS⟩
              · replace hq78 := iteF hg84 hq78
                refine WL.vS hS hE (runs_if hE rfl rfl rfl hg84) (Gives.fld hE rfl fl90_0) rfl ?_; clear hE a; intro a hE
                refine WL.vS hS hE (runs_if hE rfl rfl rfl hg84) (Gives.loadB hE 0 rfl rfl rfl ty3) rfl ?_; clear hE a; intro a hE
                refine WL.vS hS hE (runs_if hE rfl rfl rfl hg84) (Gives.fld hE rfl fl25_1) rfl ?_; clear hE a; intro a hE
                refine WL.vS hS hE (runs_if hE rfl rfl rfl hg84) (Gives.loadB hE 1 rfl rfl rfl ty22) rfl ?_; clear hE a; intro a hE
                refine WL.vS hS hE (runs_if hE rfl rfl rfl hg84) (Gives.len hE rfl sl22) rfl ?_; clear hE a; intro a hE
                refine WL.vS hS hE (runs_if hE rfl rfl rfl hg84) (Gives.p hE rfl) rfl ?_; clear hE a; intro a hE
                refine WL.vS hS hE (runs_plain rfl) (Gives.pickF hE rfl hg84 rfl) rfl ?_; clear hE a; intro a hE
                refine WL.nil ?_
                subst hK83
                exact ⟨decide (x64.Event ≥ ((x0.Plan).length : Int)), hq78, hE.pick _ ⟨rfl, rfl, rfl, rfl, rfl, rfl, trivial⟩, hS⟩
            · clear hE hS a w; rintro a w ⟨q82, rfl, hE, hS⟩
              refine W.cond hE rfl (fun hc85 => ?_) (fun hc85 => ?_)
              · replace hq61 := iteT hc85 hq61
                refine W.seq ?_
                refine W.region ?_
                refine WL.vS hS hE (runs_plain rfl) (Gives.p hE rfl) rfl ?_; clear hE a; intro a hE
                refine WL.nil ?_
                refine W.ret ?_
                subst hK72
                rw [← hq61] at hr
                dsimp only at hr
                refine finG (fn := Try.f20) (rs := [.tmp 6]) (vs := [_]) hE rfl ⟨rfl, trivial⟩ ?_
                subst hr
                replace hS := hS.tail
                replace hS := hS.tail
                exact ⟨rfl, hS⟩
              · replace hq61 := iteF hc85 hq61
                refine W.skip ?_
                refine W.seq ?_
                obtain ⟨q87, hq86, hq61⟩ := bndS hq61
                refine W.cut (fun a w => ∃ (q90 : Bool), q90 = q87 ∧ Rep a 56 [(3, .pointer (some ⟨b51, 0, none⟩)), (20, .slice a1 x1.length c1), (21, .int .i64 ((x1).length : Int)), (22, .int .i64 ((k63 : Nat) : Int)), (54, .bool q90)] ∧ St w s (pt b77 (.cells (MendFirst.cells x64).toArray 90 (0, 0)) :: pt b51 (.cells #[.int .i64 x0.Period, .slice a0_0 x0.Plan.length c0_0, .slice a0_1 x0.Links.length c0_1] 25 (0, 0)) :: R)) ?_ ?_
                · refine W.gen fun K91 hK91 => ?_
                  refine W.region ?_
                  refine WL.vS hS hE (runs_plain rfl) (Gives.fld hE rfl fl90_1) rfl ?_; clear hE a; intro a hE
                  refine WL.vS hS hE (runs_plain rfl) (Gives.loadB hE 0 rfl rfl rfl ty3) rfl ?_; clear hE a; intro a hE
                  refine WL.vS hS hE (runs_plain rfl) (Gives.p hE rfl) rfl ?_; clear hE a; intro a hE
                  refine WL.vS hS hE (runs_plain rfl) (Gives.p hE rfl) rfl ?_; clear hE a; intro a hE
                  rcases Bool.eq_false_or_eq_true (decide (x64.Period < 0)) with hg92 | hg92
                  · replace hq86 := iteT hg92 hq86
                    refine WL.no hE (runs_not hE rfl rfl rfl (by rw [hg92]; decide)) rfl ?_; clear hE a; intro a hE
                    refine WL.no hE (runs_not hE rfl rfl rfl (by rw [hg92]; decide)) rfl ?_; clear hE a; intro a hE
                    refine WL.no hE (runs_not hE rfl rfl rfl (by rw [hg92]; decide)) rfl ?_; clear hE a; intro a hE
                    refine WL.vS hS hE (runs_plain rfl) (Gives.pickT hE rfl hg92 rfl) rfl ?_; clear hE a; intro a hE
                    refine WL.vS hS hE (runs_plain rfl) (Gives.p hE rfl) rfl ?_; clear hE a; intro a hE
                    refine WL.no hE (runs_not hE rfl rfl rfl (by decide)) rfl ?_; clear hE a; intro a hE
                    refine WL.no hE (runs_not hE rfl rfl rfl (by decide)) rfl ?_; clear hE a; intro a hE
                    refine WL.no hE (runs_not hE rfl rfl rfl (by decide)) rfl ?_; clear hE a; intro a hE
                    refine WL.vS hS hE (runs_plain rfl) (Gives.pickT hE rfl rfl rfl) rfl ?_; clear hE a; intro a hE
                    refine WL.vS hS hE (runs_plain rfl) (Gives.p hE rfl) rfl ?_; clear hE a; intro a hE
                    refine WL.no hE (runs_not hE rfl rfl rfl (by decide)) rfl ?_; clear hE a; intro a hE
                    refine WL.no hE (runs_not hE rfl rfl rfl (by decide)) rfl ?_; clear hE a; intro a hE
                    refine WL.no hE (runs_not hE rfl rfl rfl (by decide)) rfl ?_; clear hE a; intro a hE
                    refine WL.vS hS hE (runs_plain rfl) (Gives.pickT hE rfl rfl rfl) rfl ?_; clear hE a; intro a hE
                    refine WL.nil ?_
                    subst hK91
                    exact ⟨true, hq86, hE.pick _ ⟨rfl, rfl, rfl, rfl, rfl, trivial⟩, hS⟩
                  · replace hq86 := iteF hg92 hq86
                    refine WL.vS hS hE (runs_if hE rfl rfl rfl hg92) (Gives.fld hE rfl fl90_1) rfl ?_; clear hE a; intro a hE
                    refine WL.vS hS hE (runs_if hE rfl rfl rfl hg92) (Gives.loadB hE 0 rfl rfl rfl ty3) rfl ?_; clear hE a; intro a hE
                    refine WL.vS hS hE (runs_if hE rfl rfl rfl hg92) (Gives.p hE rfl) rfl ?_; clear hE a; intro a hE
                    refine WL.vS hS hE (runs_plain rfl) (Gives.pickF hE rfl hg92 rfl) rfl ?_; clear hE a; intro a hE
                    refine WL.vS hS hE (runs_plain rfl) (Gives.p hE rfl) rfl ?_; clear hE a; intro a hE
                    rcases Bool.eq_false_or_eq_true (decide (x64.Period ≥ 60)) with hg93 | hg93
                    · replace hq86 := iteT hg93 hq86
                      refine WL.no hE (runs_not hE rfl rfl rfl (by rw [hg93]; decide)) rfl ?_; clear hE a; intro a hE
                      refine WL.no hE (runs_not hE rfl rfl rfl (by rw [hg93]; decide)) rfl ?_; clear hE a; intro a hE
                      refine WL.no hE (runs_not hE rfl rfl rfl (by rw [hg93]; decide)) rfl ?_; clear hE a; intro a hE
                      refine WL.vS hS hE (runs_plain rfl) (Gives.pickT hE rfl hg93 rfl) rfl ?_; clear hE a; intro a hE
                      refine WL.vS hS hE (runs_plain rfl) (Gives.p hE rfl) rfl ?_; clear hE a; intro a hE
                      refine WL.no hE (runs_not hE rfl rfl rfl (by decide)) rfl ?_; clear hE a; intro a hE
                      refine WL.no hE (runs_not hE rfl rfl rfl (by decide)) rfl ?_; clear hE a; intro a hE
                      refine WL.no hE (runs_not hE rfl rfl rfl (by decide)) rfl ?_; clear hE a; intro a hE
                      refine WL.vS hS hE (runs_plain rfl) (Gives.pickT hE rfl rfl rfl) rfl ?_; clear hE a; intro a hE
                      refine WL.nil ?_
                      subst hK91
                      exact ⟨true, hq86, hE.pick _ ⟨rfl, rfl, rfl, rfl, rfl, trivial⟩, hS⟩
                    · replace hq86 := iteF hg93 hq86
                      refine WL.vS hS hE (runs_if hE rfl rfl rfl hg93) (Gives.fld hE rfl fl90_2) rfl ?_; clear hE a; intro a hE
                      refine WL.vS hS hE (runs_if hE rfl rfl rfl hg93) (Gives.loadB hE 0 rfl rfl rfl ty3) rfl ?_; clear hE a; intro a hE
                      refine WL.vS hS hE (runs_if hE rfl rfl rfl hg93) (Gives.p hE rfl) rfl ?_; clear hE a; intro a hE
                      refine WL.vS hS hE (runs_plain rfl) (Gives.pickF hE rfl hg93 rfl) rfl ?_; clear hE a; intro a hE
                      refine WL.vS hS hE (runs_plain rfl) (Gives.p hE rfl) rfl ?_; clear hE a; intro a hE
                      rcases Bool.eq_false_or_eq_true (decide (x64.Secs < 0)) with hg94 | hg94
                      · replace hq86 := iteT hg94 hq86
                        refine WL.no hE (runs_not hE rfl rfl rfl (by rw [hg94]; decide)) rfl ?_; clear hE a; intro a hE
                        refine WL.no hE (runs_not hE rfl rfl rfl (by rw [hg94]; decide)) rfl ?_; clear hE a; intro a hE
                        refine WL.no hE (runs_not hE rfl rfl rfl (by rw [hg94]; decide)) rfl ?_; clear hE a; intro a hE
                        refine WL.vS hS hE (runs_plain rfl) (Gives.pickT hE rfl hg94 rfl) rfl ?_; clear hE a; intro a hE
                        refine WL.nil ?_
                        subst hK91
                        exact ⟨true, hq86, hE.pick _ ⟨rfl, rfl, rfl, rfl, rfl, trivial⟩, hS⟩
                      · replace hq86 := iteF hg94 hq86
                        refine WL.vS hS hE (runs_if hE rfl rfl rfl hg94) (Gives.fld hE rfl fl90_2) rfl ?_; clear hE a; intro a hE
                        refine WL.vS hS hE (runs_if hE rfl rfl rfl hg94) (Gives.loadB hE 0 rfl rfl rfl ty3) rfl ?_; clear hE a; intro a hE
                        refine WL.vS hS hE (runs_if hE rfl rfl rfl hg94) (Gives.p hE rfl) rfl ?_; clear hE a; intro a hE
                        refine WL.vS hS hE (runs_plain rfl) (Gives.pickF hE rfl hg94 rfl) rfl ?_; clear hE a; intro a hE
                        refine WL.nil ?_
                        subst hK91
                        exact ⟨decide (x64.Secs > 28800), hq86, hE.pick _ ⟨rfl, rfl, rfl, rfl, rfl, trivial⟩, hS⟩
                · clear hE hS a w; rintro a w ⟨q90, rfl, hE, hS⟩
                  refine W.cond hE rfl (fun hc95 => ?_) (fun hc95 => ?_)
                  · replace hq61 := iteT hc95 hq61
                    refine W.seq ?_
                    refine W.region ?_
                    refine WL.vS hS hE (runs_plain rfl) (Gives.p hE rfl) rfl ?_; clear hE a; intro a hE
                    refine WL.nil ?_
                    refine W.ret ?_
                    subst hK72
                    rw [← hq61] at hr
                    dsimp only at hr
                    refine finG (fn := Try.f20) (rs := [.tmp 6]) (vs := [_]) hE rfl ⟨rfl, trivial⟩ ?_
                    subst hr
                    replace hS := hS.tail
                    replace hS := hS.tail
                    exact ⟨rfl, hS⟩
                  · replace hq61 := iteF hc95 hq61
                    refine W.skip ?_
                    refine W.region ?_
                    refine WL.vS hS hE (runs_plain rfl) (Gives.inc hE rfl (by have := h1.small; omega)) rfl ?_; clear hE a; intro a hE
                    refine WL.vS hS hE (runs_plain rfl) (Gives.p hE rfl) rfl ?_; clear hE a; intro a hE
                    refine WL.nil ?_
                    replace hS := hS.tail
                    subst hK72
                    exact ⟨rest65.length, Nat.lt_succ_self _, rest65, k63 + 1, rfl, hd66, hq61, hE.pick _ ⟨rfl, rfl, rfl, rfl, trivial⟩, hS⟩
        · clear hE hS a w; rintro a w ⟨rfl, hE, hS⟩
          dsimp only at hr
          refine W.seq ?_
          refine W.region ?_
          refine WL.vS hS hE (runs_plain rfl) (Gives.p hE rfl) rfl ?_; clear hE a; intro a hE
          refine WL.nil ?_
          refine W.ret ?_
          refine finG (fn := Try.f20) (rs := [.tmp 6]) (vs := [_]) hE rfl ⟨rfl, trivial⟩ ?_
          subst hr
          replace hS := hS.tail
          exact ⟨rfl, hS⟩
set_option maxHeartbeats 8000000 in
theorem MathBitsMul64_ok  {w : World} {s : Sg} {R : List HP} {x0 : Int} {x1 : Int} (hS : St w s (R))  {r : Int × Int} (hr : MathBitsMul64 x0 x1 = r) :
    Calls Try.prog 93 [.int .u64 x0, .int .u64 x1].toArray w (fun e w => e = .returned (.tuple #[.int .u64 r.1, .int .u64 r.2]) ∧ St w s (R)) := by
  refine enter Try.func93 rfl rfl rfl fun a hE => ?_
  rw [MathBitsMul64] at hr
  refine W.seq ?_
  refine W.region ?_
  refine WL.vS hS hE (runs_plain rfl) (Gives.p hE rfl) rfl ?_; clear hE a; intro a hE
  refine WL.vS hS hE (runs_plain rfl) (Gives.p hE rfl) rfl ?_; clear hE a; intro a hE
  refine WL.nil ?_
  refine W.seq ?_
  refine W.region ?_
  refine WL.vS hS hE (runs_plain rfl) (Gives.p hE rfl) rfl ?_; clear hE a; intro a hE
  refine WL.vS hS hE (runs_plain rfl) (Gives.p hE rfl) rfl ?_; clear hE a; intro a hE
  refine WL.vS hS hE (runs_plain rfl) (Gives.p hE rfl) rfl ?_; clear hE a; intro a hE
  refine WL.nil ?_
  refine W.seq ?_
  refine W.region ?_
  refine WL.vS hS hE (runs_plain rfl) (Gives.p hE rfl) rfl ?_; clear hE a; intro a hE
  refine WL.vS hS hE (runs_plain rfl) (Gives.shr hE rfl rfl (by decide)) rfl ?_; clear hE a; intro a hE
  refine WL.vS hS hE (runs_plain rfl) (Gives.p hE rfl) rfl ?_; clear hE a; intro a hE
  refine WL.nil ?_
  refine W.seq ?_
  refine W.region ?_
  refine WL.vS hS hE (runs_plain rfl) (Gives.p hE rfl) rfl ?_; clear hE a; intro a hE
  refine WL.vS hS hE (runs_plain rfl) (Gives.p hE rfl) rfl ?_; clear hE a; intro a hE
  refine WL.vS hS hE (runs_plain rfl) (Gives.p hE rfl) rfl ?_; clear hE a; intro a hE
  refine WL.nil ?_
  refine W.seq ?_
  refine W.region ?_
  refine WL.vS hS hE (runs_plain rfl) (Gives.p hE rfl) rfl ?_; clear hE a; intro a hE
  refine WL.vS hS hE (runs_plain rfl) (Gives.shr hE rfl rfl (by decide)) rfl ?_; clear hE a; intro a hE
  refine WL.vS hS hE (runs_plain rfl) (Gives.p hE rfl) rfl ?_; clear hE a; intro a hE
  refine WL.nil ?_
  refine W.seq ?_
  refine W.region ?_
  refine WL.vS hS hE (runs_plain rfl) (Gives.p hE rfl) rfl ?_; clear hE a; intro a hE
  refine WL.vS hS hE (runs_plain rfl) (Gives.p hE rfl) rfl ?_; clear hE a; intro a hE
  refine WL.vS hS hE (runs_plain rfl) (Gives.p hE rfl) rfl ?_; clear hE a; intro a hE
  refine WL.vS hS hE (runs_plain rfl) (Gives.p hE rfl) rfl ?_; clear hE a; intro a hE
  refine WL.nil ?_
  refine W.seq ?_
  refine W.region ?_
  refine WL.vS hS hE (runs_plain rfl) (Gives.p hE rfl) rfl ?_; clear hE a; intro a hE
  refine WL.vS hS hE (runs_plain rfl) (Gives.p hE rfl) rfl ?_; clear hE a; intro a hE
  refine WL.vS hS hE (runs_plain rfl) (Gives.p hE rfl) rfl ?_; clear hE a; intro a hE
  refine WL.vS hS hE (runs_plain rfl) (Gives.p hE rfl) rfl ?_; clear hE a; intro a hE
  refine WL.vS hS hE (runs_plain rfl) (Gives.shr hE rfl rfl (by decide)) rfl ?_; clear hE a; intro a hE
  refine WL.vS hS hE (runs_plain rfl) (Gives.p hE rfl) rfl ?_; clear hE a; intro a hE
  refine WL.vS hS hE (runs_plain rfl) (Gives.p hE rfl) rfl ?_; clear hE a; intro a hE
  refine WL.nil ?_
  refine W.seq ?_
  refine W.region ?_
  refine WL.vS hS hE (runs_plain rfl) (Gives.p hE rfl) rfl ?_; clear hE a; intro a hE
  refine WL.vS hS hE (runs_plain rfl) (Gives.p hE rfl) rfl ?_; clear hE a; intro a hE
  refine WL.vS hS hE (runs_plain rfl) (Gives.p hE rfl) rfl ?_; clear hE a; intro a hE
  refine WL.nil ?_
  refine W.seq ?_
  refine W.region ?_
  refine WL.vS hS hE (runs_plain rfl) (Gives.p hE rfl) rfl ?_; clear hE a; intro a hE
  refine WL.vS hS hE (runs_plain rfl) (Gives.shr hE rfl rfl (by decide)) rfl ?_; clear hE a; intro a hE
  refine WL.vS hS hE (runs_plain rfl) (Gives.p hE rfl) rfl ?_; clear hE a; intro a hE
  refine WL.nil ?_
  refine W.seq ?_
  refine W.region ?_
  refine WL.vS hS hE (runs_plain rfl) (Gives.p hE rfl) rfl ?_; clear hE a; intro a hE
  refine WL.vS hS hE (runs_plain rfl) (Gives.p hE rfl) rfl ?_; clear hE a; intro a hE
  refine WL.vS hS hE (runs_plain rfl) (Gives.p hE rfl) rfl ?_; clear hE a; intro a hE
  refine WL.vS hS hE (runs_plain rfl) (Gives.p hE rfl) rfl ?_; clear hE a; intro a hE
  refine WL.vS hS hE (runs_plain rfl) (Gives.p hE rfl) rfl ?_; clear hE a; intro a hE
  refine WL.vS hS hE (runs_plain rfl) (Gives.p hE rfl) rfl ?_; clear hE a; intro a hE
  refine WL.nil ?_
  refine W.seq ?_
  refine W.region ?_
  refine WL.vS hS hE (runs_plain rfl) (Gives.p hE rfl) rfl ?_; clear hE a; intro a hE
  refine WL.vS hS hE (runs_plain rfl) (Gives.p hE rfl) rfl ?_; clear hE a; intro a hE
  refine WL.vS hS hE (runs_plain rfl) (Gives.p hE rfl) rfl ?_; clear hE a; intro a hE
  refine WL.vS hS hE (runs_plain rfl) (Gives.p hE rfl) rfl ?_; clear hE a; intro a hE
  refine WL.vS hS hE (runs_plain rfl) (Gives.p hE rfl) rfl ?_; clear hE a; intro a hE
  refine WL.vS hS hE (runs_plain rfl) (Gives.p hE rfl) rfl ?_; clear hE a; intro a hE
  refine WL.vS hS hE (runs_plain rfl) (Gives.shr hE rfl rfl (by decide)) rfl ?_; clear hE a; intro a hE
  refine WL.vS hS hE (runs_plain rfl) (Gives.p hE rfl) rfl ?_; clear hE a; intro a hE
  refine WL.vS hS hE (runs_plain rfl) (Gives.p hE rfl) rfl ?_; clear hE a; intro a hE
  refine WL.nil ?_
  refine W.seq ?_
  refine W.region ?_
  refine WL.vS hS hE (runs_plain rfl) (Gives.p hE rfl) rfl ?_; clear hE a; intro a hE
  refine WL.vS hS hE (runs_plain rfl) (Gives.p hE rfl) rfl ?_; clear hE a; intro a hE
  refine WL.vS hS hE (runs_plain rfl) (Gives.p hE rfl) rfl ?_; clear hE a; intro a hE
  refine WL.vS hS hE (runs_plain rfl) (Gives.p hE rfl) rfl ?_; clear hE a; intro a hE
  refine WL.nil ?_
  refine W.ret ?_
  refine finG (fn := Try.f93) (rs := [.tmp 4, .tmp 5]) (vs := [_, _]) hE rfl ⟨rfl, rfl, trivial⟩ ?_
  subst hr
  exact ⟨rfl, hS⟩
set_option maxHeartbeats 8000000 in
theorem MathBitsMul_ok  {w : World} {s : Sg} {R : List HP} {x0 : Int} {x1 : Int} (hS : St w s (R))  {r : Int × Int} (hr : MathBitsMul x0 x1 = r) :
    Calls Try.prog 85 [.int .u64 x0, .int .u64 x1].toArray w (fun e w => e = .returned (.tuple #[.int .u64 r.1, .int .u64 r.2]) ∧ St w s (R)) := by
  refine enter Try.func85 rfl rfl rfl fun a hE => ?_
  rw [MathBitsMul] at hr
  refine W.seq ?_
  refine W.region ?_
  refine WL.vS hS hE (runs_plain rfl) (Gives.p hE rfl) rfl ?_; clear hE a; intro a hE
  refine WL.vS hS hE (runs_plain rfl) (Gives.p hE rfl) rfl ?_; clear hE a; intro a hE
  refine WL.nil ?_
  refine W.seq ?_
  refine W.condF hE rfl rfl ?_
  refine W.skip ?_
  refine W.seq ?_
  refine W.region ?_
  refine WL.vS hS hE (runs_plain rfl) (Gives.p hE rfl) rfl ?_; clear hE a; intro a hE
  refine WL.vS hS hE (runs_plain rfl) (Gives.p hE rfl) rfl ?_; clear hE a; intro a hE
  obtain ⟨q51, hq52, hr⟩ := bndS hr
  have hc_ := MathBitsMul64_ok hS  hq52
  refine WL.fnq hE (hc_) (runs_plain rfl) bd93 rfl rfl rfl ?_
  clear hE hS hc_; rintro e w ⟨rfl, hS⟩; refine ⟨_, rfl, ?_⟩; clear a; intro a hE
  refine WL.vS hS hE (runs_plain rfl) (Gives.p hE rfl) rfl ?_; clear hE a; intro a hE
  refine WL.vS hS hE (runs_plain rfl) (Gives.p hE rfl) rfl ?_; clear hE a; intro a hE
  refine WL.vS hS hE (runs_plain rfl) (Gives.p hE rfl) rfl ?_; clear hE a; intro a hE
  refine WL.vS hS hE (runs_plain rfl) (Gives.p hE rfl) rfl ?_; clear hE a; intro a hE
  refine WL.vS hS hE (runs_plain rfl) (Gives.p hE rfl) rfl ?_; clear hE a; intro a hE
  refine WL.nil ?_
  refine W.seq ?_
  refine W.region ?_
  refine WL.vS hS hE (runs_plain rfl) (Gives.p hE rfl) rfl ?_; clear hE a; intro a hE
  refine WL.vS hS hE (runs_plain rfl) (Gives.p hE rfl) rfl ?_; clear hE a; intro a hE
  refine WL.vS hS hE (runs_plain rfl) (Gives.p hE rfl) rfl ?_; clear hE a; intro a hE
  refine WL.vS hS hE (runs_plain rfl) (Gives.p hE rfl) rfl ?_; clear hE a; intro a hE
  refine WL.nil ?_
  refine W.ret ?_
  refine finG (fn := Try.f85) (rs := [.tmp 4, .tmp 5]) (vs := [_, _]) hE rfl ⟨rfl, rfl, trivial⟩ ?_
  subst hr
  exact ⟨rfl, hS⟩
set_option maxHeartbeats 8000000 in
theorem SlicesRepeatLint_ok {fu : Nat}  {w : World} {s : Sg} {R : List HP} {x0 : List Int} {a0 : Option Addr} {c0 : Nat} {x1 : Int} (hS : St w s (R)) (h0 : Sl 1 (RI .i64) s a0 c0 x0) {r : (List Int)} (hr : SlicesRepeatLint fu x0 x1 = some r) :
    Calls Try.prog 57 [.slice a0 x0.length c0, .int .i64 x1].toArray w (fun e w => ∃ (a0 : Option Addr) (c0 n0 : Nat) (cs0 : List Value), e = .returned (.slice a0 n0 c0) ∧ Ev 1 (RI .i64) s cs0 r ∧ r.length = n0 ∧ St w s (vecC 3 1 a0 c0 n0 cs0 :: R)) := by
  refine enter Try.func57 rfl rfl rfl fun a hE => ?_
  rw [SlicesRepeatLint] at hr
  refine W.seq ?_
  refine W.region ?_
  refine WL.vS hS hE (runs_plain rfl) (Gives.p hE rfl) rfl ?_; clear hE a; intro a hE
  refine WL.nil ?_
  refine W.seq ?_
  refine W.seq ?_
  refine W.region ?_
  refine WL.vS hS hE (runs_plain rfl) (Gives.p hE rfl) rfl ?_; clear hE a; intro a hE
  refine WL.vS hS hE (runs_plain rfl) (Gives.p hE rfl) rfl ?_; clear hE a; intro a hE
  refine WL.nil ?_
  refine W.cond hE rfl (fun hc51 => ?_) (fun hc51 => ?_)
  · replace hr := iteT hc51 hr
    refine W.region ?_
    exact absurd hr (by simp)
  · replace hr := iteF hc51 hr
    refine W.skip ?_
    refine W.seq ?_
    refine W.region ?_
    refine WL.vS hS hE (runs_plain rfl) (Gives.p hE rfl) rfl ?_; clear hE a; intro a hE
    refine WL.vS hS hE (runs_plain rfl) (Gives.len hE rfl sl22) rfl ?_; clear hE a; intro a hE
    refine WL.vS hS hE (runs_plain rfl) (Gives.conv hE rfl hu3 ui123) rfl ?_; clear hE a; intro a hE
    refine WL.vS hS hE (runs_plain rfl) (Gives.p hE rfl) rfl ?_; clear hE a; intro a hE
    refine WL.vS hS hE (runs_plain rfl) (Gives.conv hE rfl hu3 ui123) rfl ?_; clear hE a; intro a hE
    obtain ⟨q52, hq53, hr⟩ := bndS hr
    have hc_ := MathBitsMul_ok hS  hq53
    refine WL.fnq hE (hc_) (runs_plain rfl) bd85 rfl rfl rfl ?_
    clear hE hS hc_; rintro e w ⟨rfl, hS⟩; refine ⟨_, rfl, ?_⟩; clear a; intro a hE
    refine WL.vS hS hE (runs_plain rfl) (Gives.p hE rfl) rfl ?_; clear hE a; intro a hE
    refine WL.vS hS hE (runs_plain rfl) (Gives.p hE rfl) rfl ?_; clear hE a; intro a hE
    refine WL.vS hS hE (runs_plain rfl) (Gives.p hE rfl) rfl ?_; clear hE a; intro a hE
    refine WL.vS hS hE (runs_plain rfl) (Gives.p hE rfl) rfl ?_; clear hE a; intro a hE
    refine WL.vS hS hE (runs_plain rfl) (Gives.p hE rfl) rfl ?_; clear hE a; intro a hE
    refine WL.nil ?_
    refine W.seq ?_
    refine W.seq ?_
    obtain ⟨q55, hq54, hr⟩ := bndS hr
    refine W.cut (fun a w => ∃ (q58 : Bool), q58 = q55 ∧ Rep a 48 [(0, .slice a0 x0.length c0), (6, .int .u64 q52.2), (26, .bool q58)] ∧ St w s (R)) ?_ ?_
    · refine W.gen fun K59 hK59 => ?_
      refine W.region ?_
      refine WL.vS hS hE (runs_plain rfl) (Gives.p hE rfl) rfl ?_; clear hE a; intro a hE
      refine WL.vS hS hE (runs_plain rfl) (Gives.p hE rfl) rfl ?_; clear hE a; intro a hE
      refine WL.vS hS hE (runs_plain rfl) (Gives.p hE rfl) rfl ?_; clear hE a; intro a hE
      rcases Bool.eq_false_or_eq_true (decide (q52.1 > 0)) with hg60 | hg60
      · replace hq54 := iteT hg60 hq54
        refine WL.no hE (runs_not hE rfl rfl rfl (by rw [hg60]; decide)) rfl ?_; clear hE a; intro a hE
        refine WL.no hE (runs_not hE rfl rfl rfl (by rw [hg60]; decide)) rfl ?_; clear hE a; intro a hE
        refine WL.vS hS hE (runs_plain rfl) (Gives.pickT hE rfl hg60 rfl) rfl ?_; clear hE a; intro a hE
        refine WL.nil ?_
        subst hK59
        exact ⟨true, hq54, hE.pick _ ⟨rfl, rfl, rfl, trivial⟩, hS⟩
      · replace hq54 := iteF hg60 hq54
        refine WL.vS hS hE (runs_if hE rfl rfl rfl hg60) (Gives.p hE rfl) rfl ?_; clear hE a; intro a hE
        refine WL.vS hS hE (runs_if hE rfl rfl rfl hg60) (Gives.p hE rfl) rfl ?_; clear hE a; intro a hE
        refine WL.vS hS hE (runs_plain rfl) (Gives.pickF hE rfl hg60 rfl) rfl ?_; clear hE a; intro a hE
        refine WL.nil ?_
        subst hK59
        exact ⟨decide (q52.2 > 9223372036854775807), hq54, hE.pick _ ⟨rfl, rfl, rfl, trivial⟩, hS⟩
    · clear hE hS a w; rintro a w ⟨q58, rfl, hE, hS⟩
      refine W.cond hE rfl (fun hc61 => ?_) (fun hc61 => ?_)
      · replace hr := iteT hc61 hr
        refine W.region ?_
        exact absurd hr (by simp)
      · replace hr := iteF hc61 hr
        refine W.skip ?_
        refine W.seq ?_
        refine W.region ?_
        refine WL.vS hS hE (runs_plain rfl) (Gives.p hE rfl) rfl ?_; clear hE a; intro a hE
        refine WL.vS hS hE (runs_plain rfl) (Gives.conv hE rfl hu123 ui3) rfl ?_; clear hE a; intro a hE
        obtain ⟨x62, hx63, hr⟩ := bindS hr
        refine WL.mkD (Rr := RI .i64) hE hS (runs_plain rfl) rfl rfl ap22 zr3 rfl hx63 rfl ?_; clear hE hS a w; intro b64 cs65 a w h66 hE hS
        refine WL.vS hS hE (runs_plain rfl) (Gives.p hE rfl) rfl ?_; clear hE a; intro a hE
        refine WL.nil ?_
        refine W.seq ?_
        refine W.region ?_
        refine WL.vS hS hE (runs_plain rfl) (Gives.p hE rfl) rfl ?_; clear hE a; intro a hE
        refine WL.vS hS hE (runs_plain rfl) (Gives.p hE rfl) rfl ?_; clear hE a; intro a hE
        obtain ⟨x68, hx69, hr⟩ := bndS hr
        refine WL.cpS hE hS 0 (runs_plain rfl) cp22 (by rw [sliced_zero]; rfl) rfl rfl (Nat.zero_le _) (Nat.le_refl _) h66 rfl RI.one h0 rfl rfl ?_; clear hE hS a w; intro cs70 a w h71 hE hS
        have hn72 : x68.length = x62.length := by rw [← hx69, cpl_length (Nat.zero_le _) (by omega)]; try rfl
        rw [hx69] at h71
        refine WL.vS hS hE (runs_plain rfl) (Gives.p hE rfl) rfl ?_; clear hE a; intro a hE
        refine WL.nil ?_
        refine W.seq ?_
        obtain ⟨q74, hq73, hr⟩ := bindS hr
        refine W.cut (fun a w => ∃ (q79 : Int), ∃ (q80 : List Int), ∃ (cs84 : List Value), (q79, q80) = q74 ∧ Ev 1 (RI .i64) s cs84 q80 ∧ q80.length = x62.length ∧ Rep a 48 [(7, .slice (some ⟨b64, 0, none⟩) x62.length x62.length)] ∧ St w s (vecC 3 1 (some ⟨b64, 0, none⟩) x62.length x62.length cs84 :: R)) ?_ ?_
        · refine W.block ?_
          refine W.loop (fun m a w => ∃ (n75 : Nat), ∃ (q79 : Int), ∃ (q80 : List Int), ∃ (cs84 : List Value), n75 = m ∧ SlicesRepeatLint.loop1 x62 n75 q79 q80 = some q74 ∧ Ev 1 (RI .i64) s cs84 q80 ∧ q80.length = x62.length ∧ Rep a 48 [(7, .slice (some ⟨b64, 0, none⟩) x62.length x62.length), (8, .int .i64 q79)] ∧ St w s (vecC 3 1 (some ⟨b64, 0, none⟩) x62.length x62.length cs84 :: R)) (m := fu) ⟨fu, ((min x0.length (x62.length - 0) : Nat) : Int), x68, cs70, rfl, hq73, h71, hn72, hE.pick _ ⟨rfl, rfl, trivial⟩, hS⟩ ?_
          clear hE hS a w hq73; rintro m76 a w ⟨n75, q79, q80, cs84, rfl, hq73, h83, hn85, hE, hS⟩
          refine W.gen fun K86 hK86 => ?_
          rcases n75 with _ | n75
          · rw [SlicesRepeatLint.loop1] at hq73; exact absurd hq73 (by simp)
          rw [SlicesRepeatLint.loop1] at hq73
          refine W.seq ?_
          refine W.seq ?_
          refine W.region ?_
          refine WL.vS hS hE (runs_plain rfl) (Gives.p hE rfl) rfl ?_; clear hE a; intro a hE
          refine WL.vS hS hE (runs_plain rfl) (Gives.p hE rfl) rfl ?_; clear hE a; intro a hE
          refine WL.vS hS hE (runs_plain rfl) (Gives.len hE rfl sl22) rfl ?_; clear hE a; intro a hE
          refine WL.vS hS hE (runs_plain rfl) (Gives.p hE rfl) rfl ?_; clear hE a; intro a hE
          refine WL.nil ?_
          refine W.cond hE rfl (fun hc87 => ?_) (fun hc87 => ?_)
          · replace hq73 := iteT hc87 hq73
            refine W.skip ?_
            refine W.block ?_
            refine W.gen fun K88 hK88 => ?_
            refine W.regionE (sel (fun w => St w s (R)) (fun w => St w s (R))) (fun b i => cond b ([0, 1, 2, 3, 4, 5, 6, 7, 8, 9].contains i) ([0, 1, 2, 3, 4, 5, 6, 7, 8, 9].contains i)) mixed ?_
            replace hS := hS.drew
            refine Rg.takeP (i := 0) hE rfl (by kernel_rfl) (runs_plain rfl) (Gives.p hE rfl) rfl (tw_sel (fun _ => (hS.tail)) (fun _ => (hS.tail))) ?_; clear hE a; intro a hE
            refine Rg.takeP (i := 1) hE rfl (by kernel_rfl) (runs_plain rfl) (Gives.p hE rfl) rfl (tw_sel (fun _ => (hS.tail)) (fun _ => (hS.tail))) ?_; clear hE a; intro a hE
            refine Rg.takeP (i := 2) hE rfl (by kernel_rfl) (runs_plain rfl) (Gives.p hE rfl) rfl (tw_sel (fun _ => (hS.tail)) (fun _ => (hS.tail))) ?_; clear hE a; intro a hE
            obtain ⟨x89, hx90, hq73⟩ := bindS hq73
            obtain ⟨h91, h92, h93, h94, h95, h96⟩ := cutl_some hx90
            have h97 := (hS.vecCap 0 rfl).1
            refine Rg.takeP (i := 3) hE rfl (by kernel_rfl) (runs_plain rfl) (Gives.slL hE sl22 rfl rfl h91 (by have := hn85; omega) rfl) rfl (tw_sel (fun _ => (hS.tail)) (fun _ => (hS.tail))) ?_; clear hE a; intro a hE
            refine Rg.takeP (i := 4) hE rfl (by kernel_rfl) (runs_plain rfl) (Gives.p hE rfl) rfl (tw_sel (fun _ => (hS.tail)) (fun _ => (hS.tail))) ?_; clear hE a; intro a hE
            refine Rg.takeP (i := 5) hE rfl (by kernel_rfl) (runs_plain rfl) (Gives.p hE rfl) rfl (tw_sel (fun _ => (hS.tail)) (fun _ => (hS.tail))) ?_; clear hE a; intro a hE
            obtain ⟨x98, hx99, hq73⟩ := bindS hq73
            obtain ⟨h100, h101, h102, h103, h104, h105⟩ := cutl_some hx99
            have h106 := (hS.vecCap 0 rfl).1
            refine Rg.takeP (i := 6) hE rfl (by kernel_rfl) (runs_plain rfl) (Gives.slH hE sl22 rfl rfl h101 (Int.le_trans h102 (by have := hn85; omega)) rfl) rfl (tw_sel (fun _ => (hS.tail)) (fun _ => (hS.tail))) ?_; clear hE a; intro a hE
            refine Rg.one (i := 7) true true rfl (by kernel_rfl) (by kernel_rfl) (by kernel_rfl) ?_
            obtain ⟨x107, hx108, hq73⟩ := bndS hq73
            refine WL.cpO (lo2 := 0) (hi2 := (q79).toNat) hE hS 0 (runs_plain rfl) cp22 rfl rfl rfl (by have := hn85; omega) (by have := hn85; omega) (by have := hn85; omega) (by have := hn85; omega) h83 hn85 (h83.allOne RI.one) rfl ?_; clear hE hS a w; intro cs109 a w h110 hE hS
            have hn111 : x107.length = x62.length := by rw [← hx108, cpl_length (by have := hn85; omega) (by have := hn85; omega)]; try exact hn85
            rw [hx108] at h110
            refine WL.nil ?_
            refine ⟨⟨fun _ => (hS.tail), fun _ => (hS.tail)⟩, ?_⟩
            refine Rg.takeP (i := 8) hE rfl (by kernel_rfl) (runs_plain rfl) (Gives.p hE rfl) rfl (tw_sel (fun _ => (hS.tail)) (fun _ => (hS.tail))) ?_; clear hE a; intro a hE
            refine Rg.takeP (i := 9) hE rfl (by kernel_rfl) (runs_plain rfl) (Gives.p hE rfl) rfl (tw_sel (fun _ => (hS.tail)) (fun _ => (hS.tail))) ?_; clear hE a; intro a hE
            refine Rg.done (by kernel_rfl) ?_
            subst hK88
            subst hK86
            exact ⟨n75, Nat.lt_succ_self _, n75, (w64 (q79 + ((min ((q80.take ((q79).toNat)).drop 0).length (x62.length - ((q79).toNat)) : Nat) : Int))), x107, cs109, rfl, hq73, h110, hn111, hE.pick _ ⟨rfl, rfl, trivial⟩, hS⟩
          · replace hq73 := iteF hc87 hq73
            subst hK86
            refine W.exit rfl ?_
            exact ⟨q79, q80, cs84, Option.some.inj hq73, h83, hn85, hE.pick _ ⟨rfl, trivial⟩, hS⟩
        · clear hE hS a w; rintro a w ⟨q79, q80, cs84, rfl, h83, hn85, hE, hS⟩
          dsimp only at hr
          refine W.seq ?_
          refine W.region ?_
          refine WL.vS hS hE (runs_plain rfl) (Gives.p hE rfl) rfl ?_; clear hE a; intro a hE
          refine WL.vS hS hE (runs_plain rfl) (Gives.p hE rfl) rfl ?_; clear hE a; intro a hE
          refine WL.nil ?_
          refine W.ret ?_
          refine finG (fn := Try.f57) (rs := [.tmp 4]) (vs := [_]) hE rfl ⟨rfl, trivial⟩ ?_
          obtain rfl := Option.some.inj hr
          exact ⟨(some ⟨b64, 0, none⟩), x62.length, x62.length, cs84, rfl, h83, hn85, hS⟩
end Go.Proofs.Ytfioafdipipcaaa
