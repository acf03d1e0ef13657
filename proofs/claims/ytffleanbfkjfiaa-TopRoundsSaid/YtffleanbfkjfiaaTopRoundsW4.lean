/- The walks of the functions that TopRounds reaches: each call comes to what its mirror says. The conditions are those of each contract. -/
import Derived.Test.YtffleanbfkjfiaaProg
import Derived.Test.YtffleanbfkjfiaaTopRoundsM
import Derived.Test.YtffleanbfkjfiaaFpMore
import Derived.Test.YtffleanbfkjfiaaTopRoundsW3
namespace Go.Proofs.Ytffleanbfkjfiaa
open Go Go.Fp
set_option maxHeartbeats 8000000 in
theorem MendRoundring_ok {fu : Nat}  {w : World} {s : Sg} {R : List HP} {x0 : MendRound} {a0_0 : Option Addr} {c0_0 : Nat} {a0_1 : Option Addr} {c0_1 : Nat} (hS : St w s (R)) (_h0_0 : Sl 1 (RI .i64) s a0_0 c0_0 x0.Plan) (h0_1 : Sl 4 RMendLink s a0_1 c0_1 x0.Links) {r : Bool} (hr : MendRoundring fu x0 = some r) :
  Calls Try.prog 66 [.agg [.int .i64 x0.Period, .slice a0_0 x0.Plan.length c0_0, .slice a0_1 x0.Links.length c0_1].toArray].toArray w (fun e w => e = .returned (.bool r) ∧ St w s (R)) := by
 refine enter Try.func66 rfl rfl rfl fun a hE => ?_
 rw [MendRoundring] at hr
 refine W.seq (W.region ?_)
 refine WL.box hE hS (runs_plain rfl) rfl rfl rfl ?_; clear hE hS a w; intro b51 a w hE hS
 refine WL.vS hS hE (runs_plain rfl) (Gives.p hE rfl) rfl ?_; clear hE a; intro a hE
 refine WL.nil ?_
 refine W.seq (W.region ?_)
 refine WL.vS hS hE (runs_plain rfl) (Gives.fld hE rfl fl51_1) rfl ?_; clear hE a; intro a hE
 refine WL.vS hS hE (runs_plain rfl) (Gives.loadB hE 0 rfl rfl rfl ty29) rfl ?_; clear hE a; intro a hE
 refine WL.vS hS hE (runs_plain rfl) (Gives.len hE rfl sl29) rfl ?_; clear hE a; intro a hE
 obtain ⟨x52, hx53, hr⟩ := bindS hr
 refine WL.mkD (Rr := RI .i64) hE hS (runs_plain rfl) rfl rfl ap29 zr3 rfl hx53 rfl ?_; clear hE hS a w; intro b54 cs55 a w h56 hE hS
 refine WL.vS hS hE (runs_plain rfl) (Gives.p hE rfl) rfl ?_; clear hE a; intro a hE
 refine WL.nil ?_
 refine W.seq ?_
 refine W.seq (W.region ?_)
 refine WL.vS hS hE (runs_plain rfl) (Gives.fld hE rfl fl51_1) rfl ?_; clear hE a; intro a hE
 refine WL.vS hS hE (runs_plain rfl) (Gives.loadB hE 1 rfl rfl rfl ty29) rfl ?_; clear hE a; intro a hE
 refine WL.vS hS hE (runs_plain rfl) (Gives.len hE rfl sl29) rfl ?_; clear hE a; intro a hE
 refine WL.vS hS hE (runs_plain rfl) (Gives.p hE rfl) rfl ?_; clear hE a; intro a hE
 refine WL.vS hS hE (runs_plain rfl) (Gives.p hE rfl) rfl ?_; clear hE a; intro a hE
 refine WL.nil ?_
 obtain ⟨q70, hq69, hr⟩ := bindS hr
 refine W.cut (fun a w => ∃ (q75 : Int), ∃ (q76 : List Int), ∃ (cs80 : List Value), (.next (q75, q76)) = q70 ∧ Ev 1 (RI .i64) s cs80 q76 ∧ q76.length = x52.length ∧ Rep a 54 [] ∧ St w s (vecC 3 1 (some ⟨b54, 0, none⟩) x52.length x52.length cs80 :: pt b51 (.cells #[.int .i64 x0.Period, .slice a0_0 x0.Plan.length c0_0, .slice a0_1 x0.Links.length c0_1] 51 (0, 0)) :: R)) ?_ ?_
 ·refine W.block ?_
  refine W.loop (fun m a w => ∃ (n71 : Nat), ∃ (q75 : Int), ∃ (q76 : List Int), ∃ (cs80 : List Value), n71 = m ∧ MendRoundring.loop2 x0 n71 q75 q76 = some q70 ∧ Ev 1 (RI .i64) s cs80 q76 ∧ q76.length = x52.length ∧ Rep a 54 [(1, .pointer (some ⟨b51, 0, none⟩)), (3, .slice (some ⟨b54, 0, none⟩) x52.length x52.length), (14, .int .i64 (w64 (((x0.Plan).length : Int) + 1))), (15, .int .i64 q75)] ∧ St w s (vecC 3 1 (some ⟨b54, 0, none⟩) x52.length x52.length cs80 :: pt b51 (.cells #[.int .i64 x0.Period, .slice a0_0 x0.Plan.length c0_0, .slice a0_1 x0.Links.length c0_1] 51 (0, 0)) :: R)) (m := fu) ⟨fu, 0, x52, cs55, rfl, hq69, h56, (rfl), hE.pick _ ⟨rfl, rfl, rfl, rfl, trivial⟩, hS⟩ ?_
  clear hE hS a w hq69; rintro m72 a w ⟨n71, q75, q76, cs80, rfl, hq69, h79, hn81, hE, hS⟩
  refine W.gen fun K82 hK82 => ?_
  rcases n71 with _ | n71
  ·rw [MendRoundring.loop2] at hq69; exact absurd hq69 (by simp)
  rw [MendRoundring.loop2] at hq69
  refine W.seq (W.region ?_)
  refine WL.vS hS hE (runs_plain rfl) (Gives.p hE rfl) rfl ?_; clear hE a; intro a hE
  refine WL.nil ?_
  refine W.seq ?_
  refine W.cond hE rfl (fun hc83 => ?_) (fun hc83 => ?_)
  ·replace hq69 := iteT hc83 hq69
   refine W.skip ?_
   refine W.seq ?_
   refine W.block ?_
   refine W.seq (W.region ?_)
   refine WL.vS hS hE (runs_plain rfl) (Gives.p hE rfl) rfl ?_; clear hE a; intro a hE
   refine WL.nil ?_
   refine W.seq ?_
   refine W.seq (W.region ?_)
   refine WL.vS hS hE (runs_plain rfl) (Gives.fld hE rfl fl51_2) rfl ?_; clear hE a; intro a hE
   refine WL.vS hS hE (runs_plain rfl) (Gives.loadB hE 1 rfl rfl rfl ty49) rfl ?_; clear hE a; intro a hE
   refine WL.vS hS hE (runs_plain rfl) (Gives.len hE rfl sl49) rfl ?_; clear hE a; intro a hE
   refine WL.vS hS hE (runs_plain rfl) (Gives.p hE rfl) rfl ?_; clear hE a; intro a hE
   refine WL.nil ?_
   obtain ⟨q85, hq84, hq69⟩ := bindS hq69
   refine W.cut (fun a w => ∃ (q95 : Bool), ∃ (q96 : List Int), ∃ (cs100 : List Value), (q95, q96) = q85 ∧ Ev 1 (RI .i64) s cs100 q96 ∧ q96.length = x52.length ∧ Rep a 54 [(1, .pointer (some ⟨b51, 0, none⟩)), (3, .slice (some ⟨b54, 0, none⟩) x52.length x52.length), (4, .bool q95), (14, .int .i64 (w64 (((x0.Plan).length : Int) + 1))), (15, .int .i64 q75)] ∧ St w s (vecC 3 1 (some ⟨b54, 0, none⟩) x52.length x52.length cs100 :: pt b51 (.cells #[.int .i64 x0.Period, .slice a0_0 x0.Plan.length c0_0, .slice a0_1 x0.Links.length c0_1] 51 (0, 0)) :: R)) ?_ ?_
   ·refine W.block ?_
    refine W.loop (fun m a w => ∃ (rest88 : List MendLink) (k86 : Nat), ∃ (q95 : Bool), ∃ (q96 : List Int), ∃ (cs100 : List Value), rest88.length = m ∧ x0.Links.drop k86 = rest88 ∧ MendRoundring.loop3 rest88 q95 q96 = some q85 ∧ Ev 1 (RI .i64) s cs100 q96 ∧ q96.length = x52.length ∧ Rep a 54 [(1, .pointer (some ⟨b51, 0, none⟩)), (3, .slice (some ⟨b54, 0, none⟩) x52.length x52.length), (4, .bool q95), (14, .int .i64 (w64 (((x0.Plan).length : Int) + 1))), (15, .int .i64 q75), (18, .slice a0_1 x0.Links.length c0_1), (19, .int .i64 ((x0.Links).length : Int)), (20, .int .i64 ((k86 : Nat) : Int))] ∧ St w s (vecC 3 1 (some ⟨b54, 0, none⟩) x52.length x52.length cs100 :: pt b51 (.cells #[.int .i64 x0.Period, .slice a0_0 x0.Plan.length c0_0, .slice a0_1 x0.Links.length c0_1] 51 (0, 0)) :: R)) (m := x0.Links.length) ⟨x0.Links, 0, false, q76, cs80, rfl, rfl, hq84, h79, hn81, hE.pick _ ⟨rfl, rfl, rfl, rfl, rfl, rfl, rfl, rfl, trivial⟩, hS⟩ ?_
    clear hE hS a w hq84; rintro m92 a w ⟨rest88, k86, q95, q96, cs100, rfl, hd89, hq84, h99, hn101, hE, hS⟩
    refine W.gen fun K102 hK102 => ?_
    rcases rest88 with _ | ⟨x87, rest88⟩
    ·have hlt90 := drop_nil hd89
     refine W.seq (W.region ?_)
     refine WL.vS hS hE (runs_plain rfl) (Gives.p hE rfl) rfl ?_; clear hE a; intro a hE
     refine WL.nil ?_
     refine W.seq ?_
     refine W.condF hE rfl (decide_eq_false (by omega)) ?_
     subst hK102
     refine W.exit rfl ?_
     exact ⟨q95, q96, cs100, Option.some.inj hq84, h99, hn101, hE.pick _ ⟨rfl, rfl, rfl, rfl, rfl, trivial⟩, hS⟩
    ·obtain ⟨hlt90, hx91, hd89⟩ := drop_cons hd89
     rw [MendRoundring.loop3] at hq84
     refine W.seq (W.region ?_)
     refine WL.vS hS hE (runs_plain rfl) (Gives.p hE rfl) rfl ?_; clear hE a; intro a hE
     refine WL.nil ?_
     refine W.seq ?_
     refine W.condT hE rfl (decide_eq_true (by omega)) ?_
     refine W.skip ?_
     refine W.seq ?_
     refine W.block ?_
     refine W.seq (W.region ?_)
     obtain ⟨cs103, hl104, hR105, hat106⟩ := h0_1.at hx91
     subst hR105
     refine WL.vS hS hE (runs_plain rfl) (Gives.idx hE k86 rfl rfl sl49 rfl hlt90 (h0_1.aok hlt90)) rfl ?_; clear hE a; intro a hE
     refine WL.vS hS hE (runs_plain rfl) (Gives.loadA hE rfl (fun w h => hat106 w _ h) ty53) rfl ?_; clear hE a; intro a hE
     refine WL.alloc hE hS (runs_plain rfl) zr53 rfl ?_; clear hE hS a w; intro b107 a w hE hS
     refine WL.storeI hE hS 0 rfl (MendLink.cells x87) (runs_plain rfl) rfl rfl rfl ty53 rfl rfl rfl rfl ?_; clear hE hS a w; intro a w hE hS
     refine WL.nil ?_
     refine W.seq ?_
     obtain ⟨q109, hq108, hq84⟩ := bindS hq84
     refine W.cut (fun a w => ∃ (q112 : Bool), q112 = q109 ∧ Rep a 54 [(1, .pointer (some ⟨b51, 0, none⟩)), (3, .slice (some ⟨b54, 0, none⟩) x52.length x52.length), (4, .bool q95), (6, .pointer (some ⟨b107, 0, none⟩)), (14, .int .i64 (w64 (((x0.Plan).length : Int) + 1))), (15, .int .i64 q75), (18, .slice a0_1 x0.Links.length c0_1), (19, .int .i64 ((x0.Links).length : Int)), (20, .int .i64 ((k86 : Nat) : Int)), (39, .bool q112)] ∧ St w s (pt b107 (.cells (MendLink.cells x87).toArray 53 (0, 0)) :: vecC 3 1 (some ⟨b54, 0, none⟩) x52.length x52.length cs100 :: pt b51 (.cells #[.int .i64 x0.Period, .slice a0_0 x0.Plan.length c0_0, .slice a0_1 x0.Links.length c0_1] 51 (0, 0)) :: R)) ?_ ?_
     ·refine W.gen fun K113 hK113 => ?_
      refine W.regionQ (C := fun w => St w s (pt b107 (.cells (MendLink.cells x87).toArray 53 (0, 0)) :: vecC 3 1 (some ⟨b54, 0, none⟩) x52.length x52.length cs100 :: pt b51 (.cells #[.int .i64 x0.Period, .slice a0_0 x0.Plan.length c0_0, .slice a0_1 x0.Links.length c0_1] 51 (0, 0)) :: R)) mixed (by kernel_rfl) hS.drew ?_
      refine QL.v hE (runs_plain rfl) (Gives.fld hE rfl fl53_3) rfl ?_; clear hE a; intro a hE
      refine QL.v hE (runs_plain rfl) (Gives.loadB hE 0 rfl rfl rfl ty3) rfl ?_; clear hE a; intro a hE
      refine QL.v hE (runs_plain rfl) (Gives.p hE rfl) rfl ?_; clear hE a; intro a hE
      refine QL.v hE (runs_plain rfl) (Gives.p hE rfl) rfl ?_; clear hE a; intro a hE
      rcases Bool.eq_false_or_eq_true (x87.Back == 0) with hg114 | hg114
      ·replace hq108 := iteT hg114 hq108
       refine QL.v hE (runs_if hE rfl rfl rfl hg114) (Gives.p hE rfl) rfl ?_; clear hE a; intro a hE
       refine QL.v hE (runs_if hE rfl rfl rfl hg114) (Gives.fld hE rfl fl53_1) rfl ?_; clear hE a; intro a hE
       refine QL.v hE (runs_if hE rfl rfl rfl hg114) (Gives.loadB hE 0 rfl rfl rfl ty3) rfl ?_; clear hE a; intro a hE
       obtain ⟨x115, hx116, hq108⟩ := bindS hq108
       obtain ⟨hi117, hlt118, hy119⟩ := gx_some hx116
       obtain ⟨vs120, hl121, hR122, hd123, hget124⟩ := h99.at hy119
       subst hR122
       refine QL.v hE (runs_if hE rfl rfl rfl hg114) (Gives.idx hE ((x87.To).toNat) rfl rfl sl29 hi117 (by have := hn101; omega) (hS.vecAok 1 rfl (by have := hn101; omega : (x87.To).toNat < x52.length))) rfl ?_; clear hE a; intro a hE
       refine QL.v hE (runs_if hE rfl rfl rfl hg114) (Gives.load1 hE rfl (fun w h => St.vecSees h 1 rfl ((x87.To).toNat * 1) _ hget124) ty3) rfl ?_; clear hE a; intro a hE
       refine QL.v hE (runs_if hE rfl rfl rfl hg114) (Gives.p hE rfl) rfl ?_; clear hE a; intro a hE
       refine QL.v hE (runs_if hE rfl rfl rfl hg114) (Gives.fld hE rfl fl53_0) rfl ?_; clear hE a; intro a hE
       refine QL.v hE (runs_if hE rfl rfl rfl hg114) (Gives.loadB hE 0 rfl rfl rfl ty3) rfl ?_; clear hE a; intro a hE
       obtain ⟨x125, hx126, hq108⟩ := bindS hq108
       obtain ⟨hi127, hlt128, hy129⟩ := gx_some hx126
       obtain ⟨vs130, hl131, hR132, hd133, hget134⟩ := h99.at hy129
       subst hR132
       refine QL.v hE (runs_if hE rfl rfl rfl hg114) (Gives.idx hE ((x87.From).toNat) rfl rfl sl29 hi127 (by have := hn101; omega) (hS.vecAok 1 rfl (by have := hn101; omega : (x87.From).toNat < x52.length))) rfl ?_; clear hE a; intro a hE
       refine QL.v hE (runs_if hE rfl rfl rfl hg114) (Gives.load1 hE rfl (fun w h => St.vecSees h 1 rfl ((x87.From).toNat * 1) _ hget134) ty3) rfl ?_; clear hE a; intro a hE
       refine QL.v hE (runs_if hE rfl rfl rfl hg114) (Gives.p hE rfl) rfl ?_; clear hE a; intro a hE
       refine QL.v hE (runs_plain rfl) (Gives.pickT hE rfl hg114 rfl) rfl ?_; clear hE a; intro a hE
       refine QL.nil ?_; clear hS w; intro w hS
       subst hK113
       exact ⟨decide (x115 ≤ x125), Option.some.inj hq108, hE.pick _ ⟨rfl, rfl, rfl, rfl, rfl, rfl, rfl, rfl, rfl, rfl, trivial⟩, hS⟩
      ·replace hq108 := iteF hg114 hq108
       refine QL.no hE (runs_not hE rfl rfl rfl (by rw [hg114]; decide)) rfl ?_; clear hE a; intro a hE
       refine QL.no hE (runs_not hE rfl rfl rfl (by rw [hg114]; decide)) rfl ?_; clear hE a; intro a hE
       refine QL.no hE (runs_not hE rfl rfl rfl (by rw [hg114]; decide)) rfl ?_; clear hE a; intro a hE
       refine QL.no hE (runs_not hE rfl rfl rfl (by rw [hg114]; decide)) rfl ?_; clear hE a; intro a hE
       refine QL.no hE (runs_not hE rfl rfl rfl (by rw [hg114]; decide)) rfl ?_; clear hE a; intro a hE
       refine QL.no hE (runs_not hE rfl rfl rfl (by rw [hg114]; decide)) rfl ?_; clear hE a; intro a hE
       refine QL.no hE (runs_not hE rfl rfl rfl (by rw [hg114]; decide)) rfl ?_; clear hE a; intro a hE
       refine QL.no hE (runs_not hE rfl rfl rfl (by rw [hg114]; decide)) rfl ?_; clear hE a; intro a hE
       refine QL.no hE (runs_not hE rfl rfl rfl (by rw [hg114]; decide)) rfl ?_; clear hE a; intro a hE
       refine QL.no hE (runs_not hE rfl rfl rfl (by rw [hg114]; decide)) rfl ?_; clear hE a; intro a hE
       refine QL.no hE (runs_not hE rfl rfl rfl (by rw [hg114]; decide)) rfl ?_; clear hE a; intro a hE
       refine QL.v hE (runs_plain rfl) (Gives.pickF hE rfl hg114 rfl) rfl ?_; clear hE a; intro a hE
       refine QL.nil ?_; clear hS w; intro w hS
       subst hK113
       exact ⟨false, Option.some.inj hq108, hE.pick _ ⟨rfl, rfl, rfl, rfl, rfl, rfl, rfl, rfl, rfl, rfl, trivial⟩, hS⟩
     ·clear hE hS a w; rintro a w ⟨q112, rfl, hE, hS⟩
      obtain ⟨q136, hq135, hq84⟩ := bindS hq84
      refine W.cut (fun a w => ∃ (q139 : Bool), ∃ (q140 : List Int), ∃ (cs144 : List Value), (q139, q140) = q136 ∧ Ev 1 (RI .i64) s cs144 q140 ∧ q140.length = x52.length ∧ Rep a 54 [(1, .pointer (some ⟨b51, 0, none⟩)), (3, .slice (some ⟨b54, 0, none⟩) x52.length x52.length), (4, .bool q139), (14, .int .i64 (w64 (((x0.Plan).length : Int) + 1))), (15, .int .i64 q75), (18, .slice a0_1 x0.Links.length c0_1), (19, .int .i64 ((x0.Links).length : Int)), (20, .int .i64 ((k86 : Nat) : Int))] ∧ St w s (pt b107 (.cells (MendLink.cells x87).toArray 53 (0, 0)) :: vecC 3 1 (some ⟨b54, 0, none⟩) x52.length x52.length cs144 :: pt b51 (.cells #[.int .i64 x0.Period, .slice a0_0 x0.Plan.length c0_0, .slice a0_1 x0.Links.length c0_1] 51 (0, 0)) :: R)) ?_ ?_
      ·refine W.gen fun K146 hK146 => ?_
       refine W.cond hE rfl (fun hc147 => ?_) (fun hc147 => ?_)
       ·replace hq135 := iteT hc147 hq135
        refine W.gen fun K148 hK148 => ?_
        refine W.regionE (sel (fun w => St w s (pt b107 (.cells (MendLink.cells x87).toArray 53 (0, 0)) :: vecC 3 1 (some ⟨b54, 0, none⟩) x52.length x52.length cs100 :: pt b51 (.cells #[.int .i64 x0.Period, .slice a0_0 x0.Plan.length c0_0, .slice a0_1 x0.Links.length c0_1] 51 (0, 0)) :: R)) (fun w => St w s (pt b107 (.cells (MendLink.cells x87).toArray 53 (0, 0)) :: pt b51 (.cells #[.int .i64 x0.Period, .slice a0_0 x0.Plan.length c0_0, .slice a0_1 x0.Links.length c0_1] 51 (0, 0)) :: R))) (fun b i => cond b ([0, 1, 2, 3, 4, 5, 6, 7, 8, 9, 11].contains i) ([0, 1, 2, 3, 4, 5, 6, 7, 8, 9, 10, 11].contains i)) mixed ?_
        replace hS := hS.drew
        refine Rg.takeP (i := 0) hE rfl (by kernel_rfl) (runs_plain rfl) (Gives.p hE rfl) rfl (tw_sel (fun _ => hS) (fun _ => (hS.dropAt 1))) ?_; clear hE a; intro a hE
        refine Rg.takeP (i := 1) hE rfl (by kernel_rfl) (runs_plain rfl) (Gives.fld hE rfl fl53_1) rfl (tw_sel (fun _ => hS) (fun _ => (hS.dropAt 1))) ?_; clear hE a; intro a hE
        have hT := tw_sel (A := fun w => St w s (pt b107 (.cells (MendLink.cells x87).toArray 53 (0, 0)) :: vecC 3 1 (some ⟨b54, 0, none⟩) x52.length x52.length cs100 :: pt b51 (.cells #[.int .i64 x0.Period, .slice a0_0 x0.Plan.length c0_0, .slice a0_1 x0.Links.length c0_1] 51 (0, 0)) :: R)) (B := fun w => St w s (pt b107 (.cells (MendLink.cells x87).toArray 53 (0, 0)) :: pt b51 (.cells #[.int .i64 x0.Period, .slice a0_0 x0.Plan.length c0_0, .slice a0_1 x0.Links.length c0_1] 51 (0, 0)) :: R)) (w := _) (x := true) (y := true) (fun _ => hS) (fun _ => (hS.dropAt 1))
        have hF := hS; replace hS := hS
        refine Rg.take (i := 2) true rfl hE rfl (by kernel_rfl) (runs_plain rfl) (Gives.loadB hE 0 rfl rfl rfl ty3) rfl hT ?_; clear hE a; intro a hE
        replace hS := hF; clear hF hT
        refine Rg.takeP (i := 3) hE rfl (by kernel_rfl) (runs_plain rfl) (Gives.p hE rfl) rfl (tw_sel (fun _ => hS) (fun _ => (hS.dropAt 1))) ?_; clear hE a; intro a hE
        refine Rg.takeP (i := 4) hE rfl (by kernel_rfl) (runs_plain rfl) (Gives.fld hE rfl fl53_0) rfl (tw_sel (fun _ => hS) (fun _ => (hS.dropAt 1))) ?_; clear hE a; intro a hE
        have hT := tw_sel (A := fun w => St w s (pt b107 (.cells (MendLink.cells x87).toArray 53 (0, 0)) :: vecC 3 1 (some ⟨b54, 0, none⟩) x52.length x52.length cs100 :: pt b51 (.cells #[.int .i64 x0.Period, .slice a0_0 x0.Plan.length c0_0, .slice a0_1 x0.Links.length c0_1] 51 (0, 0)) :: R)) (B := fun w => St w s (pt b107 (.cells (MendLink.cells x87).toArray 53 (0, 0)) :: pt b51 (.cells #[.int .i64 x0.Period, .slice a0_0 x0.Plan.length c0_0, .slice a0_1 x0.Links.length c0_1] 51 (0, 0)) :: R)) (w := _) (x := true) (y := true) (fun _ => hS) (fun _ => (hS.dropAt 1))
        have hF := hS; replace hS := hS
        refine Rg.take (i := 5) true rfl hE rfl (by kernel_rfl) (runs_plain rfl) (Gives.loadB hE 0 rfl rfl rfl ty3) rfl hT ?_; clear hE a; intro a hE
        replace hS := hF; clear hF hT
        obtain ⟨x149, hx150, hq135⟩ := bindS hq135
        obtain ⟨hi151, hlt152, hy153⟩ := gx_some hx150
        obtain ⟨vs154, hl155, hR156, hd157, hget158⟩ := h99.at hy153
        subst hR156
        refine Rg.takeP (i := 6) hE rfl (by kernel_rfl) (runs_plain rfl) (Gives.idx hE ((x87.From).toNat) rfl rfl sl29 hi151 (by have := hn101; omega) (hS.vecAok 1 rfl (by have := hn101; omega : (x87.From).toNat < x52.length))) rfl (tw_sel (fun _ => hS) (fun _ => (hS.dropAt 1))) ?_; clear hE a; intro a hE
        have hT := tw_sel (A := fun w => St w s (pt b107 (.cells (MendLink.cells x87).toArray 53 (0, 0)) :: vecC 3 1 (some ⟨b54, 0, none⟩) x52.length x52.length cs100 :: pt b51 (.cells #[.int .i64 x0.Period, .slice a0_0 x0.Plan.length c0_0, .slice a0_1 x0.Links.length c0_1] 51 (0, 0)) :: R)) (B := fun w => St w s (pt b107 (.cells (MendLink.cells x87).toArray 53 (0, 0)) :: pt b51 (.cells #[.int .i64 x0.Period, .slice a0_0 x0.Plan.length c0_0, .slice a0_1 x0.Links.length c0_1] 51 (0, 0)) :: R)) (w := _) (x := true) (y := true) (fun _ => hS) (fun _ => (hS.dropAt 1))
        have hF := hS; replace hS := hS
        refine Rg.take (i := 7) true rfl hE rfl (by kernel_rfl) (runs_plain rfl) (Gives.load1 hE rfl (fun w h => St.vecSees h 1 rfl ((x87.From).toNat * 1) _ hget158) ty3) rfl hT ?_; clear hE a; intro a hE
        replace hS := hF; clear hF hT
        refine Rg.takeP (i := 8) hE rfl (by kernel_rfl) (runs_plain rfl) (Gives.p hE rfl) rfl (tw_sel (fun _ => hS) (fun _ => (hS.dropAt 1))) ?_; clear hE a; intro a hE
        obtain ⟨_, hx160, hq135⟩ := bindS hq135
        obtain ⟨h161, h162⟩ := ix_some hx160
        refine Rg.takeP (i := 9) hE rfl (by kernel_rfl) (runs_plain rfl) (Gives.idx hE ((x87.To).toNat) rfl rfl sl29 h161 (by have := hn101; omega) (hS.vecAok 1 rfl (by have := hn101; omega : (x87.To).toNat < x52.length))) rfl (tw_sel (fun _ => hS) (fun _ => (hS.dropAt 1))) ?_; clear hE a; intro a hE
        refine Rg.one (i := 10) false true rfl (by kernel_rfl) (by kernel_rfl) (by kernel_rfl) ?_
        obtain ⟨x164, hx165, hq135⟩ := bindS hq135
        refine WL.setD hE hS 1 rfl (runs_plain rfl) rfl rfl (vs := [.int .i64 (w64 (x149 + 1))]) rfl ty3 rfl rfl rfl h99 hn101 (sx_some hx165).1 hx165 rfl rfl ?_; clear hE hS a w; intro cs166 a w h167 hn168 hE hS
        refine WL.nil ?_
        refine ⟨⟨fun h => absurd h (by decide), fun _ => (hS.dropAt 1)⟩, ?_⟩
        refine Rg.takeP (i := 11) hE rfl (by kernel_rfl) (runs_plain rfl) (Gives.p hE rfl) rfl (tw_sel (fun h => absurd h (by decide)) (fun _ => (hS.dropAt 1))) ?_; clear hE a; intro a hE
        refine Rg.done (by kernel_rfl) ?_
        subst hK148
        subst hK146
        exact ⟨true, x164, cs166, Option.some.inj hq135, h167, hn168, hE.pick _ ⟨rfl, rfl, rfl, rfl, rfl, rfl, rfl, rfl, trivial⟩, hS⟩
       ·replace hq135 := iteF hc147 hq135
        refine W.skip ?_
        subst hK146
        exact ⟨q95, q96, cs100, Option.some.inj hq135, h99, hn101, hE.pick _ ⟨rfl, rfl, rfl, rfl, rfl, rfl, rfl, rfl, trivial⟩, hS⟩
      ·clear hE hS a w; rintro a w ⟨q139, q140, cs144, rfl, h143, hn145, hE, hS⟩
       dsimp only at hq84
       refine W.region ?_
       refine WL.vS hS hE (runs_plain rfl) (Gives.inc hE rfl (by have := h0_1.small; omega)) rfl ?_; clear hE a; intro a hE
       refine WL.vS hS hE (runs_plain rfl) (Gives.p hE rfl) rfl ?_; clear hE a; intro a hE
       refine WL.nil ?_
       replace hS := hS.tail
       subst hK102
       exact ⟨rest88.length, Nat.lt_succ_self _, rest88, k86 + 1, q139, q140, cs144, rfl, hd89, hq84, h143, hn145, hE.pick _ ⟨rfl, rfl, rfl, rfl, rfl, rfl, rfl, rfl, trivial⟩, hS⟩
   ·clear hE hS a w; rintro a w ⟨q95, q96, cs100, rfl, h99, hn101, hE, hS⟩
    dsimp only at hq69
    refine W.seq (W.region ?_)
    refine WL.vS hS hE (runs_plain rfl) (Gives.p hE rfl) rfl ?_; clear hE a; intro a hE
    refine WL.vS hS hE (runs_plain rfl) (Gives.p hE rfl) rfl ?_; clear hE a; intro a hE
    refine WL.nil ?_
    refine W.cond hE rfl (fun hc169 => ?_) (fun hc169 => ?_)
    ·replace hq69 := iteT hc169 hq69
     refine W.seq (W.region ?_)
     refine WL.vS hS hE (runs_plain rfl) (Gives.p hE rfl) rfl ?_; clear hE a; intro a hE
     refine WL.nil ?_
     refine W.ret ?_
     subst hK82
     rw [← Option.some.inj hq69] at hr
     dsimp only at hr
     refine finG (fn := Try.f66) (rs := [.tmp 2]) (vs := [_]) hE rfl ⟨rfl, trivial⟩ ?_
     obtain rfl := Option.some.inj hr
     replace hS := hS.tail
     replace hS := hS.tail
     exact ⟨rfl, hS⟩
    ·replace hq69 := iteF hc169 hq69
     refine W.skip ?_
     refine W.region ?_
     refine WL.vS hS hE (runs_plain rfl) (Gives.p hE rfl) rfl ?_; clear hE a; intro a hE
     refine WL.vS hS hE (runs_plain rfl) (Gives.p hE rfl) rfl ?_; clear hE a; intro a hE
     refine WL.nil ?_
     subst hK82
     exact ⟨n71, Nat.lt_succ_self _, n71, (w64 (q75 + 1)), q96, cs100, rfl, hq69, h99, hn101, hE.pick _ ⟨rfl, rfl, rfl, rfl, trivial⟩, hS⟩
  ·replace hq69 := iteF hc83 hq69
   subst hK82
   refine W.exit rfl ?_
   exact ⟨q75, q76, cs80, Option.some.inj hq69, h79, hn81, hE.pick _ trivial, hS⟩
 ·clear hE hS a w; rintro a w ⟨q75, q76, cs80, rfl, h79, hn81, hE, hS⟩
  dsimp only at hr
  refine W.seq (W.region ?_)
  refine WL.vS hS hE (runs_plain rfl) (Gives.p hE rfl) rfl ?_; clear hE a; intro a hE
  refine WL.nil ?_
  refine W.ret ?_
  refine finG (fn := Try.f66) (rs := [.tmp 2]) (vs := [_]) hE rfl ⟨rfl, trivial⟩ ?_
  obtain rfl := Option.some.inj hr
  replace hS := hS.tail
  replace hS := hS.tail
  exact ⟨rfl, hS⟩
set_option maxHeartbeats 8000000 in
theorem MendCheckRound_ok {fu : Nat}  {w : World} {s : Sg} {R : List HP} {x0 : MendRound} {a0_0 : Option Addr} {c0_0 : Nat} {a0_1 : Option Addr} {c0_1 : Nat} (hS : St w s (R)) (h0_0 : Sl 1 (RI .i64) s a0_0 c0_0 x0.Plan) (h0_1 : Sl 4 RMendLink s a0_1 c0_1 x0.Links) {r : Int} (hr : MendCheckRound fu x0 = some r) :
  Calls Try.prog 29 [.agg [.int .i64 x0.Period, .slice a0_0 x0.Plan.length c0_0, .slice a0_1 x0.Links.length c0_1].toArray].toArray w (fun e w => e = .returned (.int .i64 r) ∧ St w s (R)) := by
 refine enter Try.func29 rfl rfl rfl fun a hE => ?_
 rw [MendCheckRound] at hr
 refine W.seq (W.region ?_)
 refine WL.box hE hS (runs_plain rfl) rfl rfl rfl ?_; clear hE hS a w; intro b51 a w hE hS
 refine WL.vS hS hE (runs_plain rfl) (Gives.p hE rfl) rfl ?_; clear hE a; intro a hE
 refine WL.nil ?_
 refine W.seq ?_
 refine W.block ?_
 refine W.seq (W.region ?_)
 refine WL.vS hS hE (runs_plain rfl) (Gives.fld hE rfl fl51_0) rfl ?_; clear hE a; intro a hE
 refine WL.vS hS hE (runs_plain rfl) (Gives.loadB hE 0 rfl rfl rfl ty3) rfl ?_; clear hE a; intro a hE
 refine WL.fnq hE (Mendwithin_ok hS  rfl (r := Mendwithin x0.Period 1 3600)) (runs_plain rfl) bd64 rfl rfl rfl ?_
 clear hE hS; rintro e w ⟨rfl, hS⟩; refine ⟨_, rfl, ?_⟩; clear a; intro a hE
 refine WL.vS hS hE (runs_plain rfl) (Gives.p hE rfl) rfl ?_; clear hE a; intro a hE
 refine WL.vS hS hE (runs_plain rfl) (Gives.p hE rfl) rfl ?_; clear hE a; intro a hE
 refine WL.nil ?_
 refine W.cond hE rfl (fun hc52 => ?_) (fun hc52 => ?_)
 ·replace hr := iteT hc52 hr
  refine W.seq (W.region ?_)
  refine WL.vS hS hE (runs_plain rfl) (Gives.p hE rfl) rfl ?_; clear hE a; intro a hE
  refine WL.nil ?_
  refine W.ret ?_
  refine finG (fn := Try.f29) (rs := [.tmp 2]) (vs := [_]) hE rfl ⟨rfl, trivial⟩ ?_
  obtain rfl := Option.some.inj hr
  replace hS := hS.tail
  exact ⟨rfl, hS⟩
 ·replace hr := iteF hc52 hr
  refine W.seq ?_
  obtain ⟨q54, hq53, hr⟩ := bndS hr
  refine W.cut (fun a w => ∃ (q57 : Bool), q57 = q54 ∧ Rep a 83 [(1, .pointer (some ⟨b51, 0, none⟩)), (12, .bool q57)] ∧ St w s (pt b51 (.cells #[.int .i64 x0.Period, .slice a0_0 x0.Plan.length c0_0, .slice a0_1 x0.Links.length c0_1] 51 (0, 0)) :: R)) ?_ ?_
  ·refine W.gen fun K58 hK58 => ?_
   refine W.region ?_
   refine WL.vS hS hE (runs_plain rfl) (Gives.fld hE rfl fl51_1) rfl ?_; clear hE a; intro a hE
   refine WL.vS hS hE (runs_plain rfl) (Gives.loadB hE 0 rfl rfl rfl ty29) rfl ?_; clear hE a; intro a hE
   refine WL.vS hS hE (runs_plain rfl) (Gives.len hE rfl sl29) rfl ?_; clear hE a; intro a hE
   refine WL.fnq hE (Mendwithin_ok hS  rfl (r := Mendwithin ((x0.Plan).length : Int) 1 8)) (runs_plain rfl) bd64 rfl rfl rfl ?_
   clear hE hS; rintro e w ⟨rfl, hS⟩; refine ⟨_, rfl, ?_⟩; clear a; intro a hE
   refine WL.vS hS hE (runs_plain rfl) (Gives.p hE rfl) rfl ?_; clear hE a; intro a hE
   refine WL.vS hS hE (runs_plain rfl) (Gives.p hE rfl) rfl ?_; clear hE a; intro a hE
   rcases Bool.eq_false_or_eq_true (!(Mendwithin ((x0.Plan).length : Int) 1 8)) with hg59 | hg59
   ·replace hq53 := iteT hg59 hq53
    refine WL.no hE (runs_not hE rfl rfl rfl (by rw [hg59]; decide)) rfl ?_; clear hE a; intro a hE
    refine WL.no hE (runs_not hE rfl rfl rfl (by rw [hg59]; decide)) rfl ?_; clear hE a; intro a hE
    refine WL.no hE (runs_not hE rfl rfl rfl (by rw [hg59]; decide)) rfl ?_; clear hE a; intro a hE
    refine WL.no hE (runs_not hE rfl rfl rfl (by rw [hg59]; decide)) rfl ?_; clear hE a; intro a hE
    refine WL.vS hS hE (runs_plain rfl) (Gives.pickT hE rfl hg59 rfl) rfl ?_; clear hE a; intro a hE
    refine WL.vS hS hE (runs_plain rfl) (Gives.p hE rfl) rfl ?_; clear hE a; intro a hE
    refine WL.nil ?_
    subst hK58
    exact ⟨true, hq53, hE.pick _ ⟨rfl, rfl, trivial⟩, hS⟩
   ·replace hq53 := iteF hg59 hq53
    refine WL.vS hS hE (runs_if hE rfl rfl rfl hg59) (Gives.fld hE rfl fl51_2) rfl ?_; clear hE a; intro a hE
    refine WL.vS hS hE (runs_if hE rfl rfl rfl hg59) (Gives.loadB hE 0 rfl rfl rfl ty49) rfl ?_; clear hE a; intro a hE
    refine WL.vS hS hE (runs_if hE rfl rfl rfl hg59) (Gives.len hE rfl sl49) rfl ?_; clear hE a; intro a hE
    refine WL.vS hS hE (runs_if hE rfl rfl rfl hg59) (Gives.p hE rfl) rfl ?_; clear hE a; intro a hE
    refine WL.vS hS hE (runs_plain rfl) (Gives.pickF hE rfl hg59 rfl) rfl ?_; clear hE a; intro a hE
    refine WL.vS hS hE (runs_plain rfl) (Gives.p hE rfl) rfl ?_; clear hE a; intro a hE
    refine WL.nil ?_
    subst hK58
    exact ⟨decide (((x0.Links).length : Int) > 24), hq53, hE.pick _ ⟨rfl, rfl, trivial⟩, hS⟩
  ·clear hE hS a w; rintro a w ⟨q57, rfl, hE, hS⟩
   refine W.cond hE rfl (fun hc60 => ?_) (fun hc60 => ?_)
   ·replace hr := iteT hc60 hr
    refine W.seq (W.region ?_)
    refine WL.vS hS hE (runs_plain rfl) (Gives.p hE rfl) rfl ?_; clear hE a; intro a hE
    refine WL.nil ?_
    refine W.ret ?_
    refine finG (fn := Try.f29) (rs := [.tmp 2]) (vs := [_]) hE rfl ⟨rfl, trivial⟩ ?_
    obtain rfl := Option.some.inj hr
    replace hS := hS.tail
    exact ⟨rfl, hS⟩
   ·replace hr := iteF hc60 hr
    refine W.skip ?_
    refine W.seq ?_
    refine W.seq (W.region ?_)
    refine WL.vS hS hE (runs_plain rfl) (Gives.fld hE rfl fl51_1) rfl ?_; clear hE a; intro a hE
    refine WL.vS hS hE (runs_plain rfl) (Gives.loadB hE 0 rfl rfl rfl ty29) rfl ?_; clear hE a; intro a hE
    refine WL.vS hS hE (runs_plain rfl) (Gives.len hE rfl sl29) rfl ?_; clear hE a; intro a hE
    refine WL.vS hS hE (runs_plain rfl) (Gives.p hE rfl) rfl ?_; clear hE a; intro a hE
    refine WL.nil ?_
    obtain ⟨q62, hq61, hr⟩ := bndS hr
    refine W.cut (fun a w => (.next ()) = q62 ∧ Rep a 83 [(1, .pointer (some ⟨b51, 0, none⟩))] ∧ St w s (pt b51 (.cells #[.int .i64 x0.Period, .slice a0_0 x0.Plan.length c0_0, .slice a0_1 x0.Links.length c0_1] 51 (0, 0)) :: R)) ?_ ?_
    ·refine W.block ?_
     refine W.loop (fun m a w => ∃ (rest65 : List Int) (k63 : Nat), rest65.length = m ∧ x0.Plan.drop k63 = rest65 ∧ MendCheckRound.loop1 x0 rest65 = q62 ∧ Rep a 83 [(1, .pointer (some ⟨b51, 0, none⟩)), (25, .slice a0_0 x0.Plan.length c0_0), (26, .int .i64 ((x0.Plan).length : Int)), (27, .int .i64 ((k63 : Nat) : Int))] ∧ St w s (pt b51 (.cells #[.int .i64 x0.Period, .slice a0_0 x0.Plan.length c0_0, .slice a0_1 x0.Links.length c0_1] 51 (0, 0)) :: R)) (m := x0.Plan.length) ⟨x0.Plan, 0, rfl, rfl, hq61, hE.pick _ ⟨rfl, rfl, rfl, rfl, trivial⟩, hS⟩ ?_
     clear hE hS a w hq61; rintro m69 a w ⟨rest65, k63, rfl, hd66, hq61, hE, hS⟩
     refine W.gen fun K72 hK72 => ?_
     rcases rest65 with _ | ⟨x64, rest65⟩
     ·have hlt67 := drop_nil hd66
      refine W.seq (W.region ?_)
      refine WL.vS hS hE (runs_plain rfl) (Gives.p hE rfl) rfl ?_; clear hE a; intro a hE
      refine WL.nil ?_
      refine W.seq ?_
      refine W.condF hE rfl (decide_eq_false (by omega)) ?_
      subst hK72
      refine W.exit rfl ?_
      exact ⟨hq61, hE.pick _ ⟨rfl, trivial⟩, hS⟩
     ·obtain ⟨hlt67, hx68, hd66⟩ := drop_cons hd66
      rw [MendCheckRound.loop1] at hq61
      refine W.seq (W.region ?_)
      refine WL.vS hS hE (runs_plain rfl) (Gives.p hE rfl) rfl ?_; clear hE a; intro a hE
      refine WL.nil ?_
      refine W.seq ?_
      refine W.condT hE rfl (decide_eq_true (by omega)) ?_
      refine W.skip ?_
      refine W.seq ?_
      refine W.block ?_
      refine W.seq (W.region ?_)
      obtain ⟨cs73, hl74, hR75, hat76⟩ := h0_0.at hx68
      subst hR75
      refine WL.vS hS hE (runs_plain rfl) (Gives.idx hE k63 rfl rfl sl29 rfl hlt67 (h0_0.aok hlt67)) rfl ?_; clear hE a; intro a hE
      refine WL.vS hS hE (runs_plain rfl) (Gives.load1 hE rfl (fun w h => hat76 w _ h) ty3) rfl ?_; clear hE a; intro a hE
      refine WL.vS hS hE (runs_plain rfl) (Gives.p hE rfl) rfl ?_; clear hE a; intro a hE
      refine WL.nil ?_
      refine W.seq (W.region ?_)
      refine WL.vS hS hE (runs_plain rfl) (Gives.p hE rfl) rfl ?_; clear hE a; intro a hE
      refine WL.vS hS hE (runs_plain rfl) (Gives.fld hE rfl fl51_0) rfl ?_; clear hE a; intro a hE
      refine WL.vS hS hE (runs_plain rfl) (Gives.loadB hE 0 rfl rfl rfl ty3) rfl ?_; clear hE a; intro a hE
      refine WL.vS hS hE (runs_plain rfl) (Gives.p hE rfl) rfl ?_; clear hE a; intro a hE
      refine WL.fnq hE (Mendwithin_ok hS  rfl (r := Mendwithin x64 0 (w64 (x0.Period - 1)))) (runs_plain rfl) bd64 rfl rfl rfl ?_
      clear hE hS; rintro e w ⟨rfl, hS⟩; refine ⟨_, rfl, ?_⟩; clear a; intro a hE
      refine WL.vS hS hE (runs_plain rfl) (Gives.p hE rfl) rfl ?_; clear hE a; intro a hE
      refine WL.nil ?_
      refine W.cond hE rfl (fun hc77 => ?_) (fun hc77 => ?_)
      ·replace hq61 := iteT hc77 hq61
       refine W.seq (W.region ?_)
       refine WL.vS hS hE (runs_plain rfl) (Gives.p hE rfl) rfl ?_; clear hE a; intro a hE
       refine WL.nil ?_
       refine W.ret ?_
       subst hK72
       rw [← hq61] at hr
       dsimp only at hr
       refine finG (fn := Try.f29) (rs := [.tmp 2]) (vs := [_]) hE rfl ⟨rfl, trivial⟩ ?_
       obtain rfl := Option.some.inj hr
       replace hS := hS.tail
       exact ⟨rfl, hS⟩
      ·replace hq61 := iteF hc77 hq61
       refine W.skip ?_
       refine W.region ?_
       refine WL.vS hS hE (runs_plain rfl) (Gives.inc hE rfl (by have := h0_0.small; omega)) rfl ?_; clear hE a; intro a hE
       refine WL.vS hS hE (runs_plain rfl) (Gives.p hE rfl) rfl ?_; clear hE a; intro a hE
       refine WL.nil ?_
       subst hK72
       exact ⟨rest65.length, Nat.lt_succ_self _, rest65, k63 + 1, rfl, hd66, hq61, hE.pick _ ⟨rfl, rfl, rfl, rfl, trivial⟩, hS⟩
    ·clear hE hS a w; rintro a w ⟨rfl, hE, hS⟩
     dsimp only at hr
     refine W.seq ?_
     refine W.seq (W.region ?_)
     refine WL.vS hS hE (runs_plain rfl) (Gives.fld hE rfl fl51_2) rfl ?_; clear hE a; intro a hE
     refine WL.vS hS hE (runs_plain rfl) (Gives.loadB hE 0 rfl rfl rfl ty49) rfl ?_; clear hE a; intro a hE
     refine WL.vS hS hE (runs_plain rfl) (Gives.len hE rfl sl49) rfl ?_; clear hE a; intro a hE
     refine WL.vS hS hE (runs_plain rfl) (Gives.p hE rfl) rfl ?_; clear hE a; intro a hE
     refine WL.nil ?_
     obtain ⟨q79, hq78, hr⟩ := bindS hr
     refine W.cut (fun a w => (.next ()) = q79 ∧ Rep a 83 [(1, .pointer (some ⟨b51, 0, none⟩))] ∧ St w s (pt b51 (.cells #[.int .i64 x0.Period, .slice a0_0 x0.Plan.length c0_0, .slice a0_1 x0.Links.length c0_1] 51 (0, 0)) :: R)) ?_ ?_
     ·refine W.block ?_
      refine W.loop (fun m a w => ∃ (rest82 : List MendLink) (k80 : Nat), rest82.length = m ∧ x0.Links.drop k80 = rest82 ∧ MendCheckRound.loop2 x0 rest82 = some q79 ∧ Rep a 83 [(1, .pointer (some ⟨b51, 0, none⟩)), (39, .slice a0_1 x0.Links.length c0_1), (40, .int .i64 ((x0.Links).length : Int)), (41, .int .i64 ((k80 : Nat) : Int))] ∧ St w s (pt b51 (.cells #[.int .i64 x0.Period, .slice a0_0 x0.Plan.length c0_0, .slice a0_1 x0.Links.length c0_1] 51 (0, 0)) :: R)) (m := x0.Links.length) ⟨x0.Links, 0, rfl, rfl, hq78, hE.pick _ ⟨rfl, rfl, rfl, rfl, trivial⟩, hS⟩ ?_
      clear hE hS a w hq78; rintro m86 a w ⟨rest82, k80, rfl, hd83, hq78, hE, hS⟩
      refine W.gen fun K89 hK89 => ?_
      rcases rest82 with _ | ⟨x81, rest82⟩
      ·have hlt84 := drop_nil hd83
       refine W.seq (W.region ?_)
       refine WL.vS hS hE (runs_plain rfl) (Gives.p hE rfl) rfl ?_; clear hE a; intro a hE
       refine WL.nil ?_
       refine W.seq ?_
       refine W.condF hE rfl (decide_eq_false (by omega)) ?_
       subst hK89
       refine W.exit rfl ?_
       exact ⟨Option.some.inj hq78, hE.pick _ ⟨rfl, trivial⟩, hS⟩
      ·obtain ⟨hlt84, hx85, hd83⟩ := drop_cons hd83
       rw [MendCheckRound.loop2] at hq78
       refine W.seq (W.region ?_)
       refine WL.vS hS hE (runs_plain rfl) (Gives.p hE rfl) rfl ?_; clear hE a; intro a hE
       refine WL.nil ?_
       refine W.seq ?_
       refine W.condT hE rfl (decide_eq_true (by omega)) ?_
       refine W.skip ?_
       refine W.seq ?_
       refine W.block ?_
       refine W.seq (W.region ?_)
       obtain ⟨cs90, hl91, hR92, hat93⟩ := h0_1.at hx85
       subst hR92
       refine WL.vS hS hE (runs_plain rfl) (Gives.idx hE k80 rfl rfl sl49 rfl hlt84 (h0_1.aok hlt84)) rfl ?_; clear hE a; intro a hE
       refine WL.vS hS hE (runs_plain rfl) (Gives.loadA hE rfl (fun w h => hat93 w _ h) ty53) rfl ?_; clear hE a; intro a hE
       refine WL.alloc hE hS (runs_plain rfl) zr53 rfl ?_; clear hE hS a w; intro b94 a w hE hS
       refine WL.storeI hE hS 0 rfl (MendLink.cells x81) (runs_plain rfl) rfl rfl rfl ty53 rfl rfl rfl rfl ?_; clear hE hS a w; intro a w hE hS
       refine WL.nil ?_
       refine W.block ?_
       refine W.seq ?_
       obtain ⟨q96, hq95, hq78⟩ := bndS hq78
       refine W.cut (fun a w => ∃ (q99 : Bool), q99 = q96 ∧ Rep a 83 [(1, .pointer (some ⟨b51, 0, none⟩)), (6, .pointer (some ⟨b94, 0, none⟩)), (39, .slice a0_1 x0.Links.length c0_1), (40, .int .i64 ((x0.Links).length : Int)), (41, .int .i64 ((k80 : Nat) : Int)), (45, .bool q99)] ∧ St w s (pt b94 (.cells (MendLink.cells x81).toArray 53 (0, 0)) :: pt b51 (.cells #[.int .i64 x0.Period, .slice a0_0 x0.Plan.length c0_0, .slice a0_1 x0.Links.length c0_1] 51 (0, 0)) :: R)) ?_ ?_
       ·refine W.gen fun K100 hK100 => ?_
        refine W.region ?_
        refine WL.vS hS hE (runs_plain rfl) (Gives.fld hE rfl fl53_0) rfl ?_; clear hE a; intro a hE
        refine WL.vS hS hE (runs_plain rfl) (Gives.loadB hE 0 rfl rfl rfl ty3) rfl ?_; clear hE a; intro a hE
        refine WL.vS hS hE (runs_plain rfl) (Gives.fld hE rfl fl51_1) rfl ?_; clear hE a; intro a hE
        refine WL.vS hS hE (runs_plain rfl) (Gives.loadB hE 1 rfl rfl rfl ty29) rfl ?_; clear hE a; intro a hE
        refine WL.vS hS hE (runs_plain rfl) (Gives.len hE rfl sl29) rfl ?_; clear hE a; intro a hE
        refine WL.vS hS hE (runs_plain rfl) (Gives.p hE rfl) rfl ?_; clear hE a; intro a hE
        refine WL.fnq hE (Mendwithin_ok hS  rfl (r := Mendwithin x81.From 0 (w64 (((x0.Plan).length : Int) - 1)))) (runs_plain rfl) bd64 rfl rfl rfl ?_
        clear hE hS; rintro e w ⟨rfl, hS⟩; refine ⟨_, rfl, ?_⟩; clear a; intro a hE
        refine WL.vS hS hE (runs_plain rfl) (Gives.p hE rfl) rfl ?_; clear hE a; intro a hE
        refine WL.vS hS hE (runs_plain rfl) (Gives.p hE rfl) rfl ?_; clear hE a; intro a hE
        rcases Bool.eq_false_or_eq_true (!(Mendwithin x81.From 0 (w64 (((x0.Plan).length : Int) - 1)))) with hg101 | hg101
        ·replace hq95 := iteT hg101 hq95
         refine WL.no hE (runs_not hE rfl rfl rfl (by rw [hg101]; decide)) rfl ?_; clear hE a; intro a hE
         refine WL.no hE (runs_not hE rfl rfl rfl (by rw [hg101]; decide)) rfl ?_; clear hE a; intro a hE
         refine WL.no hE (runs_not hE rfl rfl rfl (by rw [hg101]; decide)) rfl ?_; clear hE a; intro a hE
         refine WL.no hE (runs_not hE rfl rfl rfl (by rw [hg101]; decide)) rfl ?_; clear hE a; intro a hE
         refine WL.no hE (runs_not hE rfl rfl rfl (by rw [hg101]; decide)) rfl ?_; clear hE a; intro a hE
         refine WL.no hE (runs_not hE rfl rfl rfl (by rw [hg101]; decide)) rfl ?_; clear hE a; intro a hE
         refine WL.no hE (runs_not hE rfl rfl rfl (by rw [hg101]; decide)) rfl ?_; clear hE a; intro a hE
         refine WL.no hE (runs_not hE rfl rfl rfl (by rw [hg101]; decide)) rfl ?_; clear hE a; intro a hE
         refine WL.vS hS hE (runs_plain rfl) (Gives.pickT hE rfl hg101 rfl) rfl ?_; clear hE a; intro a hE
         refine WL.vS hS hE (runs_plain rfl) (Gives.p hE rfl) rfl ?_; clear hE a; intro a hE
         refine WL.nil ?_
         subst hK100
         exact ⟨true, hq95, hE.pick _ ⟨rfl, rfl, rfl, rfl, rfl, rfl, trivial⟩, hS⟩
        ·replace hq95 := iteF hg101 hq95
         refine WL.vS hS hE (runs_if hE rfl rfl rfl hg101) (Gives.fld hE rfl fl53_1) rfl ?_; clear hE a; intro a hE
         refine WL.vS hS hE (runs_if hE rfl rfl rfl hg101) (Gives.loadB hE 0 rfl rfl rfl ty3) rfl ?_; clear hE a; intro a hE
         refine WL.vS hS hE (runs_if hE rfl rfl rfl hg101) (Gives.fld hE rfl fl51_1) rfl ?_; clear hE a; intro a hE
         refine WL.vS hS hE (runs_if hE rfl rfl rfl hg101) (Gives.loadB hE 1 rfl rfl rfl ty29) rfl ?_; clear hE a; intro a hE
         refine WL.vS hS hE (runs_if hE rfl rfl rfl hg101) (Gives.len hE rfl sl29) rfl ?_; clear hE a; intro a hE
         refine WL.vS hS hE (runs_if hE rfl rfl rfl hg101) (Gives.p hE rfl) rfl ?_; clear hE a; intro a hE
         refine WL.fnq hE (Mendwithin_ok hS  rfl (r := Mendwithin x81.To 0 (w64 (((x0.Plan).length : Int) - 1)))) (runs_if hE rfl rfl rfl hg101) bd64 rfl rfl rfl ?_
         clear hE hS; rintro e w ⟨rfl, hS⟩; refine ⟨_, rfl, ?_⟩; clear a; intro a hE
         refine WL.vS hS hE (runs_if hE rfl rfl rfl hg101) (Gives.p hE rfl) rfl ?_; clear hE a; intro a hE
         refine WL.vS hS hE (runs_plain rfl) (Gives.pickF hE rfl hg101 rfl) rfl ?_; clear hE a; intro a hE
         refine WL.vS hS hE (runs_plain rfl) (Gives.p hE rfl) rfl ?_; clear hE a; intro a hE
         refine WL.nil ?_
         subst hK100
         exact ⟨!(Mendwithin x81.To 0 (w64 (((x0.Plan).length : Int) - 1))), hq95, hE.pick _ ⟨rfl, rfl, rfl, rfl, rfl, rfl, trivial⟩, hS⟩
       ·clear hE hS a w; rintro a w ⟨q99, rfl, hE, hS⟩
        refine W.cond hE rfl (fun hc102 => ?_) (fun hc102 => ?_)
        ·replace hq78 := iteT hc102 hq78
         refine W.seq (W.region ?_)
         refine WL.vS hS hE (runs_plain rfl) (Gives.p hE rfl) rfl ?_; clear hE a; intro a hE
         refine WL.nil ?_
         refine W.ret ?_
         subst hK89
         rw [← Option.some.inj hq78] at hr
         dsimp only at hr
         refine finG (fn := Try.f29) (rs := [.tmp 2]) (vs := [_]) hE rfl ⟨rfl, trivial⟩ ?_
         obtain rfl := Option.some.inj hr
         replace hS := hS.tail
         replace hS := hS.tail
         exact ⟨rfl, hS⟩
        ·replace hq78 := iteF hc102 hq78
         refine W.seq ?_
         obtain ⟨q104, hq103, hq78⟩ := bndS hq78
         refine W.cut (fun a w => ∃ (q107 : Bool), q107 = q104 ∧ Rep a 83 [(1, .pointer (some ⟨b51, 0, none⟩)), (6, .pointer (some ⟨b94, 0, none⟩)), (39, .slice a0_1 x0.Links.length c0_1), (40, .int .i64 ((x0.Links).length : Int)), (41, .int .i64 ((k80 : Nat) : Int)), (64, .bool q107)] ∧ St w s (pt b94 (.cells (MendLink.cells x81).toArray 53 (0, 0)) :: pt b51 (.cells #[.int .i64 x0.Period, .slice a0_0 x0.Plan.length c0_0, .slice a0_1 x0.Links.length c0_1] 51 (0, 0)) :: R)) ?_ ?_
         ·refine W.gen fun K108 hK108 => ?_
          refine W.region ?_
          refine WL.vS hS hE (runs_plain rfl) (Gives.fld hE rfl fl53_2) rfl ?_; clear hE a; intro a hE
          refine WL.vS hS hE (runs_plain rfl) (Gives.loadB hE 0 rfl rfl rfl ty3) rfl ?_; clear hE a; intro a hE
          refine WL.fnq hE (Mendwithin_ok hS  rfl (r := Mendwithin x81.Len 0 28800)) (runs_plain rfl) bd64 rfl rfl rfl ?_
          clear hE hS; rintro e w ⟨rfl, hS⟩; refine ⟨_, rfl, ?_⟩; clear a; intro a hE
          refine WL.vS hS hE (runs_plain rfl) (Gives.p hE rfl) rfl ?_; clear hE a; intro a hE
          refine WL.vS hS hE (runs_plain rfl) (Gives.p hE rfl) rfl ?_; clear hE a; intro a hE
          rcases Bool.eq_false_or_eq_true (!(Mendwithin x81.Len 0 28800)) with hg109 | hg109
          ·replace hq103 := iteT hg109 hq103
           refine WL.no hE (runs_not hE rfl rfl rfl (by rw [hg109]; decide)) rfl ?_; clear hE a; intro a hE
           refine WL.no hE (runs_not hE rfl rfl rfl (by rw [hg109]; decide)) rfl ?_; clear hE a; intro a hE
           refine WL.no hE (runs_not hE rfl rfl rfl (by rw [hg109]; decide)) rfl ?_; clear hE a; intro a hE
           refine WL.no hE (runs_not hE rfl rfl rfl (by rw [hg109]; decide)) rfl ?_; clear hE a; intro a hE
           refine WL.vS hS hE (runs_plain rfl) (Gives.pickT hE rfl hg109 rfl) rfl ?_; clear hE a; intro a hE
           refine WL.vS hS hE (runs_plain rfl) (Gives.p hE rfl) rfl ?_; clear hE a; intro a hE
           refine WL.nil ?_
           subst hK108
           exact ⟨true, hq103, hE.pick _ ⟨rfl, rfl, rfl, rfl, rfl, rfl, trivial⟩, hS⟩
          ·replace hq103 := iteF hg109 hq103
           refine WL.vS hS hE (runs_if hE rfl rfl rfl hg109) (Gives.fld hE rfl fl53_3) rfl ?_; clear hE a; intro a hE
           refine WL.vS hS hE (runs_if hE rfl rfl rfl hg109) (Gives.loadB hE 0 rfl rfl rfl ty3) rfl ?_; clear hE a; intro a hE
           refine WL.fnq hE (Mendwithin_ok hS  rfl (r := Mendwithin x81.Back 0 3)) (runs_if hE rfl rfl rfl hg109) bd64 rfl rfl rfl ?_
           clear hE hS; rintro e w ⟨rfl, hS⟩; refine ⟨_, rfl, ?_⟩; clear a; intro a hE
           refine WL.vS hS hE (runs_if hE rfl rfl rfl hg109) (Gives.p hE rfl) rfl ?_; clear hE a; intro a hE
           refine WL.vS hS hE (runs_plain rfl) (Gives.pickF hE rfl hg109 rfl) rfl ?_; clear hE a; intro a hE
           refine WL.vS hS hE (runs_plain rfl) (Gives.p hE rfl) rfl ?_; clear hE a; intro a hE
           refine WL.nil ?_
           subst hK108
           exact ⟨!(Mendwithin x81.Back 0 3), hq103, hE.pick _ ⟨rfl, rfl, rfl, rfl, rfl, rfl, trivial⟩, hS⟩
         ·clear hE hS a w; rintro a w ⟨q107, rfl, hE, hS⟩
          refine W.cond hE rfl (fun hc110 => ?_) (fun hc110 => ?_)
          ·replace hq78 := iteT hc110 hq78
           refine W.seq (W.region ?_)
           refine WL.vS hS hE (runs_plain rfl) (Gives.p hE rfl) rfl ?_; clear hE a; intro a hE
           refine WL.nil ?_
           refine W.ret ?_
           subst hK89
           rw [← Option.some.inj hq78] at hr
           dsimp only at hr
           refine finG (fn := Try.f29) (rs := [.tmp 2]) (vs := [_]) hE rfl ⟨rfl, trivial⟩ ?_
           obtain rfl := Option.some.inj hr
           replace hS := hS.tail
           replace hS := hS.tail
           exact ⟨rfl, hS⟩
          ·replace hq78 := iteF hc110 hq78
           refine W.seq (W.region ?_)
           refine WL.vS hS hE (runs_plain rfl) (Gives.loadBA hE 1 rfl rfl ty51) rfl ?_; clear hE a; intro a hE
           refine WL.vS hS hE (runs_plain rfl) (Gives.loadBA hE 0 rfl rfl ty53) rfl ?_; clear hE a; intro a hE
           obtain ⟨q111, hq112, hq78⟩ := bindS hq78
           have hc_ := MendRoundslack_ok hS h0_0 h0_1 hq112
           refine WL.fnq hE (hc_) (runs_plain rfl) bd65 rfl rfl rfl ?_
           clear hE hS hc_; rintro e w ⟨rfl, hS⟩; refine ⟨_, rfl, ?_⟩; clear a; intro a hE
           refine WL.vS hS hE (runs_plain rfl) (Gives.p hE rfl) rfl ?_; clear hE a; intro a hE
           refine WL.vS hS hE (runs_plain rfl) (Gives.p hE rfl) rfl ?_; clear hE a; intro a hE
           refine WL.nil ?_
           refine W.cond hE rfl (fun hc113 => ?_) (fun hc113 => ?_)
           ·replace hq78 := iteT hc113 hq78
            refine W.seq (W.region ?_)
            refine WL.vS hS hE (runs_plain rfl) (Gives.p hE rfl) rfl ?_; clear hE a; intro a hE
            refine WL.nil ?_
            refine W.ret ?_
            subst hK89
            rw [← Option.some.inj hq78] at hr
            dsimp only at hr
            refine finG (fn := Try.f29) (rs := [.tmp 2]) (vs := [_]) hE rfl ⟨rfl, trivial⟩ ?_
            obtain rfl := Option.some.inj hr
            replace hS := hS.tail
            replace hS := hS.tail
            exact ⟨rfl, hS⟩
           ·replace hq78 := iteF hc113 hq78
            refine W.skip ?_
            refine W.region ?_
            refine WL.vS hS hE (runs_plain rfl) (Gives.inc hE rfl (by have := h0_1.small; omega)) rfl ?_; clear hE a; intro a hE
            refine WL.vS hS hE (runs_plain rfl) (Gives.p hE rfl) rfl ?_; clear hE a; intro a hE
            refine WL.nil ?_
            replace hS := hS.tail
            subst hK89
            exact ⟨rest82.length, Nat.lt_succ_self _, rest82, k80 + 1, rfl, hd83, hq78, hE.pick _ ⟨rfl, rfl, rfl, rfl, trivial⟩, hS⟩
     ·clear hE hS a w; rintro a w ⟨rfl, hE, hS⟩
      dsimp only at hr
      refine W.seq ?_
      refine W.seq (W.region ?_)
      refine WL.vS hS hE (runs_plain rfl) (Gives.loadBA hE 0 rfl rfl ty51) rfl ?_; clear hE a; intro a hE
      obtain ⟨q114, hq115, hr⟩ := bindS hr
      have hc_ := MendRoundring_ok hS h0_0 h0_1 hq115
      refine WL.fnq hE (hc_) (runs_plain rfl) bd66 rfl rfl rfl ?_
      clear hE hS hc_; rintro e w ⟨rfl, hS⟩; refine ⟨_, rfl, ?_⟩; clear a; intro a hE
      refine WL.nil ?_
      refine W.cond hE rfl (fun hc116 => ?_) (fun hc116 => ?_)
      ·replace hr := iteT hc116 hr
       refine W.seq (W.region ?_)
       refine WL.vS hS hE (runs_plain rfl) (Gives.p hE rfl) rfl ?_; clear hE a; intro a hE
       refine WL.nil ?_
       refine W.ret ?_
       refine finG (fn := Try.f29) (rs := [.tmp 2]) (vs := [_]) hE rfl ⟨rfl, trivial⟩ ?_
       obtain rfl := Option.some.inj hr
       replace hS := hS.tail
       exact ⟨rfl, hS⟩
      ·replace hr := iteF hc116 hr
       refine W.skip ?_
       refine W.seq (W.region ?_)
       refine WL.vS hS hE (runs_plain rfl) (Gives.p hE rfl) rfl ?_; clear hE a; intro a hE
       refine WL.nil ?_
       refine W.ret ?_
       refine finG (fn := Try.f29) (rs := [.tmp 2]) (vs := [_]) hE rfl ⟨rfl, trivial⟩ ?_
       obtain rfl := Option.some.inj hr
       replace hS := hS.tail
       exact ⟨rfl, hS⟩
set_option maxHeartbeats 8000000 in
theorem SlicesRepeatLint_ok {fu : Nat}  {w : World} {s : Sg} {R : List HP} {x0 : List Int} {a0 : Option Addr} {c0 : Nat} {x1 : Int} (hS : St w s (R)) (h0 : Sl 1 (RI .i64) s a0 c0 x0) {r : (List Int)} (hr : SlicesRepeatLint fu x0 x1 = some r) :
  Calls Try.prog 67 [.slice a0 x0.length c0, .int .i64 x1].toArray w (fun e w => ∃ (a0 : Option Addr) (c0 n0 : Nat) (cs0 : List Value), e = .returned (.slice a0 n0 c0) ∧ Ev 1 (RI .i64) s cs0 r ∧ r.length = n0 ∧ St w s (vecC 3 1 a0 c0 n0 cs0 :: R)) := by
 refine enter Try.func67 rfl rfl rfl fun a hE => ?_
 rw [SlicesRepeatLint] at hr
 refine W.seq (W.region ?_)
 refine WL.vS hS hE (runs_plain rfl) (Gives.p hE rfl) rfl ?_; clear hE a; intro a hE
 refine WL.nil ?_
 refine W.seq ?_
 refine W.seq (W.region ?_)
 refine WL.vS hS hE (runs_plain rfl) (Gives.p hE rfl) rfl ?_; clear hE a; intro a hE
 refine WL.vS hS hE (runs_plain rfl) (Gives.p hE rfl) rfl ?_; clear hE a; intro a hE
 refine WL.nil ?_
 refine W.cond hE rfl (fun hc51 => ?_) (fun hc51 => ?_)
 ·replace hr := iteT hc51 hr
  refine W.region ?_
  exact absurd hr (by simp)
 ·replace hr := iteF hc51 hr
  refine W.skip ?_
  refine W.seq (W.region ?_)
  refine WL.vS hS hE (runs_plain rfl) (Gives.p hE rfl) rfl ?_; clear hE a; intro a hE
  refine WL.vS hS hE (runs_plain rfl) (Gives.len hE rfl sl29) rfl ?_; clear hE a; intro a hE
  refine WL.vS hS hE (runs_plain rfl) (Gives.conv hE rfl hu3 ui110) rfl ?_; clear hE a; intro a hE
  refine WL.vS hS hE (runs_plain rfl) (Gives.p hE rfl) rfl ?_; clear hE a; intro a hE
  refine WL.vS hS hE (runs_plain rfl) (Gives.conv hE rfl hu3 ui110) rfl ?_; clear hE a; intro a hE
  obtain ⟨q52, hq53, hr⟩ := bndS hr
  have hc_ := MathBitsMul_ok hS  hq53
  refine WL.fnq hE (hc_) (runs_plain rfl) bd77 rfl rfl rfl ?_
  clear hE hS hc_; rintro e w ⟨rfl, hS⟩; refine ⟨_, rfl, ?_⟩; clear a; intro a hE
  refine WL.vS hS hE (runs_plain rfl) (Gives.p hE rfl) rfl ?_; clear hE a; intro a hE
  refine WL.vS hS hE (runs_plain rfl) (Gives.p hE rfl) rfl ?_; clear hE a; intro a hE
  refine WL.vS hS hE (runs_plain rfl) (Gives.p hE rfl) rfl ?_; clear hE a; intro a hE
  refine WL.vS hS hE (runs_plain rfl) (Gives.p hE rfl) rfl ?_; clear hE a; intro a hE
  refine WL.vS hS hE (runs_plain rfl) (Gives.p hE rfl) rfl ?_; clear hE a; intro a hE
  refine WL.nil ?_
  refine W.seq ?_
  refine W.seq ?_
  obtain ⟨q55, hq54, hr⟩ := bndS hr
  refine W.cut (fun a w => ∃ (q58 : Bool), q58 = q55 ∧ Rep a 48 [(0, .slice a0 x0.length c0), (6, .int .u64 q52.2), (26, .bool q58)] ∧ St w s (R)) ?_ ?_
  ·refine W.gen fun K59 hK59 => ?_
   refine W.region ?_
   refine WL.vS hS hE (runs_plain rfl) (Gives.p hE rfl) rfl ?_; clear hE a; intro a hE
   refine WL.vS hS hE (runs_plain rfl) (Gives.p hE rfl) rfl ?_; clear hE a; intro a hE
   refine WL.vS hS hE (runs_plain rfl) (Gives.p hE rfl) rfl ?_; clear hE a; intro a hE
   rcases Bool.eq_false_or_eq_true (decide (q52.1 > 0)) with hg60 | hg60
   ·replace hq54 := iteT hg60 hq54
    refine WL.no hE (runs_not hE rfl rfl rfl (by rw [hg60]; decide)) rfl ?_; clear hE a; intro a hE
    refine WL.no hE (runs_not hE rfl rfl rfl (by rw [hg60]; decide)) rfl ?_; clear hE a; intro a hE
    refine WL.vS hS hE (runs_plain rfl) (Gives.pickT hE rfl hg60 rfl) rfl ?_; clear hE a; intro a hE
    refine WL.nil ?_
    subst hK59
    exact ⟨true, hq54, hE.pick _ ⟨rfl, rfl, rfl, trivial⟩, hS⟩
   ·replace hq54 := iteF hg60 hq54
    refine WL.vS hS hE (runs_if hE rfl rfl rfl hg60) (Gives.p hE rfl) rfl ?_; clear hE a; intro a hE
    refine WL.vS hS hE (runs_if hE rfl rfl rfl hg60) (Gives.p hE rfl) rfl ?_; clear hE a; intro a hE
    refine WL.vS hS hE (runs_plain rfl) (Gives.pickF hE rfl hg60 rfl) rfl ?_; clear hE a; intro a hE
    refine WL.nil ?_
    subst hK59
    exact ⟨decide (q52.2 > 9223372036854775807), hq54, hE.pick _ ⟨rfl, rfl, rfl, trivial⟩, hS⟩
  ·clear hE hS a w; rintro a w ⟨q58, rfl, hE, hS⟩
   refine W.cond hE rfl (fun hc61 => ?_) (fun hc61 => ?_)
   ·replace hr := iteT hc61 hr
    refine W.region ?_
    exact absurd hr (by simp)
   ·replace hr := iteF hc61 hr
    refine W.skip ?_
    refine W.seq (W.region ?_)
    refine WL.vS hS hE (runs_plain rfl) (Gives.p hE rfl) rfl ?_; clear hE a; intro a hE
    refine WL.vS hS hE (runs_plain rfl) (Gives.conv hE rfl hu110 ui3) rfl ?_; clear hE a; intro a hE
    obtain ⟨x62, hx63, hr⟩ := bindS hr
    refine WL.mkD (Rr := RI .i64) hE hS (runs_plain rfl) rfl rfl ap29 zr3 rfl hx63 rfl ?_; clear hE hS a w; intro b64 cs65 a w h66 hE hS
    refine WL.vS hS hE (runs_plain rfl) (Gives.p hE rfl) rfl ?_; clear hE a; intro a hE
    refine WL.nil ?_
    refine W.seq (W.region ?_)
    refine WL.vS hS hE (runs_plain rfl) (Gives.p hE rfl) rfl ?_; clear hE a; intro a hE
    refine WL.vS hS hE (runs_plain rfl) (Gives.p hE rfl) rfl ?_; clear hE a; intro a hE
    obtain ⟨x68, hx69, hr⟩ := bndS hr
    refine WL.cpS hE hS 0 (runs_plain rfl) cp29 (by rw [sliced_zero]; rfl) rfl rfl (Nat.zero_le _) (Nat.le_refl _) h66 rfl RI.one h0 rfl rfl ?_; clear hE hS a w; intro cs70 a w h71 hE hS
    have hn72 : x68.length = x62.length := by rw [← hx69, cpl_length (Nat.zero_le _) (by omega)]; try rfl
    rw [hx69] at h71
    refine WL.vS hS hE (runs_plain rfl) (Gives.p hE rfl) rfl ?_; clear hE a; intro a hE
    refine WL.nil ?_
    refine W.seq ?_
    obtain ⟨q74, hq73, hr⟩ := bindS hr
    refine W.cut (fun a w => ∃ (q79 : Int), ∃ (q80 : List Int), ∃ (cs84 : List Value), (q79, q80) = q74 ∧ Ev 1 (RI .i64) s cs84 q80 ∧ q80.length = x62.length ∧ Rep a 48 [(7, .slice (some ⟨b64, 0, none⟩) x62.length x62.length)] ∧ St w s (vecC 3 1 (some ⟨b64, 0, none⟩) x62.length x62.length cs84 :: R)) ?_ ?_
    ·refine W.block ?_
     refine W.loop (fun m a w => ∃ (n75 : Nat), ∃ (q79 : Int), ∃ (q80 : List Int), ∃ (cs84 : List Value), n75 = m ∧ SlicesRepeatLint.loop1 x62 n75 q79 q80 = some q74 ∧ Ev 1 (RI .i64) s cs84 q80 ∧ q80.length = x62.length ∧ Rep a 48 [(7, .slice (some ⟨b64, 0, none⟩) x62.length x62.length), (8, .int .i64 q79)] ∧ St w s (vecC 3 1 (some ⟨b64, 0, none⟩) x62.length x62.length cs84 :: R)) (m := fu) ⟨fu, ((min x0.length (x62.length - 0) : Nat) : Int), x68, cs70, rfl, hq73, h71, hn72, hE.pick _ ⟨rfl, rfl, trivial⟩, hS⟩ ?_
     clear hE hS a w hq73; rintro m76 a w ⟨n75, q79, q80, cs84, rfl, hq73, h83, hn85, hE, hS⟩
     refine W.gen fun K86 hK86 => ?_
     rcases n75 with _ | n75
     ·rw [SlicesRepeatLint.loop1] at hq73; exact absurd hq73 (by simp)
     rw [SlicesRepeatLint.loop1] at hq73
     refine W.seq ?_
     refine W.seq (W.region ?_)
     refine WL.vS hS hE (runs_plain rfl) (Gives.p hE rfl) rfl ?_; clear hE a; intro a hE
     refine WL.vS hS hE (runs_plain rfl) (Gives.p hE rfl) rfl ?_; clear hE a; intro a hE
     refine WL.vS hS hE (runs_plain rfl) (Gives.len hE rfl sl29) rfl ?_; clear hE a; intro a hE
     refine WL.vS hS hE (runs_plain rfl) (Gives.p hE rfl) rfl ?_; clear hE a; intro a hE
     refine WL.nil ?_
     refine W.cond hE rfl (fun hc87 => ?_) (fun hc87 => ?_)
     ·replace hq73 := iteT hc87 hq73
      refine W.skip ?_
      refine W.block ?_
      refine W.gen fun K88 hK88 => ?_
      refine W.regionE (sel (fun w => St w s (R)) (fun w => St w s (R))) (fun b i => cond b ([0, 1, 2, 3, 4, 5, 6, 7, 8, 9].contains i) ([0, 1, 2, 3, 4, 5, 6, 7, 8, 9].contains i)) mixed ?_
      replace hS := hS.drew
      refine Rg.takeP (i := 0) hE rfl (by kernel_rfl) (runs_plain rfl) (Gives.p hE rfl) rfl (tw_sel (fun _ => (hS.tail)) (fun _ => (hS.tail))) ?_; clear hE a; intro a hE
      refine Rg.takeP (i := 1) hE rfl (by kernel_rfl) (runs_plain rfl) (Gives.p hE rfl) rfl (tw_sel (fun _ => (hS.tail)) (fun _ => (hS.tail))) ?_; clear hE a; intro a hE
      refine Rg.takeP (i := 2) hE rfl (by kernel_rfl) (runs_plain rfl) (Gives.p hE rfl) rfl (tw_sel (fun _ => (hS.tail)) (fun _ => (hS.tail))) ?_; clear hE a; intro a hE
      obtain ⟨x89, hx90, hq73⟩ := bindS hq73
      obtain ⟨h91, h92, h93, h94, h95, h96⟩ := cutl_some hx90
      have h97 := (hS.vecCap 0 rfl).1
      refine Rg.takeP (i := 3) hE rfl (by kernel_rfl) (runs_plain rfl) (Gives.slL hE sl29 rfl rfl h91 (by have := hn85; omega) rfl) rfl (tw_sel (fun _ => (hS.tail)) (fun _ => (hS.tail))) ?_; clear hE a; intro a hE
      refine Rg.takeP (i := 4) hE rfl (by kernel_rfl) (runs_plain rfl) (Gives.p hE rfl) rfl (tw_sel (fun _ => (hS.tail)) (fun _ => (hS.tail))) ?_; clear hE a; intro a hE
      refine Rg.takeP (i := 5) hE rfl (by kernel_rfl) (runs_plain rfl) (Gives.p hE rfl) rfl (tw_sel (fun _ => (hS.tail)) (fun _ => (hS.tail))) ?_; clear hE a; intro a hE
      obtain ⟨x98, hx99, hq73⟩ := bindS hq73
      obtain ⟨h100, h101, h102, h103, h104, h105⟩ := cutl_some hx99
      have h106 := (hS.vecCap 0 rfl).1
      refine Rg.takeP (i := 6) hE rfl (by kernel_rfl) (runs_plain rfl) (Gives.slH hE sl29 rfl rfl h101 (Int.le_trans h102 (by have := hn85; omega)) rfl) rfl (tw_sel (fun _ => (hS.tail)) (fun _ => (hS.tail))) ?_; clear hE a; intro a hE
      refine Rg.one (i := 7) true true rfl (by kernel_rfl) (by kernel_rfl) (by kernel_rfl) ?_
      obtain ⟨x107, hx108, hq73⟩ := bndS hq73
      refine WL.cpO (lo2 := 0) (hi2 := (q79).toNat) hE hS 0 (runs_plain rfl) cp29 rfl rfl rfl (by have := hn85; omega) (by have := hn85; omega) (by have := hn85; omega) (by have := hn85; omega) h83 hn85 (h83.allOne RI.one) rfl ?_; clear hE hS a w; intro cs109 a w h110 hE hS
      have hn111 : x107.length = x62.length := by rw [← hx108, cpl_length (by have := hn85; omega) (by have := hn85; omega)]; try exact hn85
      rw [hx108] at h110
      refine WL.nil ?_
      refine ⟨⟨fun _ => (hS.tail), fun _ => (hS.tail)⟩, ?_⟩
      refine Rg.takeP (i := 8) hE rfl (by kernel_rfl) (runs_plain rfl) (Gives.p hE rfl) rfl (tw_sel (fun _ => (hS.tail)) (fun _ => (hS.tail))) ?_; clear hE a; intro a hE
      refine Rg.takeP (i := 9) hE rfl (by kernel_rfl) (runs_plain rfl) (Gives.p hE rfl) rfl (tw_sel (fun _ => (hS.tail)) (fun _ => (hS.tail))) ?_; clear hE a; intro a hE
      refine Rg.done (by kernel_rfl) ?_
      subst hK88
      subst hK86
      exact ⟨n75, Nat.lt_succ_self _, n75, (w64 (q79 + ((min ((q80.take ((q79).toNat)).drop 0).length (x62.length - ((q79).toNat)) : Nat) : Int))), x107, cs109, rfl, hq73, h110, hn111, hE.pick _ ⟨rfl, rfl, trivial⟩, hS⟩
     ·replace hq73 := iteF hc87 hq73
      subst hK86
      refine W.exit rfl ?_
      exact ⟨q79, q80, cs84, Option.some.inj hq73, h83, hn85, hE.pick _ ⟨rfl, trivial⟩, hS⟩
    ·clear hE hS a w; rintro a w ⟨q79, q80, cs84, rfl, h83, hn85, hE, hS⟩
     dsimp only at hr
     refine W.seq (W.region ?_)
     refine WL.vS hS hE (runs_plain rfl) (Gives.p hE rfl) rfl ?_; clear hE a; intro a hE
     refine WL.vS hS hE (runs_plain rfl) (Gives.p hE rfl) rfl ?_; clear hE a; intro a hE
     refine WL.nil ?_
     refine W.ret ?_
     refine finG (fn := Try.f67) (rs := [.tmp 4]) (vs := [_]) hE rfl ⟨rfl, trivial⟩ ?_
     obtain rfl := Option.some.inj hr
     exact ⟨(some ⟨b64, 0, none⟩), x62.length, x62.length, cs84, rfl, h83, hn85, hS⟩
set_option maxHeartbeats 8000000 in
theorem MendRoom_ok {fu : Nat}  {w : World} {s : Sg} {R : List HP} {x0 : MendRound} {a0_0 : Option Addr} {c0_0 : Nat} {a0_1 : Option Addr} {c0_1 : Nat} (hS : St w s (R)) (h0_0 : Sl 1 (RI .i64) s a0_0 c0_0 x0.Plan) (h0_1 : Sl 4 RMendLink s a0_1 c0_1 x0.Links) {r : (List (List Int)) × Int} (hr : MendRoom fu x0 = some r) :
  Calls Try.prog 30 [.agg [.int .i64 x0.Period, .slice a0_0 x0.Plan.length c0_0, .slice a0_1 x0.Links.length c0_1].toArray].toArray w (fun e w => ∃ (a0 : Option Addr) (c0 : Nat) (t : Sg), e = .returned (.tuple #[.slice a0 r.1.length c0, .int .i64 r.2]) ∧ s.Le t ∧ Sl 1 (RL 1 (RI .i64)) t a0 c0 r.1 ∧ St w t (R)) := by
 refine enter Try.func30 rfl rfl rfl fun a hE => ?_
 rw [MendRoom] at hr
 refine W.seq (W.region ?_)
 refine WL.box hE hS (runs_plain rfl) rfl rfl rfl ?_; clear hE hS a w; intro b51 a w hE hS
 refine WL.vS hS hE (runs_plain rfl) (Gives.p hE rfl) rfl ?_; clear hE a; intro a hE
 refine WL.vS hS hE (runs_plain rfl) (Gives.p hE rfl) rfl ?_; clear hE a; intro a hE
 refine WL.nil ?_
 refine W.seq ?_
 refine W.seq (W.region ?_)
 refine WL.vS hS hE (runs_plain rfl) (Gives.loadBA hE 0 rfl rfl ty51) rfl ?_; clear hE a; intro a hE
 obtain ⟨q52, hq53, hr⟩ := bindS hr
 have hc_ := MendCheckRound_ok hS h0_0 h0_1 hq53
 refine WL.fnq hE (hc_) (runs_plain rfl) bd29 rfl rfl rfl ?_
 clear hE hS hc_; rintro e w ⟨rfl, hS⟩; refine ⟨_, rfl, ?_⟩; clear a; intro a hE
 refine WL.vS hS hE (runs_plain rfl) (Gives.p hE rfl) rfl ?_; clear hE a; intro a hE
 refine WL.nil ?_
 refine W.seq (W.region ?_)
 refine WL.vS hS hE (runs_plain rfl) (Gives.p hE rfl) rfl ?_; clear hE a; intro a hE
 refine WL.vS hS hE (runs_plain rfl) (Gives.p hE rfl) rfl ?_; clear hE a; intro a hE
 refine WL.nil ?_
 refine W.cond hE rfl (fun hc54 => ?_) (fun hc54 => ?_)
 ·replace hr := iteT hc54 hr
  refine W.seq (W.region ?_)
  refine WL.vS hS hE (runs_plain rfl) (Gives.p hE rfl) rfl ?_; clear hE a; intro a hE
  refine WL.vS hS hE (runs_plain rfl) (Gives.p hE rfl) rfl ?_; clear hE a; intro a hE
  refine WL.vS hS hE (runs_plain rfl) (Gives.p hE rfl) rfl ?_; clear hE a; intro a hE
  refine WL.nil ?_
  refine W.ret ?_
  refine finG (fn := Try.f30) (rs := [.tmp 2, .tmp 3]) (vs := [_, _]) hE rfl ⟨rfl, rfl, trivial⟩ ?_
  obtain rfl := Option.some.inj hr
  replace hS := hS.tail
  exact ⟨none, 0, s, rfl, (Sg.Le.refl _), Sl.nil, hS⟩
 ·replace hr := iteF hc54 hr
  refine W.skip ?_
  refine W.seq (W.region ?_)
  refine WL.vS hS hE (runs_plain rfl) (Gives.fld hE rfl fl51_1) rfl ?_; clear hE a; intro a hE
  refine WL.vS hS hE (runs_plain rfl) (Gives.loadB hE 0 rfl rfl rfl ty29) rfl ?_; clear hE a; intro a hE
  refine WL.vS hS hE (runs_plain rfl) (Gives.len hE rfl sl29) rfl ?_; clear hE a; intro a hE
  obtain ⟨x55, hx56, hr⟩ := bindS hr
  refine WL.mkND (Rr := RI .i64) (Ti := 3) (es := 1) hE hS (runs_plain rfl) rfl rfl ap56 zr29 hx56 rfl ?_; clear hE hS a w; intro b57 ds58 a w h59 hE hS
  refine WL.vS hS hE (runs_plain rfl) (Gives.p hE rfl) rfl ?_; clear hE a; intro a hE
  refine WL.nil ?_
  refine W.seq ?_
  refine W.seq (W.region ?_)
  refine WL.vS hS hE (runs_plain rfl) (Gives.p hE rfl) rfl ?_; clear hE a; intro a hE
  refine WL.vS hS hE (runs_plain rfl) (Gives.len hE rfl sl56) rfl ?_; clear hE a; intro a hE
  refine WL.vS hS hE (runs_plain rfl) (Gives.p hE rfl) rfl ?_; clear hE a; intro a hE
  refine WL.nil ?_
  have hb72 : x55.length ≤ 9223372036854775807 := by have := hS.nCap 0 rfl; unfold maxLen at this; omega
  obtain ⟨q62, hq61, hr⟩ := bindS hr
  refine W.cut (fun a w => ∃ (q73 : List (List Int)), ∃ (ds77 : List In), ∃ (s70 : Sg), s.Le s70 ∧ q73 = q62 ∧ NEv 1 (RI .i64) s70 ds77 q73 ∧ q73.length = x55.length ∧ Rep a 100 [(5, .slice (some ⟨b57, 0, none⟩) x55.length x55.length)] ∧ St w s70 (nestC 29 3 1 (some ⟨b57, 0, none⟩) x55.length x55.length ds77 :: pt b51 (.cells #[.int .i64 x0.Period, .slice a0_0 x0.Plan.length c0_0, .slice a0_1 x0.Links.length c0_1] 51 (0, 0)) :: R)) ?_ ?_
  ·refine W.block ?_
   refine W.loop (fun m a w => ∃ (rest65 : Nat) (k63 : Nat), ∃ (q73 : List (List Int)), ∃ (ds77 : List In), ∃ (s70 : Sg), rest65 = m ∧ k63 + rest65 = x55.length ∧ s.Le s70 ∧ MendRoom.loop1 x0 fu rest65 k63 q73 = some q62 ∧ NEv 1 (RI .i64) s70 ds77 q73 ∧ q73.length = x55.length ∧ Rep a 100 [(1, .pointer (some ⟨b51, 0, none⟩)), (5, .slice (some ⟨b57, 0, none⟩) x55.length x55.length), (21, .int .i64 ((x55.length : Nat) : Int)), (22, .int .i64 ((k63 : Nat) : Int))] ∧ St w s70 (nestC 29 3 1 (some ⟨b57, 0, none⟩) x55.length x55.length ds77 :: pt b51 (.cells #[.int .i64 x0.Period, .slice a0_0 x0.Plan.length c0_0, .slice a0_1 x0.Links.length c0_1] 51 (0, 0)) :: R)) (m := x55.length) ⟨x55.length, 0, x55, ds58, s, rfl, by omega, (Sg.Le.refl _), hq61, h59, (rfl), hE.pick _ ⟨rfl, rfl, rfl, rfl, trivial⟩, hS⟩ ?_
   clear hE hS a w hq61; rintro m69 a w ⟨rest65, k63, q73, ds77, s70, rfl, hd66, hle71, hq61, h78, hn79, hE, hS⟩
   refine W.gen fun K80 hK80 => ?_
   replace h0_0 := Sl.mono RI.mono hle71 h0_0
   replace h0_1 := Sl.mono RMendLink.mono hle71 h0_1
   replace h59 := NEv.mono RI.mono hle71 h59
   rcases rest65 with _ | rest65
   ·skip
    refine W.seq (W.region ?_)
    refine WL.vS hS hE (runs_plain rfl) (Gives.p hE rfl) rfl ?_; clear hE a; intro a hE
    refine WL.nil ?_
    refine W.seq ?_
    refine W.condF hE rfl (decide_eq_false (by omega)) ?_
    subst hK80
    refine W.exit rfl ?_
    exact ⟨q73, ds77, s70, hle71, Option.some.inj hq61, h78, hn79, hE.pick _ ⟨rfl, trivial⟩, hS⟩
   ·have hlt67 : k63 < x55.length := by omega
    rw [MendRoom.loop1] at hq61
    refine W.seq (W.region ?_)
    refine WL.vS hS hE (runs_plain rfl) (Gives.p hE rfl) rfl ?_; clear hE a; intro a hE
    refine WL.nil ?_
    refine W.seq ?_
    refine W.condT hE rfl (decide_eq_true (by omega)) ?_
    refine W.skip ?_
    refine W.seq ?_
    refine W.block ?_
    refine W.seq (W.region ?_)
    refine WL.vS hS hE (runs_plain rfl) (Gives.p hE rfl) rfl ?_; clear hE a; intro a hE
    refine WL.vS hS hE (runs_plain rfl) (Gives.p hE rfl) rfl ?_; clear hE a; intro a hE
    refine WL.nil ?_
    refine W.seq (W.region ?_)
    refine WL.vS hS hE (runs_plain rfl) (Gives.p hE rfl) rfl ?_; clear hE a; intro a hE
    refine WL.vS hS hE (runs_plain rfl) (Gives.p hE rfl) rfl ?_; clear hE a; intro a hE
    refine WL.lit hE hS (e := 3) (es := 1) (vs := [(0, .int .i64 (-1))]) (cs := [.int .i64 (-1)]) (runs_plain rfl) rfl (by kernel_rfl) rfl ?_; clear hE hS a w; intro b81 a w hE hS
    replace hS := hS.ptVec (es := 1) (m := 1) rfl (by decide)
    have h83 : Ev 1 (RI .i64) s70 [.int .i64 (-1)] [(-1)] := (Ev.cons (c1 := [.int .i64 (-1)]) rfl rfl (Ev.nil))
    have hF := hS.fixD RI.mono 0 rfl h83 (rfl); clear hS; obtain ⟨s84, hle85, hS, h86⟩ := hF
    replace h78 := NEv.mono RI.mono hle85 h78
    replace h0_0 := Sl.mono RI.mono hle85 h0_0
    replace h0_1 := Sl.mono RMendLink.mono hle85 h0_1
    refine WL.vS hS hE (runs_plain rfl) (Gives.fld hE rfl fl51_1) rfl ?_; clear hE a; intro a hE
    refine WL.vS hS hE (runs_plain rfl) (Gives.loadB hE 1 rfl rfl rfl ty29) rfl ?_; clear hE a; intro a hE
    refine WL.vS hS hE (runs_plain rfl) (Gives.len hE rfl sl29) rfl ?_; clear hE a; intro a hE
    obtain ⟨q87, hq88, hq61⟩ := bindS hq61
    have hc_ := SlicesRepeatLint_ok hS h86 hq88
    refine WL.fnq hE (hc_) (runs_plain rfl) bd67 rfl rfl rfl ?_
    clear hE hS hc_; rintro e w ⟨a89, c90, n91, cs92, rfl, h93, rfl, hS⟩; refine ⟨_, rfl, ?_⟩; clear a; intro a hE
    obtain ⟨_, hx95, hq61⟩ := bindS hq61
    obtain ⟨h96, h97⟩ := ix_some hx95
    refine WL.vS hS hE (runs_plain rfl) (Gives.idx hE ((((k63 : Nat) : Int)).toNat) rfl rfl sl56 h96 (by have := hn79; omega) (hS.nAok 1 rfl (by have := hn79; omega : (((k63 : Nat) : Int)).toNat < x55.length))) rfl ?_; clear hE a; intro a hE
    obtain ⟨d98, hd99⟩ : ∃ d, ds77[(((k63 : Nat) : Int)).toNat]? = some d := ⟨_, List.getElem?_eq_getElem (by have h1 := h78.len; have h2 := hn79; omega)⟩
    replace hS := (hS.borrow 1 rfl hd99).tail
    obtain ⟨x100, hx101, hq61⟩ := bindS hq61
    refine WL.storeND hE hS 0 rfl (runs_plain rfl) rfl rfl ty29 h78 hn79 (by have := (sx_some hx101).1; omega) hx101 h93 rfl rfl ?_; clear hE hS a w; intro ds102 a w h103 hn104 hE hS
    refine WL.nil ?_
    refine W.seq (W.region ?_)
    refine WL.vS hS hE (runs_plain rfl) (Gives.p hE rfl) rfl ?_; clear hE a; intro a hE
    refine WL.vS hS hE (runs_plain rfl) (Gives.p hE rfl) rfl ?_; clear hE a; intro a hE
    obtain ⟨x105, hx106, hq61⟩ := bindS hq61
    obtain ⟨hi107, hlt108, hy109⟩ := gx_some hx106
    obtain ⟨a110, c111, cs112, hd113, hev114⟩ := h103.at hy109
    refine WL.vS hS hE (runs_plain rfl) (Gives.idx hE ((((k63 : Nat) : Int)).toNat) rfl rfl sl56 hi107 (by have := hn104; omega) (hS.nAok 0 rfl (by have := hn104; omega : (((k63 : Nat) : Int)).toNat < x55.length))) rfl ?_; clear hE a; intro a hE
    refine WL.vS hS hE (runs_plain rfl) (Gives.load1 (v := .slice a110 x105.length c111) hE rfl (fun w h => St.nSees h 0 rfl hd113) ty29) rfl ?_; clear hE a; intro a hE
    refine WL.vS hS hE (runs_plain rfl) (Gives.p hE rfl) rfl ?_; clear hE a; intro a hE
    replace hS := hS.borrowM 0 rfl hd113
    obtain ⟨_, hx117, hq61⟩ := bindS hq61
    obtain ⟨h118, h119⟩ := ix_some hx117
    refine WL.vS hS hE (runs_plain rfl) (Gives.idx hE ((((k63 : Nat) : Int)).toNat) rfl rfl sl29 h118 (by omega) (hS.vecAok 0 rfl (by omega : (((k63 : Nat) : Int)).toNat < x105.length))) rfl ?_; clear hE a; intro a hE
    obtain ⟨x121, hx122, hq61⟩ := bindS hq61
    refine WL.setD hE hS 0 rfl (runs_plain rfl) rfl rfl (vs := [.int .i64 0]) rfl ty3 rfl rfl rfl hev114 (rfl) (sx_some hx122).1 hx122 rfl rfl ?_; clear hE hS a w; intro cs123 a w h124 hn125 hE hS
    refine WL.nil ?_
    refine W.seq (W.region ?_)
    refine WL.vS hS hE (runs_plain rfl) (Gives.p hE rfl) rfl ?_; clear hE a; intro a hE
    refine WL.nil ?_
    replace hS := hS.giveBack 0 rfl hd113
    have h127 := h103.set (k := (((k63 : Nat) : Int)).toNat) (d := ⟨a110, c111, x105.length, cs123⟩) h124 hn125
    have hn128 : (x100.set ((((k63 : Nat) : Int)).toNat) x121).length = x55.length := by simp; exact hn104
    generalize List.set ds102 ((((k63 : Nat) : Int)).toNat) _ = ds126 at hS h127
    obtain ⟨q130, hq129, hq61⟩ := bindS hq61
    refine W.cut (fun a w => ∃ (q135 : Bool), ∃ (q136 : List (List Int)), ∃ (ds140 : List In), (q135, q136) = q130 ∧ NEv 1 (RI .i64) s84 ds140 q136 ∧ q136.length = x55.length ∧ Rep a 100 [(1, .pointer (some ⟨b51, 0, none⟩)), (5, .slice (some ⟨b57, 0, none⟩) x55.length x55.length), (21, .int .i64 ((x55.length : Nat) : Int)), (22, .int .i64 ((k63 : Nat) : Int))] ∧ St w s84 (nestC 29 3 1 (some ⟨b57, 0, none⟩) x55.length x55.length ds140 :: pt b51 (.cells #[.int .i64 x0.Period, .slice a0_0 x0.Plan.length c0_0, .slice a0_1 x0.Links.length c0_1] 51 (0, 0)) :: R)) ?_ ?_
    ·refine W.block ?_
     refine W.loop (fun m a w => ∃ (n131 : Nat), ∃ (q135 : Bool), ∃ (q136 : List (List Int)), ∃ (ds140 : List In), n131 = m ∧ MendRoom.loop2 x0 k63 n131 q135 q136 = some q130 ∧ NEv 1 (RI .i64) s84 ds140 q136 ∧ q136.length = x55.length ∧ Rep a 100 [(1, .pointer (some ⟨b51, 0, none⟩)), (5, .slice (some ⟨b57, 0, none⟩) x55.length x55.length), (6, .int .i64 ((k63 : Nat) : Int)), (7, .bool q135), (21, .int .i64 ((x55.length : Nat) : Int)), (22, .int .i64 ((k63 : Nat) : Int))] ∧ St w s84 (nestC 29 3 1 (some ⟨b57, 0, none⟩) x55.length x55.length ds140 :: pt b51 (.cells #[.int .i64 x0.Period, .slice a0_0 x0.Plan.length c0_0, .slice a0_1 x0.Links.length c0_1] 51 (0, 0)) :: R)) (m := fu) ⟨fu, true, (x100.set ((((k63 : Nat) : Int)).toNat) x121), ds126, rfl, hq129, h127, hn128, hE.pick _ ⟨rfl, rfl, rfl, rfl, rfl, rfl, trivial⟩, hS⟩ ?_
     clear hE hS a w hq129; rintro m132 a w ⟨n131, q135, q136, ds140, rfl, hq129, h141, hn142, hE, hS⟩
     refine W.gen fun K143 hK143 => ?_
     rcases n131 with _ | n131
     ·rw [MendRoom.loop2] at hq129; exact absurd hq129 (by simp)
     rw [MendRoom.loop2] at hq129
     refine W.seq ?_
     refine W.seq (W.region ?_)
     refine WL.vS hS hE (runs_plain rfl) (Gives.p hE rfl) rfl ?_; clear hE a; intro a hE
     refine WL.nil ?_
     refine W.cond hE rfl (fun hc144 => ?_) (fun hc144 => ?_)
     ·replace hq129 := iteT hc144 hq129
      refine W.skip ?_
      refine W.block ?_
      refine W.seq (W.region ?_)
      refine WL.vS hS hE (runs_plain rfl) (Gives.p hE rfl) rfl ?_; clear hE a; intro a hE
      refine WL.nil ?_
      refine W.seq (W.region ?_)
      refine WL.vS hS hE (runs_plain rfl) (Gives.fld hE rfl fl51_2) rfl ?_; clear hE a; intro a hE
      refine WL.vS hS hE (runs_plain rfl) (Gives.loadB hE 1 rfl rfl rfl ty49) rfl ?_; clear hE a; intro a hE
      refine WL.vS hS hE (runs_plain rfl) (Gives.len hE rfl sl49) rfl ?_; clear hE a; intro a hE
      refine WL.vS hS hE (runs_plain rfl) (Gives.p hE rfl) rfl ?_; clear hE a; intro a hE
      refine WL.nil ?_
      obtain ⟨q146, hq145, hq129⟩ := bindS hq129
      refine W.cut (fun a w => ∃ (q156 : Bool), ∃ (q157 : List (List Int)), ∃ (ds161 : List In), (q156, q157) = q146 ∧ NEv 1 (RI .i64) s84 ds161 q157 ∧ q157.length = x55.length ∧ Rep a 100 [(1, .pointer (some ⟨b51, 0, none⟩)), (5, .slice (some ⟨b57, 0, none⟩) x55.length x55.length), (6, .int .i64 ((k63 : Nat) : Int)), (7, .bool q156), (21, .int .i64 ((x55.length : Nat) : Int)), (22, .int .i64 ((k63 : Nat) : Int))] ∧ St w s84 (nestC 29 3 1 (some ⟨b57, 0, none⟩) x55.length x55.length ds161 :: pt b51 (.cells #[.int .i64 x0.Period, .slice a0_0 x0.Plan.length c0_0, .slice a0_1 x0.Links.length c0_1] 51 (0, 0)) :: R)) ?_ ?_
      ·refine W.block ?_
       refine W.loop (fun m a w => ∃ (rest149 : List MendLink) (k147 : Nat), ∃ (q156 : Bool), ∃ (q157 : List (List Int)), ∃ (ds161 : List In), rest149.length = m ∧ x0.Links.drop k147 = rest149 ∧ MendRoom.loop3 x0 k63 rest149 q156 q157 = some q146 ∧ NEv 1 (RI .i64) s84 ds161 q157 ∧ q157.length = x55.length ∧ Rep a 100 [(1, .pointer (some ⟨b51, 0, none⟩)), (5, .slice (some ⟨b57, 0, none⟩) x55.length x55.length), (6, .int .i64 ((k63 : Nat) : Int)), (7, .bool q156), (21, .int .i64 ((x55.length : Nat) : Int)), (22, .int .i64 ((k63 : Nat) : Int)), (41, .slice a0_1 x0.Links.length c0_1), (42, .int .i64 ((x0.Links).length : Int)), (43, .int .i64 ((k147 : Nat) : Int))] ∧ St w s84 (nestC 29 3 1 (some ⟨b57, 0, none⟩) x55.length x55.length ds161 :: pt b51 (.cells #[.int .i64 x0.Period, .slice a0_0 x0.Plan.length c0_0, .slice a0_1 x0.Links.length c0_1] 51 (0, 0)) :: R)) (m := x0.Links.length) ⟨x0.Links, 0, false, q136, ds140, rfl, rfl, hq145, h141, hn142, hE.pick _ ⟨rfl, rfl, rfl, rfl, rfl, rfl, rfl, rfl, rfl, trivial⟩, hS⟩ ?_
       clear hE hS a w hq145; rintro m153 a w ⟨rest149, k147, q156, q157, ds161, rfl, hd150, hq145, h162, hn163, hE, hS⟩
       refine W.gen fun K164 hK164 => ?_
       rcases rest149 with _ | ⟨x148, rest149⟩
       ·have hlt151 := drop_nil hd150
        refine W.seq (W.region ?_)
        refine WL.vS hS hE (runs_plain rfl) (Gives.p hE rfl) rfl ?_; clear hE a; intro a hE
        refine WL.nil ?_
        refine W.seq ?_
        refine W.condF hE rfl (decide_eq_false (by omega)) ?_
        subst hK164
        refine W.exit rfl ?_
        exact ⟨q156, q157, ds161, Option.some.inj hq145, h162, hn163, hE.pick _ ⟨rfl, rfl, rfl, rfl, rfl, rfl, trivial⟩, hS⟩
       ·obtain ⟨hlt151, hx152, hd150⟩ := drop_cons hd150
        rw [MendRoom.loop3] at hq145
        refine W.seq (W.region ?_)
        refine WL.vS hS hE (runs_plain rfl) (Gives.p hE rfl) rfl ?_; clear hE a; intro a hE
        refine WL.nil ?_
        refine W.seq ?_
        refine W.condT hE rfl (decide_eq_true (by omega)) ?_
        refine W.skip ?_
        refine W.seq ?_
        refine W.block ?_
        refine W.seq (W.region ?_)
        obtain ⟨cs165, hl166, hR167, hat168⟩ := h0_1.at hx152
        subst hR167
        refine WL.vS hS hE (runs_plain rfl) (Gives.idx hE k147 rfl rfl sl49 rfl hlt151 (h0_1.aok hlt151)) rfl ?_; clear hE a; intro a hE
        refine WL.vS hS hE (runs_plain rfl) (Gives.loadA hE rfl (fun w h => hat168 w _ h) ty53) rfl ?_; clear hE a; intro a hE
        refine WL.alloc hE hS (runs_plain rfl) zr53 rfl ?_; clear hE hS a w; intro b169 a w hE hS
        refine WL.storeI hE hS 0 rfl (MendLink.cells x148) (runs_plain rfl) rfl rfl rfl ty53 rfl rfl rfl rfl ?_; clear hE hS a w; intro a w hE hS
        refine WL.nil ?_
        refine W.seq ?_
        refine W.seq ?_
        refine W.regionQ (C := fun w => St w s84 (pt b169 (.cells (MendLink.cells x148).toArray 53 (0, 0)) :: nestC 29 3 1 (some ⟨b57, 0, none⟩) x55.length x55.length ds161 :: pt b51 (.cells #[.int .i64 x0.Period, .slice a0_0 x0.Plan.length c0_0, .slice a0_1 x0.Links.length c0_1] 51 (0, 0)) :: R)) mixed (by kernel_rfl) hS.drew ?_
        refine QL.v hE (runs_plain rfl) (Gives.p hE rfl) rfl ?_; clear hE a; intro a hE
        refine QL.v hE (runs_plain rfl) (Gives.p hE rfl) rfl ?_; clear hE a; intro a hE
        obtain ⟨x170, hx171, hq145⟩ := bindS hq145
        obtain ⟨hi172, hlt173, hy174⟩ := gx_some hx171
        obtain ⟨a175, c176, cs177, hd178, hev179⟩ := h162.at hy174
        refine QL.v hE (runs_plain rfl) (Gives.idx hE ((((k63 : Nat) : Int)).toNat) rfl rfl sl56 hi172 (by have := hn163; omega) (hS.nAok 1 rfl (by have := hn163; omega : (((k63 : Nat) : Int)).toNat < x55.length))) rfl ?_; clear hE a; intro a hE
        refine QL.v hE (runs_plain rfl) (Gives.load1 (v := .slice a175 x170.length c176) hE rfl (fun w h => St.nSees h 1 rfl hd178) ty29) rfl ?_; clear hE a; intro a hE
        refine QL.v hE (runs_plain rfl) (Gives.fld hE rfl fl53_0) rfl ?_; clear hE a; intro a hE
        refine QL.v hE (runs_plain rfl) (Gives.loadB hE 0 rfl rfl rfl ty3) rfl ?_; clear hE a; intro a hE
        obtain ⟨x180, hx181, hq145⟩ := bindS hq145
        obtain ⟨hi182, hlt183, hy184⟩ := gx_some hx181
        obtain ⟨vs185, hl186, hR187, hd188, hget189⟩ := hev179.at hy184
        subst hR187
        refine QL.v hE (runs_plain rfl) (Gives.idx hE ((x148.From).toNat) rfl rfl sl29 hi182 hlt183 (hS.nnAok 1 rfl hd178 hlt183)) rfl ?_; clear hE a; intro a hE
        refine QL.v hE (runs_plain rfl) (Gives.load1 hE rfl (fun w h => St.nnSees h 1 rfl hd178 ((x148.From).toNat * 1) _ hget189) ty3) rfl ?_; clear hE a; intro a hE
        refine QL.v hE (runs_plain rfl) (Gives.p hE rfl) rfl ?_; clear hE a; intro a hE
        refine QL.nil ?_; clear hS w; intro w hS
        refine W.cond hE rfl (fun hc190 => ?_) (fun hc190 => ?_)
        ·replace hq145 := iteT hc190 hq145
         refine W.exit rfl ?_
         refine W.region ?_
         refine WL.vS hS hE (runs_plain rfl) (Gives.inc hE rfl (by have := h0_1.small; omega)) rfl ?_; clear hE a; intro a hE
         refine WL.vS hS hE (runs_plain rfl) (Gives.p hE rfl) rfl ?_; clear hE a; intro a hE
         refine WL.nil ?_
         replace hS := hS.tail
         subst hK164
         exact ⟨rest149.length, Nat.lt_succ_self _, rest149, k147 + 1, q156, q157, ds161, rfl, hd150, hq145, h162, hn163, hE.pick _ ⟨rfl, rfl, rfl, rfl, rfl, rfl, rfl, rfl, rfl, trivial⟩, hS⟩
        ·replace hq145 := iteF hc190 hq145
         refine W.skip ?_
         refine W.seq ?_
         refine W.regionQ (C := fun w => St w s84 (pt b169 (.cells (MendLink.cells x148).toArray 53 (0, 0)) :: nestC 29 3 1 (some ⟨b57, 0, none⟩) x55.length x55.length ds161 :: pt b51 (.cells #[.int .i64 x0.Period, .slice a0_0 x0.Plan.length c0_0, .slice a0_1 x0.Links.length c0_1] 51 (0, 0)) :: R)) mixed (by kernel_rfl) hS.drew ?_
         refine QL.v hE (runs_plain rfl) (Gives.p hE rfl) rfl ?_; clear hE a; intro a hE
         refine QL.v hE (runs_plain rfl) (Gives.p hE rfl) rfl ?_; clear hE a; intro a hE
         obtain ⟨x191, hx192, hq145⟩ := bindS hq145
         obtain ⟨hi193, hlt194, hy195⟩ := gx_some hx192
         obtain ⟨a196, c197, cs198, hd199, hev200⟩ := h162.at hy195
         refine QL.v hE (runs_plain rfl) (Gives.idx hE ((((k63 : Nat) : Int)).toNat) rfl rfl sl56 hi193 (by have := hn163; omega) (hS.nAok 1 rfl (by have := hn163; omega : (((k63 : Nat) : Int)).toNat < x55.length))) rfl ?_; clear hE a; intro a hE
         refine QL.v hE (runs_plain rfl) (Gives.load1 (v := .slice a196 x191.length c197) hE rfl (fun w h => St.nSees h 1 rfl hd199) ty29) rfl ?_; clear hE a; intro a hE
         refine QL.v hE (runs_plain rfl) (Gives.fld hE rfl fl53_0) rfl ?_; clear hE a; intro a hE
         refine QL.v hE (runs_plain rfl) (Gives.loadB hE 0 rfl rfl rfl ty3) rfl ?_; clear hE a; intro a hE
         obtain ⟨x201, hx202, hq145⟩ := bindS hq145
         obtain ⟨hi203, hlt204, hy205⟩ := gx_some hx202
         obtain ⟨vs206, hl207, hR208, hd209, hget210⟩ := hev200.at hy205
         subst hR208
         refine QL.v hE (runs_plain rfl) (Gives.idx hE ((x148.From).toNat) rfl rfl sl29 hi203 hlt204 (hS.nnAok 1 rfl hd199 hlt204)) rfl ?_; clear hE a; intro a hE
         refine QL.v hE (runs_plain rfl) (Gives.load1 hE rfl (fun w h => St.nnSees h 1 rfl hd199 ((x148.From).toNat * 1) _ hget210) ty3) rfl ?_; clear hE a; intro a hE
         refine QL.v hE (runs_plain rfl) (Gives.loadBA hE 2 rfl rfl ty51) rfl ?_; clear hE a; intro a hE
         refine QL.v hE (runs_plain rfl) (Gives.loadBA hE 0 rfl rfl ty53) rfl ?_; clear hE a; intro a hE
         obtain ⟨q211, hq212, hq145⟩ := bindS hq145
         refine QL.fnq hE (fun w hS => MendRoundslack_ok hS h0_0 h0_1 hq212) (runs_plain rfl) bd65 rfl rfl rfl ?_; clear hE a; intro a hE
         refine QL.v hE (runs_plain rfl) (Gives.p hE rfl) rfl ?_; clear hE a; intro a hE
         refine QL.v hE (runs_plain rfl) (Gives.p hE rfl) rfl ?_; clear hE a; intro a hE
         refine QL.nil ?_; clear hS w; intro w hS
         refine W.seq ?_
         obtain ⟨q214, hq213, hq145⟩ := bindS hq145
         refine W.cut (fun a w => ∃ (q217 : Bool), q217 = q214 ∧ Rep a 100 [(1, .pointer (some ⟨b51, 0, none⟩)), (5, .slice (some ⟨b57, 0, none⟩) x55.length x55.length), (6, .int .i64 ((k63 : Nat) : Int)), (7, .bool q156), (9, .pointer (some ⟨b169, 0, none⟩)), (10, .int .i64 (w64 (x201 + q211))), (21, .int .i64 ((x55.length : Nat) : Int)), (22, .int .i64 ((k63 : Nat) : Int)), (41, .slice a0_1 x0.Links.length c0_1), (42, .int .i64 ((x0.Links).length : Int)), (43, .int .i64 ((k147 : Nat) : Int)), (88, .bool q217)] ∧ St w s84 (pt b169 (.cells (MendLink.cells x148).toArray 53 (0, 0)) :: nestC 29 3 1 (some ⟨b57, 0, none⟩) x55.length x55.length ds161 :: pt b51 (.cells #[.int .i64 x0.Period, .slice a0_0 x0.Plan.length c0_0, .slice a0_1 x0.Links.length c0_1] 51 (0, 0)) :: R)) ?_ ?_
         ·refine W.gen fun K218 hK218 => ?_
          refine W.regionQ (C := fun w => St w s84 (pt b169 (.cells (MendLink.cells x148).toArray 53 (0, 0)) :: nestC 29 3 1 (some ⟨b57, 0, none⟩) x55.length x55.length ds161 :: pt b51 (.cells #[.int .i64 x0.Period, .slice a0_0 x0.Plan.length c0_0, .slice a0_1 x0.Links.length c0_1] 51 (0, 0)) :: R)) mixed (by kernel_rfl) hS.drew ?_
          refine QL.v hE (runs_plain rfl) (Gives.p hE rfl) rfl ?_; clear hE a; intro a hE
          refine QL.v hE (runs_plain rfl) (Gives.p hE rfl) rfl ?_; clear hE a; intro a hE
          obtain ⟨x219, hx220, hq213⟩ := bindS hq213
          obtain ⟨hi221, hlt222, hy223⟩ := gx_some hx220
          obtain ⟨a224, c225, cs226, hd227, hev228⟩ := h162.at hy223
          refine QL.v hE (runs_plain rfl) (Gives.idx hE ((((k63 : Nat) : Int)).toNat) rfl rfl sl56 hi221 (by have := hn163; omega) (hS.nAok 1 rfl (by have := hn163; omega : (((k63 : Nat) : Int)).toNat < x55.length))) rfl ?_; clear hE a; intro a hE
          refine QL.v hE (runs_plain rfl) (Gives.load1 (v := .slice a224 x219.length c225) hE rfl (fun w h => St.nSees h 1 rfl hd227) ty29) rfl ?_; clear hE a; intro a hE
          refine QL.v hE (runs_plain rfl) (Gives.fld hE rfl fl53_1) rfl ?_; clear hE a; intro a hE
          refine QL.v hE (runs_plain rfl) (Gives.loadB hE 0 rfl rfl rfl ty3) rfl ?_; clear hE a; intro a hE
          obtain ⟨x229, hx230, hq213⟩ := bindS hq213
          obtain ⟨hi231, hlt232, hy233⟩ := gx_some hx230
          obtain ⟨vs234, hl235, hR236, hd237, hget238⟩ := hev228.at hy233
          subst hR236
          refine QL.v hE (runs_plain rfl) (Gives.idx hE ((x148.To).toNat) rfl rfl sl29 hi231 hlt232 (hS.nnAok 1 rfl hd227 hlt232)) rfl ?_; clear hE a; intro a hE
          refine QL.v hE (runs_plain rfl) (Gives.load1 hE rfl (fun w h => St.nnSees h 1 rfl hd227 ((x148.To).toNat * 1) _ hget238) ty3) rfl ?_; clear hE a; intro a hE
          refine QL.v hE (runs_plain rfl) (Gives.p hE rfl) rfl ?_; clear hE a; intro a hE
          refine QL.v hE (runs_plain rfl) (Gives.p hE rfl) rfl ?_; clear hE a; intro a hE
          rcases Bool.eq_false_or_eq_true (decide (x229 < 0)) with hg239 | hg239
          ·replace hq213 := iteT hg239 hq213
           refine QL.no hE (runs_not hE rfl rfl rfl (by rw [hg239]; decide)) rfl ?_; clear hE a; intro a hE
           refine QL.no hE (runs_not hE rfl rfl rfl (by rw [hg239]; decide)) rfl ?_; clear hE a; intro a hE
           refine QL.no hE (runs_not hE rfl rfl rfl (by rw [hg239]; decide)) rfl ?_; clear hE a; intro a hE
           refine QL.no hE (runs_not hE rfl rfl rfl (by rw [hg239]; decide)) rfl ?_; clear hE a; intro a hE
           refine QL.no hE (runs_not hE rfl rfl rfl (by rw [hg239]; decide)) rfl ?_; clear hE a; intro a hE
           refine QL.no hE (runs_not hE rfl rfl rfl (by rw [hg239]; decide)) rfl ?_; clear hE a; intro a hE
           refine QL.no hE (runs_not hE rfl rfl rfl (by rw [hg239]; decide)) rfl ?_; clear hE a; intro a hE
           refine QL.no hE (runs_not hE rfl rfl rfl (by rw [hg239]; decide)) rfl ?_; clear hE a; intro a hE
           refine QL.no hE (runs_not hE rfl rfl rfl (by rw [hg239]; decide)) rfl ?_; clear hE a; intro a hE
           refine QL.no hE (runs_not hE rfl rfl rfl (by rw [hg239]; decide)) rfl ?_; clear hE a; intro a hE
           refine QL.v hE (runs_plain rfl) (Gives.pickT hE rfl hg239 rfl) rfl ?_; clear hE a; intro a hE
           refine QL.nil ?_; clear hS w; intro w hS
           subst hK218
           exact ⟨true, Option.some.inj hq213, hE.pick _ ⟨rfl, rfl, rfl, rfl, rfl, rfl, rfl, rfl, rfl, rfl, rfl, rfl, trivial⟩, hS⟩
          ·replace hq213 := iteF hg239 hq213
           refine QL.v hE (runs_if hE rfl rfl rfl hg239) (Gives.p hE rfl) rfl ?_; clear hE a; intro a hE
           refine QL.v hE (runs_if hE rfl rfl rfl hg239) (Gives.p hE rfl) rfl ?_; clear hE a; intro a hE
           refine QL.v hE (runs_if hE rfl rfl rfl hg239) (Gives.p hE rfl) rfl ?_; clear hE a; intro a hE
           obtain ⟨x240, hx241, hq213⟩ := bindS hq213
           obtain ⟨hi242, hlt243, hy244⟩ := gx_some hx241
           obtain ⟨a245, c246, cs247, hd248, hev249⟩ := h162.at hy244
           refine QL.v hE (runs_if hE rfl rfl rfl hg239) (Gives.idx hE ((((k63 : Nat) : Int)).toNat) rfl rfl sl56 hi242 (by have := hn163; omega) (hS.nAok 1 rfl (by have := hn163; omega : (((k63 : Nat) : Int)).toNat < x55.length))) rfl ?_; clear hE a; intro a hE
           refine QL.v hE (runs_if hE rfl rfl rfl hg239) (Gives.load1 (v := .slice a245 x240.length c246) hE rfl (fun w h => St.nSees h 1 rfl hd248) ty29) rfl ?_; clear hE a; intro a hE
           refine QL.v hE (runs_if hE rfl rfl rfl hg239) (Gives.fld hE rfl fl53_1) rfl ?_; clear hE a; intro a hE
           refine QL.v hE (runs_if hE rfl rfl rfl hg239) (Gives.loadB hE 0 rfl rfl rfl ty3) rfl ?_; clear hE a; intro a hE
           obtain ⟨x250, hx251, hq213⟩ := bindS hq213
           obtain ⟨hi252, hlt253, hy254⟩ := gx_some hx251
           obtain ⟨vs255, hl256, hR257, hd258, hget259⟩ := hev249.at hy254
           subst hR257
           refine QL.v hE (runs_if hE rfl rfl rfl hg239) (Gives.idx hE ((x148.To).toNat) rfl rfl sl29 hi252 hlt253 (hS.nnAok 1 rfl hd248 hlt253)) rfl ?_; clear hE a; intro a hE
           refine QL.v hE (runs_if hE rfl rfl rfl hg239) (Gives.load1 hE rfl (fun w h => St.nnSees h 1 rfl hd248 ((x148.To).toNat * 1) _ hget259) ty3) rfl ?_; clear hE a; intro a hE
           refine QL.v hE (runs_if hE rfl rfl rfl hg239) (Gives.p hE rfl) rfl ?_; clear hE a; intro a hE
           refine QL.v hE (runs_plain rfl) (Gives.pickF hE rfl hg239 rfl) rfl ?_; clear hE a; intro a hE
           refine QL.nil ?_; clear hS w; intro w hS
           subst hK218
           exact ⟨decide ((w64 (x201 + q211)) < x250), Option.some.inj hq213, hE.pick _ ⟨rfl, rfl, rfl, rfl, rfl, rfl, rfl, rfl, rfl, rfl, rfl, rfl, trivial⟩, hS⟩
         ·clear hE hS a w; rintro a w ⟨q217, rfl, hE, hS⟩
          obtain ⟨q261, hq260, hq145⟩ := bindS hq145
          refine W.cut (fun a w => ∃ (q264 : Bool), ∃ (q265 : List (List Int)), ∃ (ds269 : List In), (q264, q265) = q261 ∧ NEv 1 (RI .i64) s84 ds269 q265 ∧ q265.length = x55.length ∧ Rep a 100 [(1, .pointer (some ⟨b51, 0, none⟩)), (5, .slice (some ⟨b57, 0, none⟩) x55.length x55.length), (6, .int .i64 ((k63 : Nat) : Int)), (7, .bool q264), (21, .int .i64 ((x55.length : Nat) : Int)), (22, .int .i64 ((k63 : Nat) : Int)), (41, .slice a0_1 x0.Links.length c0_1), (42, .int .i64 ((x0.Links).length : Int)), (43, .int .i64 ((k147 : Nat) : Int))] ∧ St w s84 (pt b169 (.cells (MendLink.cells x148).toArray 53 (0, 0)) :: nestC 29 3 1 (some ⟨b57, 0, none⟩) x55.length x55.length ds269 :: pt b51 (.cells #[.int .i64 x0.Period, .slice a0_0 x0.Plan.length c0_0, .slice a0_1 x0.Links.length c0_1] 51 (0, 0)) :: R)) ?_ ?_
          ·refine W.gen fun K272 hK272 => ?_
           refine W.cond hE rfl (fun hc273 => ?_) (fun hc273 => ?_)
           ·replace hq260 := iteT hc273 hq260
            refine W.gen fun K274 hK274 => ?_
            refine W.regionE (sel (fun w => St w s84 (pt b169 (.cells (MendLink.cells x148).toArray 53 (0, 0)) :: nestC 29 3 1 (some ⟨b57, 0, none⟩) x55.length x55.length ds161 :: pt b51 (.cells #[.int .i64 x0.Period, .slice a0_0 x0.Plan.length c0_0, .slice a0_1 x0.Links.length c0_1] 51 (0, 0)) :: R)) (fun w => St w s84 (pt b169 (.cells (MendLink.cells x148).toArray 53 (0, 0)) :: pt b51 (.cells #[.int .i64 x0.Period, .slice a0_0 x0.Plan.length c0_0, .slice a0_1 x0.Links.length c0_1] 51 (0, 0)) :: R))) (fun b i => cond b ([0, 1, 2, 3, 4, 5, 6, 9].contains i) ([0, 1, 2, 3, 4, 5, 6, 7, 8, 9].contains i)) mixed ?_
            replace hS := hS.drew
            refine Rg.takeP (i := 0) hE rfl (by kernel_rfl) (runs_plain rfl) (Gives.p hE rfl) rfl (tw_sel (fun _ => hS) (fun _ => (hS.dropAt 1))) ?_; clear hE a; intro a hE
            refine Rg.takeP (i := 1) hE rfl (by kernel_rfl) (runs_plain rfl) (Gives.p hE rfl) rfl (tw_sel (fun _ => hS) (fun _ => (hS.dropAt 1))) ?_; clear hE a; intro a hE
            obtain ⟨x275, hx276, hq260⟩ := bindS hq260
            obtain ⟨hi277, hlt278, hy279⟩ := gx_some hx276
            obtain ⟨a280, c281, cs282, hd283, hev284⟩ := h162.at hy279
            refine Rg.takeP (i := 2) hE rfl (by kernel_rfl) (runs_plain rfl) (Gives.idx hE ((((k63 : Nat) : Int)).toNat) rfl rfl sl56 hi277 (by have := hn163; omega) (hS.nAok 1 rfl (by have := hn163; omega : (((k63 : Nat) : Int)).toNat < x55.length))) rfl (tw_sel (fun _ => hS) (fun _ => (hS.dropAt 1))) ?_; clear hE a; intro a hE
            have hT := tw_sel (A := fun w => St w s84 (pt b169 (.cells (MendLink.cells x148).toArray 53 (0, 0)) :: nestC 29 3 1 (some ⟨b57, 0, none⟩) x55.length x55.length ds161 :: pt b51 (.cells #[.int .i64 x0.Period, .slice a0_0 x0.Plan.length c0_0, .slice a0_1 x0.Links.length c0_1] 51 (0, 0)) :: R)) (B := fun w => St w s84 (pt b169 (.cells (MendLink.cells x148).toArray 53 (0, 0)) :: pt b51 (.cells #[.int .i64 x0.Period, .slice a0_0 x0.Plan.length c0_0, .slice a0_1 x0.Links.length c0_1] 51 (0, 0)) :: R)) (w := _) (x := true) (y := true) (fun _ => hS) (fun _ => (hS.dropAt 1))
            have hF := hS; replace hS := hS
            refine Rg.take (i := 3) true rfl hE rfl (by kernel_rfl) (runs_plain rfl) (Gives.load1 (v := .slice a280 x275.length c281) hE rfl (fun w h => St.nSees h 1 rfl hd283) ty29) rfl hT ?_; clear hE a; intro a hE
            replace hS := hF; clear hF hT
            refine Rg.takeP (i := 4) hE rfl (by kernel_rfl) (runs_plain rfl) (Gives.fld hE rfl fl53_1) rfl (tw_sel (fun _ => hS) (fun _ => (hS.dropAt 1))) ?_; clear hE a; intro a hE
            have hT := tw_sel (A := fun w => St w s84 (pt b169 (.cells (MendLink.cells x148).toArray 53 (0, 0)) :: nestC 29 3 1 (some ⟨b57, 0, none⟩) x55.length x55.length ds161 :: pt b51 (.cells #[.int .i64 x0.Period, .slice a0_0 x0.Plan.length c0_0, .slice a0_1 x0.Links.length c0_1] 51 (0, 0)) :: R)) (B := fun w => St w s84 (pt b169 (.cells (MendLink.cells x148).toArray 53 (0, 0)) :: pt b51 (.cells #[.int .i64 x0.Period, .slice a0_0 x0.Plan.length c0_0, .slice a0_1 x0.Links.length c0_1] 51 (0, 0)) :: R)) (w := _) (x := true) (y := true) (fun _ => hS) (fun _ => (hS.dropAt 1))
            have hF := hS; replace hS := hS
            refine Rg.take (i := 5) true rfl hE rfl (by kernel_rfl) (runs_plain rfl) (Gives.loadB hE 0 rfl rfl rfl ty3) rfl hT ?_; clear hE a; intro a hE
            replace hS := hF; clear hF hT
            refine Rg.takeP (i := 6) hE rfl (by kernel_rfl) (runs_plain rfl) (Gives.p hE rfl) rfl (tw_sel (fun _ => hS) (fun _ => (hS.dropAt 1))) ?_; clear hE a; intro a hE
            refine Rg.one (i := 7) false true rfl (by kernel_rfl) (by kernel_rfl) (by kernel_rfl) ?_
            replace hS := hS.borrowM 1 rfl hd283
            obtain ⟨_, hx287, hq260⟩ := bindS hq260
            obtain ⟨h288, h289⟩ := ix_some hx287
            refine WL.vS hS hE (runs_plain rfl) (Gives.idx hE ((x148.To).toNat) rfl rfl sl29 h288 (by omega) (hS.vecAok 0 rfl (by omega : (x148.To).toNat < x275.length))) rfl ?_; clear hE a; intro a hE
            refine WL.nil ?_
            refine ⟨⟨fun h => absurd h (by decide), fun _ => ((hS.tail).dropAt 1)⟩, ?_⟩
            refine Rg.one (i := 8) false true rfl (by kernel_rfl) (by kernel_rfl) (by kernel_rfl) ?_
            obtain ⟨x291, hx292, hq260⟩ := bindS hq260
            refine WL.setD hE hS 0 rfl (runs_plain rfl) rfl rfl (vs := [.int .i64 (w64 (x201 + q211))]) rfl ty3 rfl rfl rfl hev284 (rfl) (sx_some hx292).1 hx292 rfl rfl ?_; clear hE hS a w; intro cs293 a w h294 hn295 hE hS
            refine WL.nil ?_
            refine ⟨⟨fun h => absurd h (by decide), fun _ => ((hS.tail).dropAt 1)⟩, ?_⟩
            refine Rg.takeP (i := 9) hE rfl (by kernel_rfl) (runs_plain rfl) (Gives.p hE rfl) rfl (tw_sel (fun h => absurd h (by decide)) (fun _ => ((hS.tail).dropAt 1))) ?_; clear hE a; intro a hE
            refine Rg.done (by kernel_rfl) ?_
            subst hK274
            replace hS := hS.giveBack 1 rfl hd283
            have h297 := h162.set (k := (((k63 : Nat) : Int)).toNat) (d := ⟨a280, c281, x275.length, cs293⟩) h294 hn295
            have hn298 : (q157.set ((((k63 : Nat) : Int)).toNat) x291).length = x55.length := by simp; exact hn163
            generalize List.set ds161 ((((k63 : Nat) : Int)).toNat) _ = ds296 at hS h297
            subst hK272
            exact ⟨true, (q157.set ((((k63 : Nat) : Int)).toNat) x291), ds296, Option.some.inj hq260, h297, hn298, hE.pick _ ⟨rfl, rfl, rfl, rfl, rfl, rfl, rfl, rfl, rfl, trivial⟩, hS⟩
           ·replace hq260 := iteF hc273 hq260
            refine W.skip ?_
            subst hK272
            exact ⟨q156, q157, ds161, Option.some.inj hq260, h162, hn163, hE.pick _ ⟨rfl, rfl, rfl, rfl, rfl, rfl, rfl, rfl, rfl, trivial⟩, hS⟩
          ·clear hE hS a w; rintro a w ⟨q264, q265, ds269, rfl, h270, hn271, hE, hS⟩
           dsimp only at hq145
           refine W.region ?_
           refine WL.vS hS hE (runs_plain rfl) (Gives.inc hE rfl (by have := h0_1.small; omega)) rfl ?_; clear hE a; intro a hE
           refine WL.vS hS hE (runs_plain rfl) (Gives.p hE rfl) rfl ?_; clear hE a; intro a hE
           refine WL.nil ?_
           replace hS := hS.tail
           subst hK164
           exact ⟨rest149.length, Nat.lt_succ_self _, rest149, k147 + 1, q264, q265, ds269, rfl, hd150, hq145, h270, hn271, hE.pick _ ⟨rfl, rfl, rfl, rfl, rfl, rfl, rfl, rfl, rfl, trivial⟩, hS⟩
      ·clear hE hS a w; rintro a w ⟨q156, q157, ds161, rfl, h162, hn163, hE, hS⟩
       dsimp only at hq129
       subst hK143
       exact ⟨n131, Nat.lt_succ_self _, n131, q156, q157, ds161, rfl, hq129, h162, hn163, hE.pick _ ⟨rfl, rfl, rfl, rfl, rfl, rfl, trivial⟩, hS⟩
     ·replace hq129 := iteF hc144 hq129
      subst hK143
      refine W.exit rfl ?_
      exact ⟨q135, q136, ds140, Option.some.inj hq129, h141, hn142, hE.pick _ ⟨rfl, rfl, rfl, rfl, trivial⟩, hS⟩
    ·clear hE hS a w; rintro a w ⟨q135, q136, ds140, rfl, h141, hn142, hE, hS⟩
     dsimp only at hq61
     refine W.region ?_
     refine WL.vS hS hE (runs_plain rfl) (Gives.inc hE rfl (by omega)) rfl ?_; clear hE a; intro a hE
     refine WL.vS hS hE (runs_plain rfl) (Gives.p hE rfl) rfl ?_; clear hE a; intro a hE
     refine WL.nil ?_
     subst hK80
     exact ⟨rest65, Nat.lt_succ_self _, rest65, k63 + 1, q136, ds140, s84, rfl, (by omega), (Sg.Le.trans hle71 hle85), hq61, h141, hn142, hE.pick _ ⟨rfl, rfl, rfl, rfl, trivial⟩, hS⟩
  ·clear hE hS a w; rintro a w ⟨q73, ds77, s70, hle71, rfl, h78, hn79, hE, hS⟩
   replace h0_0 := Sl.mono RI.mono hle71 h0_0
   replace h0_1 := Sl.mono RMendLink.mono hle71 h0_1
   replace h59 := NEv.mono RI.mono hle71 h59
   refine W.seq (W.region ?_)
   refine WL.vS hS hE (runs_plain rfl) (Gives.p hE rfl) rfl ?_; clear hE a; intro a hE
   refine WL.vS hS hE (runs_plain rfl) (Gives.p hE rfl) rfl ?_; clear hE a; intro a hE
   refine WL.vS hS hE (runs_plain rfl) (Gives.p hE rfl) rfl ?_; clear hE a; intro a hE
   refine WL.nil ?_
   refine W.ret ?_
   have hF := hS.fixN RI.mono 0 rfl h78 hn79; clear hS; obtain ⟨s299, hle300, hS, h301⟩ := hF
   (try rw [← hn79] at hE)
   (try rw [← hn79] at hS)
   (try rw [← hn79] at h301)
   replace h0_0 := Sl.mono RI.mono hle300 h0_0
   replace h0_1 := Sl.mono RMendLink.mono hle300 h0_1
   refine finG (fn := Try.f30) (rs := [.tmp 2, .tmp 3]) (vs := [_, _]) hE rfl ⟨rfl, rfl, trivial⟩ ?_
   obtain rfl := Option.some.inj hr
   replace hS := hS.tail
   exact ⟨(some ⟨b57, 0, none⟩), q73.length, s299, rfl, (Sg.Le.trans hle71 hle300), h301, hS⟩
set_option maxHeartbeats 8000000 in
theorem FishtopTopRounds_1_v1_ok  {w : World} {s : Sg} {R : List HP} {pb0 : Nat} {x0 : List Int} {a0 : Option Addr} {c0 : Nat} {y0 : List Int} {a_y0_0 : Option Addr} {c_y0_0 : Nat} (hS : St w s (pt pb0 (.cells #[.slice a_y0_0 y0.length c_y0_0] 29 (0, 0)) :: R)) (_h0 : Sl 1 (RI .i64) s a0 c0 x0) (_h_y0_0 : Sl 1 (RI .i64) s a_y0_0 c_y0_0 y0) {r : Bool} (hr : FishtopTopRounds_1_v1 x0 y0 = r) :
  Calls Try.prog 32 [.slice a0 x0.length c0, .pointer (some ⟨pb0, 0, none⟩)].toArray w (fun e w => e = .returned (.bool r) ∧ St w s (pt pb0 (.cells #[.slice a_y0_0 y0.length c_y0_0] 29 (0, 0)) :: R)) := by
 refine enter Try.func32 rfl rfl rfl fun a hE => ?_
 rw [FishtopTopRounds_1_v1] at hr
 refine W.seq (W.region ?_)
 refine WL.vS hS hE (runs_plain rfl) (Gives.p hE rfl) rfl ?_; clear hE a; intro a hE
 refine WL.nil ?_
 refine W.seq (W.region ?_)
 refine WL.vS hS hE (runs_plain rfl) (Gives.p hE rfl) rfl ?_; clear hE a; intro a hE
 refine WL.vS hS hE (runs_plain rfl) (Gives.len hE rfl sl29) rfl ?_; clear hE a; intro a hE
 refine WL.vS hS hE (runs_plain rfl) (Gives.loadB hE 0 rfl rfl rfl ty29) rfl ?_; clear hE a; intro a hE
 refine WL.vS hS hE (runs_plain rfl) (Gives.len hE rfl sl29) rfl ?_; clear hE a; intro a hE
 refine WL.vS hS hE (runs_plain rfl) (Gives.p hE rfl) rfl ?_; clear hE a; intro a hE
 refine WL.vS hS hE (runs_plain rfl) (Gives.p hE rfl) rfl ?_; clear hE a; intro a hE
 refine WL.nil ?_
 refine W.ret ?_
 refine finG (fn := Try.f32) (rs := [.tmp 3]) (vs := [_]) hE rfl ⟨rfl, trivial⟩ ?_
 subst hr
 exact ⟨rfl, hS⟩
set_option maxHeartbeats 8000000 in
theorem SlicesIndexFuncLLint_v1_ok  {w : World} {s : Sg} {R : List HP} {pb0 : Nat} {x0 : List (List Int)} {a0 : Option Addr} {c0 : Nat} {y0 : List Int} {a_y0_0 : Option Addr} {c_y0_0 : Nat} (hS : St w s (pt pb0 (.cells #[.slice a_y0_0 y0.length c_y0_0] 29 (0, 0)) :: R)) (h0 : Sl 1 (RL 1 (RI .i64)) s a0 c0 x0) (h_y0_0 : Sl 1 (RI .i64) s a_y0_0 c_y0_0 y0) {r : Int} (hr : SlicesIndexFuncLLint_v1 x0 y0 = r) :
  Calls Try.prog 68 [.slice a0 x0.length c0, .func (.func 32) #[] #[.pointer (some ⟨pb0, 0, none⟩)]].toArray w (fun e w => e = .returned (.int .i64 r) ∧ St w s (pt pb0 (.cells #[.slice a_y0_0 y0.length c_y0_0] 29 (0, 0)) :: R)) := by
 refine enter Try.func68 rfl rfl rfl fun a hE => ?_
 rw [SlicesIndexFuncLLint_v1] at hr
 refine W.seq (W.region ?_)
 refine WL.vS hS hE (runs_plain rfl) (Gives.p hE rfl) rfl ?_; clear hE a; intro a hE
 refine WL.nil ?_
 refine W.seq ?_
 refine W.seq (W.region ?_)
 refine WL.vS hS hE (runs_plain rfl) (Gives.p hE rfl) rfl ?_; clear hE a; intro a hE
 refine WL.vS hS hE (runs_plain rfl) (Gives.len hE rfl sl56) rfl ?_; clear hE a; intro a hE
 refine WL.vS hS hE (runs_plain rfl) (Gives.p hE rfl) rfl ?_; clear hE a; intro a hE
 refine WL.nil ?_
 obtain ⟨q52, hq51, hr⟩ := bndS hr
 refine W.cut (fun a w => (.next ()) = q52 ∧ Rep a 19 [] ∧ St w s (pt pb0 (.cells #[.slice a_y0_0 y0.length c_y0_0] 29 (0, 0)) :: R)) ?_ ?_
 ·refine W.block ?_
  refine W.loop (fun m a w => ∃ (rest55 : List (List Int)) (k53 : Nat), rest55.length = m ∧ x0.drop k53 = rest55 ∧ SlicesIndexFuncLLint_v1.loop1 y0 rest55 k53 = q52 ∧ Rep a 19 [(0, .slice a0 x0.length c0), (1, .func (.func 32) #[] #[.pointer (some ⟨pb0, 0, none⟩)]), (7, .int .i64 ((x0).length : Int)), (8, .int .i64 ((k53 : Nat) : Int))] ∧ St w s (pt pb0 (.cells #[.slice a_y0_0 y0.length c_y0_0] 29 (0, 0)) :: R)) (m := x0.length) ⟨x0, 0, rfl, rfl, hq51, hE.pick _ ⟨rfl, rfl, rfl, rfl, trivial⟩, hS⟩ ?_
  clear hE hS a w hq51; rintro m59 a w ⟨rest55, k53, rfl, hd56, hq51, hE, hS⟩
  refine W.gen fun K62 hK62 => ?_
  rcases rest55 with _ | ⟨x54, rest55⟩
  ·have hlt57 := drop_nil hd56
   refine W.seq (W.region ?_)
   refine WL.vS hS hE (runs_plain rfl) (Gives.p hE rfl) rfl ?_; clear hE a; intro a hE
   refine WL.nil ?_
   refine W.seq ?_
   refine W.condF hE rfl (decide_eq_false (by omega)) ?_
   subst hK62
   refine W.exit rfl ?_
   exact ⟨hq51, hE.pick _ trivial, hS⟩
  ·obtain ⟨hlt57, hx58, hd56⟩ := drop_cons hd56
   rw [SlicesIndexFuncLLint_v1.loop1] at hq51
   refine W.seq (W.region ?_)
   refine WL.vS hS hE (runs_plain rfl) (Gives.p hE rfl) rfl ?_; clear hE a; intro a hE
   refine WL.nil ?_
   refine W.seq ?_
   refine W.condT hE rfl (decide_eq_true (by omega)) ?_
   refine W.skip ?_
   refine W.seq ?_
   refine W.block ?_
   refine W.seq (W.region ?_)
   refine WL.vS hS hE (runs_plain rfl) (Gives.p hE rfl) rfl ?_; clear hE a; intro a hE
   refine WL.vS hS hE (runs_plain rfl) (Gives.p hE rfl) rfl ?_; clear hE a; intro a hE
   refine WL.nil ?_
   refine W.seq (W.region ?_)
   refine WL.vS hS hE (runs_plain rfl) (Gives.p hE rfl) rfl ?_; clear hE a; intro a hE
   refine WL.vS hS hE (runs_plain rfl) (Gives.p hE rfl) rfl ?_; clear hE a; intro a hE
   refine WL.vS hS hE (runs_plain rfl) (Gives.p hE rfl) rfl ?_; clear hE a; intro a hE
   obtain ⟨cs63, hl64, hR65, hat66⟩ := h0.at hx58
   obtain ⟨a67, c68, rfl, h69⟩ := hR65
   refine WL.vS hS hE (runs_plain rfl) (Gives.idx hE k53 rfl rfl sl56 rfl hlt57 (h0.aok hlt57)) rfl ?_; clear hE a; intro a hE
   refine WL.vS hS hE (runs_plain rfl) (Gives.load1 hE rfl (fun w h => hat66 w _ h) ty29) rfl ?_; clear hE a; intro a hE
   refine WL.fnw hE (FishtopTopRounds_1_v1_ok hS h69 h_y0_0 rfl (r := FishtopTopRounds_1_v1 x54 y0)) rfl (runs_plain rfl) bd32 rfl rfl rfl ?_
   clear hE hS; rintro e w ⟨rfl, hS⟩; refine ⟨_, rfl, ?_⟩; clear a; intro a hE
   refine WL.nil ?_
   refine W.cond hE rfl (fun hc70 => ?_) (fun hc70 => ?_)
   ·replace hq51 := iteT hc70 hq51
    refine W.seq (W.region ?_)
    refine WL.vS hS hE (runs_plain rfl) (Gives.p hE rfl) rfl ?_; clear hE a; intro a hE
    refine WL.vS hS hE (runs_plain rfl) (Gives.p hE rfl) rfl ?_; clear hE a; intro a hE
    refine WL.nil ?_
    refine W.ret ?_
    subst hK62
    rw [← hq51] at hr
    dsimp only at hr
    refine finG (fn := Try.f68) (rs := [.tmp 4]) (vs := [_]) hE rfl ⟨rfl, trivial⟩ ?_
    subst hr
    exact ⟨rfl, hS⟩
   ·replace hq51 := iteF hc70 hq51
    refine W.skip ?_
    refine W.region ?_
    refine WL.vS hS hE (runs_plain rfl) (Gives.inc hE rfl (by have := h0.small; omega)) rfl ?_; clear hE a; intro a hE
    refine WL.vS hS hE (runs_plain rfl) (Gives.p hE rfl) rfl ?_; clear hE a; intro a hE
    refine WL.nil ?_
    subst hK62
    exact ⟨rest55.length, Nat.lt_succ_self _, rest55, k53 + 1, rfl, hd56, hq51, hE.pick _ ⟨rfl, rfl, rfl, rfl, trivial⟩, hS⟩
 ·clear hE hS a w; rintro a w ⟨rfl, hE, hS⟩
  dsimp only at hr
  refine W.seq (W.region ?_)
  refine WL.vS hS hE (runs_plain rfl) (Gives.p hE rfl) rfl ?_; clear hE a; intro a hE
  refine WL.nil ?_
  refine W.ret ?_
  refine finG (fn := Try.f68) (rs := [.tmp 4]) (vs := [_]) hE rfl ⟨rfl, trivial⟩ ?_
  subst hr
  exact ⟨rfl, hS⟩
set_option maxHeartbeats 8000000 in
theorem SlicesContainsFuncLLint_v1_ok  {w : World} {s : Sg} {R : List HP} {pb0 : Nat} {x0 : List (List Int)} {a0 : Option Addr} {c0 : Nat} {y0 : List Int} {a_y0_0 : Option Addr} {c_y0_0 : Nat} (hS : St w s (pt pb0 (.cells #[.slice a_y0_0 y0.length c_y0_0] 29 (0, 0)) :: R)) (h0 : Sl 1 (RL 1 (RI .i64)) s a0 c0 x0) (h_y0_0 : Sl 1 (RI .i64) s a_y0_0 c_y0_0 y0) {r : Bool} (hr : SlicesContainsFuncLLint_v1 x0 y0 = r) :
  Calls Try.prog 31 [.slice a0 x0.length c0, .func (.func 32) #[] #[.pointer (some ⟨pb0, 0, none⟩)]].toArray w (fun e w => e = .returned (.bool r) ∧ St w s (pt pb0 (.cells #[.slice a_y0_0 y0.length c_y0_0] 29 (0, 0)) :: R)) := by
 refine enter Try.func31 rfl rfl rfl fun a hE => ?_
 rw [SlicesContainsFuncLLint_v1] at hr
 refine W.seq (W.region ?_)
 refine WL.vS hS hE (runs_plain rfl) (Gives.p hE rfl) rfl ?_; clear hE a; intro a hE
 refine WL.nil ?_
 refine W.seq (W.region ?_)
 refine WL.vS hS hE (runs_plain rfl) (Gives.p hE rfl) rfl ?_; clear hE a; intro a hE
 refine WL.vS hS hE (runs_plain rfl) (Gives.p hE rfl) rfl ?_; clear hE a; intro a hE
 refine WL.fnq hE (SlicesIndexFuncLLint_v1_ok hS h0 h_y0_0 rfl (r := SlicesIndexFuncLLint_v1 x0 y0)) (runs_plain rfl) bd68 rfl rfl rfl ?_
 clear hE hS; rintro e w ⟨rfl, hS⟩; refine ⟨_, rfl, ?_⟩; clear a; intro a hE
 refine WL.vS hS hE (runs_plain rfl) (Gives.p hE rfl) rfl ?_; clear hE a; intro a hE
 refine WL.vS hS hE (runs_plain rfl) (Gives.p hE rfl) rfl ?_; clear hE a; intro a hE
 refine WL.nil ?_
 refine W.ret ?_
 refine finG (fn := Try.f31) (rs := [.tmp 4]) (vs := [_]) hE rfl ⟨rfl, trivial⟩ ?_
 subst hr
 exact ⟨rfl, hS⟩
set_option maxHeartbeats 8000000 in
theorem MendRoundfollow_ok {fu : Nat}  {w : World} {s : Sg} {R : List HP} {x0 : MendRound} {a0_0 : Option Addr} {c0_0 : Nat} {a0_1 : Option Addr} {c0_1 : Nat} {x1 : List Int} {a1 : Option Addr} {c1 : Nat} {x2 : List (List Int)} {a2 : Option Addr} {c2 : Nat} (hS : St w s (R)) (h0_0 : Sl 1 (RI .i64) s a0_0 c0_0 x0.Plan) (h0_1 : Sl 4 RMendLink s a0_1 c0_1 x0.Links) (h1 : Sl 1 (RI .i64) s a1 c1 x1) (h2 : Sl 1 (RL 1 (RI .i64)) s a2 c2 x2) {r : (List Int)} (hr : MendRoundfollow fu x0 x1 x2 = some r) :
  Calls Try.prog 69 [.agg [.int .i64 x0.Period, .slice a0_0 x0.Plan.length c0_0, .slice a0_1 x0.Links.length c0_1].toArray, .slice a1 x1.length c1, .slice a2 x2.length c2].toArray w (fun e w => ∃ (a0 : Option Addr) (c0 n0 : Nat) (cs0 : List Value), e = .returned (.slice a0 n0 c0) ∧ Ev 1 (RI .i64) s cs0 r ∧ r.length = n0 ∧ St w s (vecC 3 1 a0 c0 n0 cs0 :: R)) := by
 refine enter Try.func69 rfl rfl rfl fun a hE => ?_
 rw [MendRoundfollow] at hr
 refine W.seq (W.region ?_)
 refine WL.box hE hS (runs_plain rfl) rfl rfl rfl ?_; clear hE hS a w; intro b51 a w hE hS
 refine WL.vS hS hE (runs_plain rfl) (Gives.p hE rfl) rfl ?_; clear hE a; intro a hE
 refine WL.nil ?_
 refine W.seq (W.region ?_)
 refine WL.vS hS hE (runs_plain rfl) (Gives.p hE rfl) rfl ?_; clear hE a; intro a hE
 obtain ⟨q52, hq53, hr⟩ := bindS hr
 have hc_ := SlicesCloneLint_ok hS h1 hq53
 refine WL.fnq hE (hc_) (runs_plain rfl) bd60 rfl rfl rfl ?_
 clear hE hS hc_; rintro e w ⟨a54, c55, n56, cs57, rfl, h58, rfl, hS⟩; refine ⟨_, rfl, ?_⟩; clear a; intro a hE
 refine WL.vS hS hE (runs_plain rfl) (Gives.p hE rfl) rfl ?_; clear hE a; intro a hE
 refine WL.nil ?_
 refine W.seq ?_
 refine W.seq (W.region ?_)
 refine WL.vS hS hE (runs_plain rfl) (Gives.p hE rfl) rfl ?_; clear hE a; intro a hE
 refine WL.nil ?_
 obtain ⟨q61, hq60, hr⟩ := bindS hr
 refine W.cut (fun a w => ∃ (q66 : Bool), ∃ (q67 : List Int), ∃ (cs71 : List Value), (q66, q67) = q61 ∧ Ev 1 (RI .i64) s cs71 q67 ∧ q67.length = q52.length ∧ Rep a 60 [(1, .slice a54 q52.length c55)] ∧ St w s (vecC 3 1 a54 c55 q52.length cs71 :: pt b51 (.cells #[.int .i64 x0.Period, .slice a0_0 x0.Plan.length c0_0, .slice a0_1 x0.Links.length c0_1] 51 (0, 0)) :: R)) ?_ ?_
 ·refine W.block ?_
  refine W.loop (fun m a w => ∃ (n62 : Nat), ∃ (q66 : Bool), ∃ (q67 : List Int), ∃ (cs71 : List Value), n62 = m ∧ MendRoundfollow.loop1 x0 x2 n62 q66 q67 = some q61 ∧ Ev 1 (RI .i64) s cs71 q67 ∧ q67.length = q52.length ∧ Rep a 60 [(1, .slice a54 q52.length c55), (2, .slice a2 x2.length c2), (3, .pointer (some ⟨b51, 0, none⟩)), (7, .bool q66)] ∧ St w s (vecC 3 1 a54 c55 q52.length cs71 :: pt b51 (.cells #[.int .i64 x0.Period, .slice a0_0 x0.Plan.length c0_0, .slice a0_1 x0.Links.length c0_1] 51 (0, 0)) :: R)) (m := fu) ⟨fu, true, q52, cs57, rfl, hq60, h58, rfl, hE.pick _ ⟨rfl, rfl, rfl, rfl, trivial⟩, hS⟩ ?_
  clear hE hS a w hq60; rintro m63 a w ⟨n62, q66, q67, cs71, rfl, hq60, h70, hn72, hE, hS⟩
  refine W.gen fun K73 hK73 => ?_
  rcases n62 with _ | n62
  ·rw [MendRoundfollow.loop1] at hq60; exact absurd hq60 (by simp)
  rw [MendRoundfollow.loop1] at hq60
  refine W.seq ?_
  refine W.seq (W.region ?_)
  refine WL.vS hS hE (runs_plain rfl) (Gives.p hE rfl) rfl ?_; clear hE a; intro a hE
  refine WL.nil ?_
  refine W.cond hE rfl (fun hc74 => ?_) (fun hc74 => ?_)
  ·replace hq60 := iteT hc74 hq60
   refine W.skip ?_
   refine W.block ?_
   refine W.seq (W.region ?_)
   refine WL.vS hS hE (runs_plain rfl) (Gives.p hE rfl) rfl ?_; clear hE a; intro a hE
   refine WL.nil ?_
   refine W.seq (W.region ?_)
   refine WL.vS hS hE (runs_plain rfl) (Gives.fld hE rfl fl51_2) rfl ?_; clear hE a; intro a hE
   refine WL.vS hS hE (runs_plain rfl) (Gives.loadB hE 1 rfl rfl rfl ty49) rfl ?_; clear hE a; intro a hE
   refine WL.vS hS hE (runs_plain rfl) (Gives.len hE rfl sl49) rfl ?_; clear hE a; intro a hE
   refine WL.vS hS hE (runs_plain rfl) (Gives.p hE rfl) rfl ?_; clear hE a; intro a hE
   refine WL.nil ?_
   obtain ⟨q76, hq75, hq60⟩ := bindS hq60
   refine W.cut (fun a w => ∃ (q86 : Bool), ∃ (q87 : List Int), ∃ (cs91 : List Value), (q86, q87) = q76 ∧ Ev 1 (RI .i64) s cs91 q87 ∧ q87.length = q52.length ∧ Rep a 60 [(1, .slice a54 q52.length c55), (2, .slice a2 x2.length c2), (3, .pointer (some ⟨b51, 0, none⟩)), (7, .bool q86)] ∧ St w s (vecC 3 1 a54 c55 q52.length cs91 :: pt b51 (.cells #[.int .i64 x0.Period, .slice a0_0 x0.Plan.length c0_0, .slice a0_1 x0.Links.length c0_1] 51 (0, 0)) :: R)) ?_ ?_
   ·refine W.block ?_
    refine W.loop (fun m a w => ∃ (rest79 : List MendLink) (k77 : Nat), ∃ (q86 : Bool), ∃ (q87 : List Int), ∃ (cs91 : List Value), rest79.length = m ∧ x0.Links.drop k77 = rest79 ∧ MendRoundfollow.loop2 x0 x2 rest79 q86 q87 = some q76 ∧ Ev 1 (RI .i64) s cs91 q87 ∧ q87.length = q52.length ∧ Rep a 60 [(1, .slice a54 q52.length c55), (2, .slice a2 x2.length c2), (3, .pointer (some ⟨b51, 0, none⟩)), (7, .bool q86), (16, .slice a0_1 x0.Links.length c0_1), (17, .int .i64 ((x0.Links).length : Int)), (18, .int .i64 ((k77 : Nat) : Int))] ∧ St w s (vecC 3 1 a54 c55 q52.length cs91 :: pt b51 (.cells #[.int .i64 x0.Period, .slice a0_0 x0.Plan.length c0_0, .slice a0_1 x0.Links.length c0_1] 51 (0, 0)) :: R)) (m := x0.Links.length) ⟨x0.Links, 0, false, q67, cs71, rfl, rfl, hq75, h70, hn72, hE.pick _ ⟨rfl, rfl, rfl, rfl, rfl, rfl, rfl, trivial⟩, hS⟩ ?_
    clear hE hS a w hq75; rintro m83 a w ⟨rest79, k77, q86, q87, cs91, rfl, hd80, hq75, h90, hn92, hE, hS⟩
    refine W.gen fun K93 hK93 => ?_
    rcases rest79 with _ | ⟨x78, rest79⟩
    ·have hlt81 := drop_nil hd80
     refine W.seq (W.region ?_)
     refine WL.vS hS hE (runs_plain rfl) (Gives.p hE rfl) rfl ?_; clear hE a; intro a hE
     refine WL.nil ?_
     refine W.seq ?_
     refine W.condF hE rfl (decide_eq_false (by omega)) ?_
     subst hK93
     refine W.exit rfl ?_
     exact ⟨q86, q87, cs91, Option.some.inj hq75, h90, hn92, hE.pick _ ⟨rfl, rfl, rfl, rfl, trivial⟩, hS⟩
    ·obtain ⟨hlt81, hx82, hd80⟩ := drop_cons hd80
     rw [MendRoundfollow.loop2] at hq75
     refine W.seq (W.region ?_)
     refine WL.vS hS hE (runs_plain rfl) (Gives.p hE rfl) rfl ?_; clear hE a; intro a hE
     refine WL.nil ?_
     refine W.seq ?_
     refine W.condT hE rfl (decide_eq_true (by omega)) ?_
     refine W.skip ?_
     refine W.seq ?_
     refine W.block ?_
     refine W.seq (W.region ?_)
     obtain ⟨cs94, hl95, hR96, hat97⟩ := h0_1.at hx82
     subst hR96
     refine WL.vS hS hE (runs_plain rfl) (Gives.idx hE k77 rfl rfl sl49 rfl hlt81 (h0_1.aok hlt81)) rfl ?_; clear hE a; intro a hE
     refine WL.vS hS hE (runs_plain rfl) (Gives.loadA hE rfl (fun w h => hat97 w _ h) ty53) rfl ?_; clear hE a; intro a hE
     refine WL.alloc hE hS (runs_plain rfl) zr53 rfl ?_; clear hE hS a w; intro b98 a w hE hS
     refine WL.storeI hE hS 0 rfl (MendLink.cells x78) (runs_plain rfl) rfl rfl rfl ty53 rfl rfl rfl rfl ?_; clear hE hS a w; intro a w hE hS
     refine WL.nil ?_
     refine W.seq (W.region ?_)
     refine WL.vS hS hE (runs_plain rfl) (Gives.p hE rfl) rfl ?_; clear hE a; intro a hE
     refine WL.vS hS hE (runs_plain rfl) (Gives.p hE rfl) rfl ?_; clear hE a; intro a hE
     refine WL.nil ?_
     refine W.seq ?_
     refine W.seq (W.region ?_)
     refine WL.vS hS hE (runs_plain rfl) (Gives.fld hE rfl fl53_3) rfl ?_; clear hE a; intro a hE
     refine WL.vS hS hE (runs_plain rfl) (Gives.loadB hE 0 rfl rfl rfl ty3) rfl ?_; clear hE a; intro a hE
     refine WL.vS hS hE (runs_plain rfl) (Gives.p hE rfl) rfl ?_; clear hE a; intro a hE
     refine WL.nil ?_
     refine W.cond hE rfl (fun hc99 => ?_) (fun hc99 => ?_)
     ·replace hq75 := iteT hc99 hq75
      refine W.seq ?_
      refine W.seq (W.region ?_)
      refine WL.vS hS hE (runs_plain rfl) (Gives.fld hE rfl fl53_3) rfl ?_; clear hE a; intro a hE
      refine WL.vS hS hE (runs_plain rfl) (Gives.loadB hE 0 rfl rfl rfl ty3) rfl ?_; clear hE a; intro a hE
      refine WL.vS hS hE (runs_plain rfl) (Gives.p hE rfl) rfl ?_; clear hE a; intro a hE
      refine WL.vS hS hE (runs_plain rfl) (Gives.len hE rfl sl56) rfl ?_; clear hE a; intro a hE
      refine WL.vS hS hE (runs_plain rfl) (Gives.p hE rfl) rfl ?_; clear hE a; intro a hE
      refine WL.nil ?_
      refine W.cond hE rfl (fun hc100 => ?_) (fun hc100 => ?_)
      ·replace hq75 := iteT hc100 hq75
       refine W.exit rfl ?_
       refine W.region ?_
       refine WL.vS hS hE (runs_plain rfl) (Gives.inc hE rfl (by have := h0_1.small; omega)) rfl ?_; clear hE a; intro a hE
       refine WL.vS hS hE (runs_plain rfl) (Gives.p hE rfl) rfl ?_; clear hE a; intro a hE
       refine WL.nil ?_
       replace hS := hS.tail
       subst hK93
       exact ⟨rest79.length, Nat.lt_succ_self _, rest79, k77 + 1, q86, q87, cs91, rfl, hd80, hq75, h90, hn92, hE.pick _ ⟨rfl, rfl, rfl, rfl, rfl, rfl, rfl, trivial⟩, hS⟩
      ·replace hq75 := iteF hc100 hq75
       refine W.skip ?_
       refine W.region ?_
       refine WL.vS hS hE (runs_plain rfl) (Gives.p hE rfl) rfl ?_; clear hE a; intro a hE
       refine WL.vS hS hE (runs_plain rfl) (Gives.fld hE rfl fl53_3) rfl ?_; clear hE a; intro a hE
       refine WL.vS hS hE (runs_plain rfl) (Gives.loadB hE 0 rfl rfl rfl ty3) rfl ?_; clear hE a; intro a hE
       refine WL.vS hS hE (runs_plain rfl) (Gives.p hE rfl) rfl ?_; clear hE a; intro a hE
       obtain ⟨x101, hx102, hq75⟩ := bindS hq75
       obtain ⟨hi103, hlt104, hy105⟩ := gx_some hx102
       obtain ⟨cs106, hl107, hR108, hat109⟩ := h2.at hy105
       obtain ⟨a110, c111, rfl, h112⟩ := hR108
       refine WL.vS hS hE (runs_plain rfl) (Gives.idx hE (w64 (x78.Back - 1)).toNat rfl rfl sl56 hi103 hlt104 (h2.aok hlt104)) rfl ?_; clear hE a; intro a hE
       refine WL.vS hS hE (runs_plain rfl) (Gives.load1 hE rfl (fun w h => hat109 w _ h) ty29) rfl ?_; clear hE a; intro a hE
       refine WL.vS hS hE (runs_plain rfl) (Gives.p hE rfl) rfl ?_; clear hE a; intro a hE
       refine WL.nil ?_
       refine W.seq ?_
       refine W.regionQ (C := fun w => St w s (pt b98 (.cells (MendLink.cells x78).toArray 53 (0, 0)) :: vecC 3 1 a54 c55 q52.length cs91 :: pt b51 (.cells #[.int .i64 x0.Period, .slice a0_0 x0.Plan.length c0_0, .slice a0_1 x0.Links.length c0_1] 51 (0, 0)) :: R)) mixed (by kernel_rfl) hS.drew ?_
       refine QL.v hE (runs_plain rfl) (Gives.p hE rfl) rfl ?_; clear hE a; intro a hE
       refine QL.v hE (runs_plain rfl) (Gives.fld hE rfl fl53_0) rfl ?_; clear hE a; intro a hE
       refine QL.v hE (runs_plain rfl) (Gives.loadB hE 0 rfl rfl rfl ty3) rfl ?_; clear hE a; intro a hE
       obtain ⟨x113, hx114, hq75⟩ := bindS hq75
       obtain ⟨hi115, hlt116, hy117⟩ := gx_some hx114
       obtain ⟨cs118, hl119, hR120, hat121⟩ := h112.at hy117
       subst hR120
       refine QL.v hE (runs_plain rfl) (Gives.idx hE (x78.From).toNat rfl rfl sl29 hi115 hlt116 (h112.aok hlt116)) rfl ?_; clear hE a; intro a hE
       refine QL.v hE (runs_plain rfl) (Gives.load1 hE rfl (fun w h => hat121 w _ h) ty3) rfl ?_; clear hE a; intro a hE
       refine QL.v hE (runs_plain rfl) (Gives.loadBA hE 2 rfl rfl ty51) rfl ?_; clear hE a; intro a hE
       refine QL.v hE (runs_plain rfl) (Gives.loadBA hE 0 rfl rfl ty53) rfl ?_; clear hE a; intro a hE
       obtain ⟨q122, hq123, hq75⟩ := bindS hq75
       refine QL.fnq hE (fun w hS => MendRoundslack_ok hS h0_0 h0_1 hq123) (runs_plain rfl) bd65 rfl rfl rfl ?_; clear hE a; intro a hE
       refine QL.v hE (runs_plain rfl) (Gives.p hE rfl) rfl ?_; clear hE a; intro a hE
       refine QL.v hE (runs_plain rfl) (Gives.p hE rfl) rfl ?_; clear hE a; intro a hE
       refine QL.nil ?_; clear hS w; intro w hS
       refine W.seq (W.region ?_)
       refine WL.vS hS hE (runs_plain rfl) (Gives.p hE rfl) rfl ?_; clear hE a; intro a hE
       refine WL.vS hS hE (runs_plain rfl) (Gives.p hE rfl) rfl ?_; clear hE a; intro a hE
       refine WL.vS hS hE (runs_plain rfl) (Gives.fld hE rfl fl53_1) rfl ?_; clear hE a; intro a hE
       refine WL.vS hS hE (runs_plain rfl) (Gives.loadB hE 0 rfl rfl rfl ty3) rfl ?_; clear hE a; intro a hE
       obtain ⟨x124, hx125, hq75⟩ := bindS hq75
       obtain ⟨hi126, hlt127, hy128⟩ := gx_some hx125
       obtain ⟨vs129, hl130, hR131, hd132, hget133⟩ := h90.at hy128
       subst hR131
       refine WL.vS hS hE (runs_plain rfl) (Gives.idx hE ((x78.To).toNat) rfl rfl sl29 hi126 (by have := hn92; omega) (hS.vecAok 1 rfl (by have := hn92; omega : (x78.To).toNat < q52.length))) rfl ?_; clear hE a; intro a hE
       refine WL.vS hS hE (runs_plain rfl) (Gives.load1 hE rfl (fun w h => St.vecSees h 1 rfl ((x78.To).toNat * 1) _ hget133) ty3) rfl ?_; clear hE a; intro a hE
       refine WL.vS hS hE (runs_plain rfl) (Gives.p hE rfl) rfl ?_; clear hE a; intro a hE
       refine WL.nil ?_
       obtain ⟨q135, hq134, hq75⟩ := bindS hq75
       refine W.cut (fun a w => ∃ (q138 : Bool), ∃ (q139 : List Int), ∃ (cs143 : List Value), (q138, q139) = q135 ∧ Ev 1 (RI .i64) s cs143 q139 ∧ q139.length = q52.length ∧ Rep a 60 [(1, .slice a54 q52.length c55), (2, .slice a2 x2.length c2), (3, .pointer (some ⟨b51, 0, none⟩)), (7, .bool q138), (16, .slice a0_1 x0.Links.length c0_1), (17, .int .i64 ((x0.Links).length : Int)), (18, .int .i64 ((k77 : Nat) : Int))] ∧ St w s (pt b98 (.cells (MendLink.cells x78).toArray 53 (0, 0)) :: vecC 3 1 a54 c55 q52.length cs143 :: pt b51 (.cells #[.int .i64 x0.Period, .slice a0_0 x0.Plan.length c0_0, .slice a0_1 x0.Links.length c0_1] 51 (0, 0)) :: R)) ?_ ?_
       ·refine W.gen fun K145 hK145 => ?_
        refine W.cond hE rfl (fun hc146 => ?_) (fun hc146 => ?_)
        ·replace hq134 := iteT hc146 hq134
         refine W.region ?_
         refine WL.vS hS hE (runs_plain rfl) (Gives.p hE rfl) rfl ?_; clear hE a; intro a hE
         refine WL.vS hS hE (runs_plain rfl) (Gives.fld hE rfl fl53_1) rfl ?_; clear hE a; intro a hE
         refine WL.vS hS hE (runs_plain rfl) (Gives.loadB hE 0 rfl rfl rfl ty3) rfl ?_; clear hE a; intro a hE
         refine WL.vS hS hE (runs_plain rfl) (Gives.p hE rfl) rfl ?_; clear hE a; intro a hE
         obtain ⟨_, hx148, hq134⟩ := bindS hq134
         obtain ⟨h149, h150⟩ := ix_some hx148
         refine WL.vS hS hE (runs_plain rfl) (Gives.idx hE ((x78.To).toNat) rfl rfl sl29 h149 (by have := hn92; omega) (hS.vecAok 1 rfl (by have := hn92; omega : (x78.To).toNat < q52.length))) rfl ?_; clear hE a; intro a hE
         obtain ⟨x152, hx153, hq134⟩ := bindS hq134
         refine WL.setD hE hS 1 rfl (runs_plain rfl) rfl rfl (vs := [.int .i64 (w64 (x113 - q122))]) rfl ty3 rfl rfl rfl h90 hn92 (sx_some hx153).1 hx153 rfl rfl ?_; clear hE hS a w; intro cs154 a w h155 hn156 hE hS
         refine WL.vS hS hE (runs_plain rfl) (Gives.p hE rfl) rfl ?_; clear hE a; intro a hE
         refine WL.nil ?_
         subst hK145
         exact ⟨true, x152, cs154, Option.some.inj hq134, h155, hn156, hE.pick _ ⟨rfl, rfl, rfl, rfl, rfl, rfl, rfl, trivial⟩, hS⟩
        ·replace hq134 := iteF hc146 hq134
         refine W.skip ?_
         subst hK145
         exact ⟨q86, q87, cs91, Option.some.inj hq134, h90, hn92, hE.pick _ ⟨rfl, rfl, rfl, rfl, rfl, rfl, rfl, trivial⟩, hS⟩
       ·clear hE hS a w; rintro a w ⟨q138, q139, cs143, rfl, h142, hn144, hE, hS⟩
        dsimp only at hq75
        refine W.region ?_
        refine WL.vS hS hE (runs_plain rfl) (Gives.inc hE rfl (by have := h0_1.small; omega)) rfl ?_; clear hE a; intro a hE
        refine WL.vS hS hE (runs_plain rfl) (Gives.p hE rfl) rfl ?_; clear hE a; intro a hE
        refine WL.nil ?_
        replace hS := hS.tail
        subst hK93
        exact ⟨rest79.length, Nat.lt_succ_self _, rest79, k77 + 1, q138, q139, cs143, rfl, hd80, hq75, h142, hn144, hE.pick _ ⟨rfl, rfl, rfl, rfl, rfl, rfl, rfl, trivial⟩, hS⟩
     ·replace hq75 := iteF hc99 hq75
      refine W.skip ?_
      refine W.seq ?_
      refine W.regionQ (C := fun w => St w s (pt b98 (.cells (MendLink.cells x78).toArray 53 (0, 0)) :: vecC 3 1 a54 c55 q52.length cs91 :: pt b51 (.cells #[.int .i64 x0.Period, .slice a0_0 x0.Plan.length c0_0, .slice a0_1 x0.Links.length c0_1] 51 (0, 0)) :: R)) mixed (by kernel_rfl) hS.drew ?_
      refine QL.v hE (runs_plain rfl) (Gives.p hE rfl) rfl ?_; clear hE a; intro a hE
      refine QL.v hE (runs_plain rfl) (Gives.fld hE rfl fl53_0) rfl ?_; clear hE a; intro a hE
      refine QL.v hE (runs_plain rfl) (Gives.loadB hE 0 rfl rfl rfl ty3) rfl ?_; clear hE a; intro a hE
      obtain ⟨x157, hx158, hq75⟩ := bindS hq75
      obtain ⟨hi159, hlt160, hy161⟩ := gx_some hx158
      obtain ⟨vs162, hl163, hR164, hd165, hget166⟩ := h90.at hy161
      subst hR164
      refine QL.v hE (runs_plain rfl) (Gives.idx hE ((x78.From).toNat) rfl rfl sl29 hi159 (by have := hn92; omega) (hS.vecAok 1 rfl (by have := hn92; omega : (x78.From).toNat < q52.length))) rfl ?_; clear hE a; intro a hE
      refine QL.v hE (runs_plain rfl) (Gives.load1 hE rfl (fun w h => St.vecSees h 1 rfl ((x78.From).toNat * 1) _ hget166) ty3) rfl ?_; clear hE a; intro a hE
      refine QL.v hE (runs_plain rfl) (Gives.loadBA hE 2 rfl rfl ty51) rfl ?_; clear hE a; intro a hE
      refine QL.v hE (runs_plain rfl) (Gives.loadBA hE 0 rfl rfl ty53) rfl ?_; clear hE a; intro a hE
      obtain ⟨q167, hq168, hq75⟩ := bindS hq75
      refine QL.fnq hE (fun w hS => MendRoundslack_ok hS h0_0 h0_1 hq168) (runs_plain rfl) bd65 rfl rfl rfl ?_; clear hE a; intro a hE
      refine QL.v hE (runs_plain rfl) (Gives.p hE rfl) rfl ?_; clear hE a; intro a hE
      refine QL.v hE (runs_plain rfl) (Gives.p hE rfl) rfl ?_; clear hE a; intro a hE
      refine QL.nil ?_; clear hS w; intro w hS
      refine W.seq (W.region ?_)
      refine WL.vS hS hE (runs_plain rfl) (Gives.p hE rfl) rfl ?_; clear hE a; intro a hE
      refine WL.vS hS hE (runs_plain rfl) (Gives.p hE rfl) rfl ?_; clear hE a; intro a hE
      refine WL.vS hS hE (runs_plain rfl) (Gives.fld hE rfl fl53_1) rfl ?_; clear hE a; intro a hE
      refine WL.vS hS hE (runs_plain rfl) (Gives.loadB hE 0 rfl rfl rfl ty3) rfl ?_; clear hE a; intro a hE
      obtain ⟨x169, hx170, hq75⟩ := bindS hq75
      obtain ⟨hi171, hlt172, hy173⟩ := gx_some hx170
      obtain ⟨vs174, hl175, hR176, hd177, hget178⟩ := h90.at hy173
      subst hR176
      refine WL.vS hS hE (runs_plain rfl) (Gives.idx hE ((x78.To).toNat) rfl rfl sl29 hi171 (by have := hn92; omega) (hS.vecAok 1 rfl (by have := hn92; omega : (x78.To).toNat < q52.length))) rfl ?_; clear hE a; intro a hE
      refine WL.vS hS hE (runs_plain rfl) (Gives.load1 hE rfl (fun w h => St.vecSees h 1 rfl ((x78.To).toNat * 1) _ hget178) ty3) rfl ?_; clear hE a; intro a hE
      refine WL.vS hS hE (runs_plain rfl) (Gives.p hE rfl) rfl ?_; clear hE a; intro a hE
      refine WL.nil ?_
      obtain ⟨q180, hq179, hq75⟩ := bindS hq75
      refine W.cut (fun a w => ∃ (q183 : Bool), ∃ (q184 : List Int), ∃ (cs188 : List Value), (q183, q184) = q180 ∧ Ev 1 (RI .i64) s cs188 q184 ∧ q184.length = q52.length ∧ Rep a 60 [(1, .slice a54 q52.length c55), (2, .slice a2 x2.length c2), (3, .pointer (some ⟨b51, 0, none⟩)), (7, .bool q183), (16, .slice a0_1 x0.Links.length c0_1), (17, .int .i64 ((x0.Links).length : Int)), (18, .int .i64 ((k77 : Nat) : Int))] ∧ St w s (pt b98 (.cells (MendLink.cells x78).toArray 53 (0, 0)) :: vecC 3 1 a54 c55 q52.length cs188 :: pt b51 (.cells #[.int .i64 x0.Period, .slice a0_0 x0.Plan.length c0_0, .slice a0_1 x0.Links.length c0_1] 51 (0, 0)) :: R)) ?_ ?_
      ·refine W.gen fun K190 hK190 => ?_
       refine W.cond hE rfl (fun hc191 => ?_) (fun hc191 => ?_)
       ·replace hq179 := iteT hc191 hq179
        refine W.region ?_
        refine WL.vS hS hE (runs_plain rfl) (Gives.p hE rfl) rfl ?_; clear hE a; intro a hE
        refine WL.vS hS hE (runs_plain rfl) (Gives.fld hE rfl fl53_1) rfl ?_; clear hE a; intro a hE
        refine WL.vS hS hE (runs_plain rfl) (Gives.loadB hE 0 rfl rfl rfl ty3) rfl ?_; clear hE a; intro a hE
        refine WL.vS hS hE (runs_plain rfl) (Gives.p hE rfl) rfl ?_; clear hE a; intro a hE
        obtain ⟨_, hx193, hq179⟩ := bindS hq179
        obtain ⟨h194, h195⟩ := ix_some hx193
        refine WL.vS hS hE (runs_plain rfl) (Gives.idx hE ((x78.To).toNat) rfl rfl sl29 h194 (by have := hn92; omega) (hS.vecAok 1 rfl (by have := hn92; omega : (x78.To).toNat < q52.length))) rfl ?_; clear hE a; intro a hE
        obtain ⟨x197, hx198, hq179⟩ := bindS hq179
        refine WL.setD hE hS 1 rfl (runs_plain rfl) rfl rfl (vs := [.int .i64 (w64 (x157 - q167))]) rfl ty3 rfl rfl rfl h90 hn92 (sx_some hx198).1 hx198 rfl rfl ?_; clear hE hS a w; intro cs199 a w h200 hn201 hE hS
        refine WL.vS hS hE (runs_plain rfl) (Gives.p hE rfl) rfl ?_; clear hE a; intro a hE
        refine WL.nil ?_
        subst hK190
        exact ⟨true, x197, cs199, Option.some.inj hq179, h200, hn201, hE.pick _ ⟨rfl, rfl, rfl, rfl, rfl, rfl, rfl, trivial⟩, hS⟩
       ·replace hq179 := iteF hc191 hq179
        refine W.skip ?_
        subst hK190
        exact ⟨q86, q87, cs91, Option.some.inj hq179, h90, hn92, hE.pick _ ⟨rfl, rfl, rfl, rfl, rfl, rfl, rfl, trivial⟩, hS⟩
      ·clear hE hS a w; rintro a w ⟨q183, q184, cs188, rfl, h187, hn189, hE, hS⟩
       dsimp only at hq75
       refine W.region ?_
       refine WL.vS hS hE (runs_plain rfl) (Gives.inc hE rfl (by have := h0_1.small; omega)) rfl ?_; clear hE a; intro a hE
       refine WL.vS hS hE (runs_plain rfl) (Gives.p hE rfl) rfl ?_; clear hE a; intro a hE
       refine WL.nil ?_
       replace hS := hS.tail
       subst hK93
       exact ⟨rest79.length, Nat.lt_succ_self _, rest79, k77 + 1, q183, q184, cs188, rfl, hd80, hq75, h187, hn189, hE.pick _ ⟨rfl, rfl, rfl, rfl, rfl, rfl, rfl, trivial⟩, hS⟩
   ·clear hE hS a w; rintro a w ⟨q86, q87, cs91, rfl, h90, hn92, hE, hS⟩
    dsimp only at hq60
    subst hK73
    exact ⟨n62, Nat.lt_succ_self _, n62, q86, q87, cs91, rfl, hq60, h90, hn92, hE.pick _ ⟨rfl, rfl, rfl, rfl, trivial⟩, hS⟩
  ·replace hq60 := iteF hc74 hq60
   subst hK73
   refine W.exit rfl ?_
   exact ⟨q66, q67, cs71, Option.some.inj hq60, h70, hn72, hE.pick _ ⟨rfl, trivial⟩, hS⟩
 ·clear hE hS a w; rintro a w ⟨q66, q67, cs71, rfl, h70, hn72, hE, hS⟩
  dsimp only at hr
  refine W.seq (W.region ?_)
  refine WL.vS hS hE (runs_plain rfl) (Gives.p hE rfl) rfl ?_; clear hE a; intro a hE
  refine WL.vS hS hE (runs_plain rfl) (Gives.p hE rfl) rfl ?_; clear hE a; intro a hE
  refine WL.nil ?_
  refine W.ret ?_
  refine finG (fn := Try.f69) (rs := [.tmp 6]) (vs := [_]) hE rfl ⟨rfl, trivial⟩ ?_
  obtain rfl := Option.some.inj hr
  replace hS := hS.dropAt 1
  exact ⟨a54, c55, q52.length, cs71, rfl, h70, hn72, hS⟩
set_option maxHeartbeats 8000000 in
theorem MendSpread_ok {fu : Nat}  {w : World} {s : Sg} {R : List HP} {x0 : MendRound} {a0_0 : Option Addr} {c0_0 : Nat} {a0_1 : Option Addr} {c0_1 : Nat} {x1 : List MendFirst} {a1 : Option Addr} {c1 : Nat} {x2 : Int} (hS : St w s (R)) (h0_0 : Sl 1 (RI .i64) s a0_0 c0_0 x0.Plan) (h0_1 : Sl 4 RMendLink s a0_1 c0_1 x0.Links) (h1 : Sl 3 RMendFirst s a1 c1 x1) {r : (List (List Int)) × Int} (hr : MendSpread fu x0 x1 x2 = some r) :
  Calls Try.prog 33 [.agg [.int .i64 x0.Period, .slice a0_0 x0.Plan.length c0_0, .slice a0_1 x0.Links.length c0_1].toArray, .slice a1 x1.length c1, .int .i64 x2].toArray w (fun e w => ∃ (a0 : Option Addr) (c0 n0 : Nat) (cs0 : List Value) (t : Sg), e = .returned (.tuple #[.slice a0 n0 c0, .int .i64 r.2]) ∧ s.Le t ∧ Ev 1 (RL 1 (RI .i64)) t cs0 r.1 ∧ r.1.length = n0 ∧ St w t (vecC 29 1 a0 c0 n0 cs0 :: R)) := by
 refine enter Try.func33 rfl rfl rfl fun a hE => ?_
 rw [MendSpread] at hr
 refine W.seq (W.region ?_)
 refine WL.box hE hS (runs_plain rfl) rfl rfl rfl ?_; clear hE hS a w; intro b51 a w hE hS
 refine WL.vS hS hE (runs_plain rfl) (Gives.p hE rfl) rfl ?_; clear hE a; intro a hE
 refine WL.vS hS hE (runs_plain rfl) (Gives.p hE rfl) rfl ?_; clear hE a; intro a hE
 refine WL.nil ?_
 refine W.seq ?_
 refine W.seq (W.region ?_)
 refine WL.vS hS hE (runs_plain rfl) (Gives.loadBA hE 0 rfl rfl ty51) rfl ?_; clear hE a; intro a hE
 obtain ⟨q52, hq53, hr⟩ := bindS hr
 have hc_ := MendCheckRound_ok hS h0_0 h0_1 hq53
 refine WL.fnq hE (hc_) (runs_plain rfl) bd29 rfl rfl rfl ?_
 clear hE hS hc_; rintro e w ⟨rfl, hS⟩; refine ⟨_, rfl, ?_⟩; clear a; intro a hE
 refine WL.vS hS hE (runs_plain rfl) (Gives.p hE rfl) rfl ?_; clear hE a; intro a hE
 refine WL.nil ?_
 refine W.seq (W.region ?_)
 refine WL.vS hS hE (runs_plain rfl) (Gives.p hE rfl) rfl ?_; clear hE a; intro a hE
 refine WL.vS hS hE (runs_plain rfl) (Gives.p hE rfl) rfl ?_; clear hE a; intro a hE
 refine WL.nil ?_
 refine W.cond hE rfl (fun hc54 => ?_) (fun hc54 => ?_)
 ·replace hr := iteT hc54 hr
  refine W.seq (W.region ?_)
  refine WL.vS hS hE (runs_plain rfl) (Gives.p hE rfl) rfl ?_; clear hE a; intro a hE
  refine WL.vS hS hE (runs_plain rfl) (Gives.p hE rfl) rfl ?_; clear hE a; intro a hE
  refine WL.vS hS hE (runs_plain rfl) (Gives.p hE rfl) rfl ?_; clear hE a; intro a hE
  refine WL.nil ?_
  refine W.ret ?_
  replace hS := hS.vecNil 29 1
  refine finG (fn := Try.f33) (rs := [.tmp 6, .tmp 7]) (vs := [_, _]) hE rfl ⟨rfl, rfl, trivial⟩ ?_
  obtain rfl := Option.some.inj hr
  replace hS := hS.dropAt 1
  exact ⟨none, 0, 0, [], s, rfl, (Sg.Le.refl _), (Ev.nil), (rfl), hS⟩
 ·replace hr := iteF hc54 hr
  refine W.skip ?_
  refine W.seq ?_
  refine W.block ?_
  refine W.seq (W.region ?_)
  refine WL.vS hS hE (runs_plain rfl) (Gives.p hE rfl) rfl ?_; clear hE a; intro a hE
  refine WL.fnq hE (Mendwithin_ok hS  rfl (r := Mendwithin x2 0 60)) (runs_plain rfl) bd64 rfl rfl rfl ?_
  clear hE hS; rintro e w ⟨rfl, hS⟩; refine ⟨_, rfl, ?_⟩; clear a; intro a hE
  refine WL.vS hS hE (runs_plain rfl) (Gives.p hE rfl) rfl ?_; clear hE a; intro a hE
  refine WL.vS hS hE (runs_plain rfl) (Gives.p hE rfl) rfl ?_; clear hE a; intro a hE
  refine WL.nil ?_
  refine W.cond hE rfl (fun hc56 => ?_) (fun hc56 => ?_)
  ·replace hr := iteT hc56 hr
   refine W.seq (W.region ?_)
   refine WL.vS hS hE (runs_plain rfl) (Gives.p hE rfl) rfl ?_; clear hE a; intro a hE
   refine WL.vS hS hE (runs_plain rfl) (Gives.p hE rfl) rfl ?_; clear hE a; intro a hE
   refine WL.nil ?_
   refine W.ret ?_
   replace hS := hS.vecNil 29 1
   refine finG (fn := Try.f33) (rs := [.tmp 6, .tmp 7]) (vs := [_, _]) hE rfl ⟨rfl, rfl, trivial⟩ ?_
   obtain rfl := Option.some.inj hr
   replace hS := hS.dropAt 1
   exact ⟨none, 0, 0, [], s, rfl, (Sg.Le.refl _), (Ev.nil), (rfl), hS⟩
  ·replace hr := iteF hc56 hr
   refine W.seq (W.region ?_)
   refine WL.vS hS hE (runs_plain rfl) (Gives.p hE rfl) rfl ?_; clear hE a; intro a hE
   refine WL.vS hS hE (runs_plain rfl) (Gives.len hE rfl sl64) rfl ?_; clear hE a; intro a hE
   refine WL.vS hS hE (runs_plain rfl) (Gives.p hE rfl) rfl ?_; clear hE a; intro a hE
   refine WL.vS hS hE (runs_plain rfl) (Gives.p hE rfl) rfl ?_; clear hE a; intro a hE
   refine WL.nil ?_
   refine W.cond hE rfl (fun hc58 => ?_) (fun hc58 => ?_)
   ·replace hr := iteT hc58 hr
    refine W.seq (W.region ?_)
    refine WL.vS hS hE (runs_plain rfl) (Gives.p hE rfl) rfl ?_; clear hE a; intro a hE
    refine WL.vS hS hE (runs_plain rfl) (Gives.p hE rfl) rfl ?_; clear hE a; intro a hE
    refine WL.nil ?_
    refine W.ret ?_
    replace hS := hS.vecNil 29 1
    refine finG (fn := Try.f33) (rs := [.tmp 6, .tmp 7]) (vs := [_, _]) hE rfl ⟨rfl, rfl, trivial⟩ ?_
    obtain rfl := Option.some.inj hr
    replace hS := hS.dropAt 1
    exact ⟨none, 0, 0, [], s, rfl, (Sg.Le.refl _), (Ev.nil), (rfl), hS⟩
   ·replace hr := iteF hc58 hr
    refine W.skip ?_
    refine W.seq ?_
    refine W.seq (W.region ?_)
    refine WL.vS hS hE (runs_plain rfl) (Gives.p hE rfl) rfl ?_; clear hE a; intro a hE
    refine WL.vS hS hE (runs_plain rfl) (Gives.len hE rfl sl64) rfl ?_; clear hE a; intro a hE
    refine WL.vS hS hE (runs_plain rfl) (Gives.p hE rfl) rfl ?_; clear hE a; intro a hE
    refine WL.nil ?_
    obtain ⟨q61, hq60, hr⟩ := bndS hr
    refine W.cut (fun a w => (.next ()) = q61 ∧ Rep a 106 [(1, .slice a1 x1.length c1), (2, .int .i64 x2), (3, .pointer (some ⟨b51, 0, none⟩))] ∧ St w s (pt b51 (.cells #[.int .i64 x0.Period, .slice a0_0 x0.Plan.length c0_0, .slice a0_1 x0.Links.length c0_1] 51 (0, 0)) :: R)) ?_ ?_
    ·refine W.block ?_
     refine W.loop (fun m a w => ∃ (rest64 : List MendFirst) (k62 : Nat), rest64.length = m ∧ x1.drop k62 = rest64 ∧ MendSpread.loop1 x0 rest64 = q61 ∧ Rep a 106 [(1, .slice a1 x1.length c1), (2, .int .i64 x2), (3, .pointer (some ⟨b51, 0, none⟩)), (30, .slice a1 x1.length c1), (31, .int .i64 ((x1).length : Int)), (32, .int .i64 ((k62 : Nat) : Int))] ∧ St w s (pt b51 (.cells #[.int .i64 x0.Period, .slice a0_0 x0.Plan.length c0_0, .slice a0_1 x0.Links.length c0_1] 51 (0, 0)) :: R)) (m := x1.length) ⟨x1, 0, rfl, rfl, hq60, hE.pick _ ⟨rfl, rfl, rfl, rfl, rfl, rfl, trivial⟩, hS⟩ ?_
     clear hE hS a w hq60; rintro m68 a w ⟨rest64, k62, rfl, hd65, hq60, hE, hS⟩
     refine W.gen fun K71 hK71 => ?_
     rcases rest64 with _ | ⟨x63, rest64⟩
     ·have hlt66 := drop_nil hd65
      refine W.seq (W.region ?_)
      refine WL.vS hS hE (runs_plain rfl) (Gives.p hE rfl) rfl ?_; clear hE a; intro a hE
      refine WL.nil ?_
      refine W.seq ?_
      refine W.condF hE rfl (decide_eq_false (by omega)) ?_
      subst hK71
      refine W.exit rfl ?_
      exact ⟨hq60, hE.pick _ ⟨rfl, rfl, rfl, trivial⟩, hS⟩
     ·obtain ⟨hlt66, hx67, hd65⟩ := drop_cons hd65
      rw [MendSpread.loop1] at hq60
      refine W.seq (W.region ?_)
      refine WL.vS hS hE (runs_plain rfl) (Gives.p hE rfl) rfl ?_; clear hE a; intro a hE
      refine WL.nil ?_
      refine W.seq ?_
      refine W.condT hE rfl (decide_eq_true (by omega)) ?_
      refine W.skip ?_
      refine W.seq ?_
      refine W.block ?_
      refine W.seq (W.region ?_)
      obtain ⟨cs72, hl73, hR74, hat75⟩ := h1.at hx67
      subst hR74
      refine WL.vS hS hE (runs_plain rfl) (Gives.idx hE k62 rfl rfl sl64 rfl hlt66 (h1.aok hlt66)) rfl ?_; clear hE a; intro a hE
      refine WL.vS hS hE (runs_plain rfl) (Gives.loadA hE rfl (fun w h => hat75 w _ h) ty63) rfl ?_; clear hE a; intro a hE
      refine WL.alloc hE hS (runs_plain rfl) zr63 rfl ?_; clear hE hS a w; intro b76 a w hE hS
      refine WL.storeI hE hS 0 rfl (MendFirst.cells x63) (runs_plain rfl) rfl rfl rfl ty63 rfl rfl rfl rfl ?_; clear hE hS a w; intro a w hE hS
      refine WL.nil ?_
      refine W.block ?_
      refine W.seq (W.region ?_)
      refine WL.vS hS hE (runs_plain rfl) (Gives.fld hE rfl fl63_0) rfl ?_; clear hE a; intro a hE
      refine WL.vS hS hE (runs_plain rfl) (Gives.loadB hE 0 rfl rfl rfl ty3) rfl ?_; clear hE a; intro a hE
      refine WL.vS hS hE (runs_plain rfl) (Gives.fld hE rfl fl51_1) rfl ?_; clear hE a; intro a hE
      refine WL.vS hS hE (runs_plain rfl) (Gives.loadB hE 1 rfl rfl rfl ty29) rfl ?_; clear hE a; intro a hE
      refine WL.vS hS hE (runs_plain rfl) (Gives.len hE rfl sl29) rfl ?_; clear hE a; intro a hE
      refine WL.vS hS hE (runs_plain rfl) (Gives.p hE rfl) rfl ?_; clear hE a; intro a hE
      refine WL.fnq hE (Mendwithin_ok hS  rfl (r := Mendwithin x63.Event 0 (w64 (((x0.Plan).length : Int) - 1)))) (runs_plain rfl) bd64 rfl rfl rfl ?_
      clear hE hS; rintro e w ⟨rfl, hS⟩; refine ⟨_, rfl, ?_⟩; clear a; intro a hE
      refine WL.vS hS hE (runs_plain rfl) (Gives.p hE rfl) rfl ?_; clear hE a; intro a hE
      refine WL.vS hS hE (runs_plain rfl) (Gives.p hE rfl) rfl ?_; clear hE a; intro a hE
      refine WL.nil ?_
      refine W.cond hE rfl (fun hc77 => ?_) (fun hc77 => ?_)
      ·replace hq60 := iteT hc77 hq60
       refine W.seq (W.region ?_)
       refine WL.vS hS hE (runs_plain rfl) (Gives.p hE rfl) rfl ?_; clear hE a; intro a hE
       refine WL.vS hS hE (runs_plain rfl) (Gives.p hE rfl) rfl ?_; clear hE a; intro a hE
       refine WL.nil ?_
       refine W.ret ?_
       subst hK71
       rw [← hq60] at hr
       dsimp only at hr
       replace hS := hS.vecNil 29 1
       refine finG (fn := Try.f33) (rs := [.tmp 6, .tmp 7]) (vs := [_, _]) hE rfl ⟨rfl, rfl, trivial⟩ ?_
       obtain rfl := Option.some.inj hr
       replace hS := hS.dropAt 1
       replace hS := hS.dropAt 1
       exact ⟨none, 0, 0, [], s, rfl, (Sg.Le.refl _), (Ev.nil), (rfl), hS⟩
      ·replace hq60 := iteF hc77 hq60
       refine W.seq ?_
       obtain ⟨q80, hq79, hq60⟩ := bndS hq60
       refine W.cut (fun a w => ∃ (q83 : Bool), q83 = q80 ∧ Rep a 106 [(1, .slice a1 x1.length c1), (2, .int .i64 x2), (3, .pointer (some ⟨b51, 0, none⟩)), (30, .slice a1 x1.length c1), (31, .int .i64 ((x1).length : Int)), (32, .int .i64 ((k62 : Nat) : Int)), (45, .bool q83)] ∧ St w s (pt b76 (.cells (MendFirst.cells x63).toArray 63 (0, 0)) :: pt b51 (.cells #[.int .i64 x0.Period, .slice a0_0 x0.Plan.length c0_0, .slice a0_1 x0.Links.length c0_1] 51 (0, 0)) :: R)) ?_ ?_
       ·refine W.gen fun K84 hK84 => ?_
        refine W.region ?_
        refine WL.vS hS hE (runs_plain rfl) (Gives.fld hE rfl fl63_1) rfl ?_; clear hE a; intro a hE
        refine WL.vS hS hE (runs_plain rfl) (Gives.loadB hE 0 rfl rfl rfl ty3) rfl ?_; clear hE a; intro a hE
        refine WL.fnq hE (Mendwithin_ok hS  rfl (r := Mendwithin x63.Period 0 59)) (runs_plain rfl) bd64 rfl rfl rfl ?_
        clear hE hS; rintro e w ⟨rfl, hS⟩; refine ⟨_, rfl, ?_⟩; clear a; intro a hE
        refine WL.vS hS hE (runs_plain rfl) (Gives.p hE rfl) rfl ?_; clear hE a; intro a hE
        refine WL.vS hS hE (runs_plain rfl) (Gives.p hE rfl) rfl ?_; clear hE a; intro a hE
        rcases Bool.eq_false_or_eq_true (!(Mendwithin x63.Period 0 59)) with hg85 | hg85
        ·replace hq79 := iteT hg85 hq79
         refine WL.no hE (runs_not hE rfl rfl rfl (by rw [hg85]; decide)) rfl ?_; clear hE a; intro a hE
         refine WL.no hE (runs_not hE rfl rfl rfl (by rw [hg85]; decide)) rfl ?_; clear hE a; intro a hE
         refine WL.no hE (runs_not hE rfl rfl rfl (by rw [hg85]; decide)) rfl ?_; clear hE a; intro a hE
         refine WL.no hE (runs_not hE rfl rfl rfl (by rw [hg85]; decide)) rfl ?_; clear hE a; intro a hE
         refine WL.vS hS hE (runs_plain rfl) (Gives.pickT hE rfl hg85 rfl) rfl ?_; clear hE a; intro a hE
         refine WL.vS hS hE (runs_plain rfl) (Gives.p hE rfl) rfl ?_; clear hE a; intro a hE
         refine WL.nil ?_
         subst hK84
         exact ⟨true, hq79, hE.pick _ ⟨rfl, rfl, rfl, rfl, rfl, rfl, rfl, trivial⟩, hS⟩
        ·replace hq79 := iteF hg85 hq79
         refine WL.vS hS hE (runs_if hE rfl rfl rfl hg85) (Gives.fld hE rfl fl63_2) rfl ?_; clear hE a; intro a hE
         refine WL.vS hS hE (runs_if hE rfl rfl rfl hg85) (Gives.loadB hE 0 rfl rfl rfl ty3) rfl ?_; clear hE a; intro a hE
         refine WL.fnq hE (Mendwithin_ok hS  rfl (r := Mendwithin x63.Secs 0 28800)) (runs_if hE rfl rfl rfl hg85) bd64 rfl rfl rfl ?_
         clear hE hS; rintro e w ⟨rfl, hS⟩; refine ⟨_, rfl, ?_⟩; clear a; intro a hE
         refine WL.vS hS hE (runs_if hE rfl rfl rfl hg85) (Gives.p hE rfl) rfl ?_; clear hE a; intro a hE
         refine WL.vS hS hE (runs_plain rfl) (Gives.pickF hE rfl hg85 rfl) rfl ?_; clear hE a; intro a hE
         refine WL.vS hS hE (runs_plain rfl) (Gives.p hE rfl) rfl ?_; clear hE a; intro a hE
         refine WL.nil ?_
         subst hK84
         exact ⟨!(Mendwithin x63.Secs 0 28800), hq79, hE.pick _ ⟨rfl, rfl, rfl, rfl, rfl, rfl, rfl, trivial⟩, hS⟩
       ·clear hE hS a w; rintro a w ⟨q83, rfl, hE, hS⟩
        refine W.cond hE rfl (fun hc86 => ?_) (fun hc86 => ?_)
        ·replace hq60 := iteT hc86 hq60
         refine W.seq (W.region ?_)
         refine WL.vS hS hE (runs_plain rfl) (Gives.p hE rfl) rfl ?_; clear hE a; intro a hE
         refine WL.vS hS hE (runs_plain rfl) (Gives.p hE rfl) rfl ?_; clear hE a; intro a hE
         refine WL.nil ?_
         refine W.ret ?_
         subst hK71
         rw [← hq60] at hr
         dsimp only at hr
         replace hS := hS.vecNil 29 1
         refine finG (fn := Try.f33) (rs := [.tmp 6, .tmp 7]) (vs := [_, _]) hE rfl ⟨rfl, rfl, trivial⟩ ?_
         obtain rfl := Option.some.inj hr
         replace hS := hS.dropAt 1
         replace hS := hS.dropAt 1
         exact ⟨none, 0, 0, [], s, rfl, (Sg.Le.refl _), (Ev.nil), (rfl), hS⟩
        ·replace hq60 := iteF hc86 hq60
         refine W.skip ?_
         refine W.region ?_
         refine WL.vS hS hE (runs_plain rfl) (Gives.inc hE rfl (by have := h1.small; omega)) rfl ?_; clear hE a; intro a hE
         refine WL.vS hS hE (runs_plain rfl) (Gives.p hE rfl) rfl ?_; clear hE a; intro a hE
         refine WL.nil ?_
         replace hS := hS.tail
         subst hK71
         exact ⟨rest64.length, Nat.lt_succ_self _, rest64, k62 + 1, rfl, hd65, hq60, hE.pick _ ⟨rfl, rfl, rfl, rfl, rfl, rfl, trivial⟩, hS⟩
    ·clear hE hS a w; rintro a w ⟨rfl, hE, hS⟩
     dsimp only at hr
     refine W.seq (W.region ?_)
     replace hS := hS.vecNil 29 1
     refine WL.vS hS hE (runs_plain rfl) (Gives.p hE rfl) rfl ?_; clear hE a; intro a hE
     refine WL.vS hS hE (runs_plain rfl) (Gives.p hE rfl) rfl ?_; clear hE a; intro a hE
     refine WL.nil ?_
     refine W.seq ?_
     refine W.seq (W.region ?_)
     refine WL.vS hS hE (runs_plain rfl) (Gives.p hE rfl) rfl ?_; clear hE a; intro a hE
     refine WL.vS hS hE (runs_plain rfl) (Gives.p hE rfl) rfl ?_; clear hE a; intro a hE
     refine WL.nil ?_
     obtain ⟨q101, hq100, hr⟩ := bindS hr
     refine W.cut (fun a w => ∃ (q106 : List (List Int)), ∃ (q113 : List (List Int)), ∃ (q117 : Int), ∃ (a107 : Option Addr), ∃ (c108 : Nat), ∃ (n110 : Nat), ∃ (cs111 : List Value), ∃ (a114 : Option Addr), ∃ (c115 : Nat), ∃ (s104 : Sg), s.Le s104 ∧ (q106, q113, q117) = q101 ∧ Ev 1 (RL 1 (RI .i64)) s104 cs111 q106 ∧ q106.length = n110 ∧ Sl 1 (RL 1 (RI .i64)) s104 a114 c115 q113 ∧ Rep a 106 [(11, .slice a107 n110 c108)] ∧ St w s104 (vecC 29 1 a107 c108 n110 cs111 :: pt b51 (.cells #[.int .i64 x0.Period, .slice a0_0 x0.Plan.length c0_0, .slice a0_1 x0.Links.length c0_1] 51 (0, 0)) :: R)) ?_ ?_
     ·refine W.block ?_
      refine W.loop (fun m a w => ∃ (n102 : Nat), ∃ (q106 : List (List Int)), ∃ (q113 : List (List Int)), ∃ (q117 : Int), ∃ (a107 : Option Addr), ∃ (c108 : Nat), ∃ (n110 : Nat), ∃ (cs111 : List Value), ∃ (a114 : Option Addr), ∃ (c115 : Nat), ∃ (s104 : Sg), n102 = m ∧ s.Le s104 ∧ MendSpread.loop3 x0 x1 x2 fu n102 q106 q113 q117 = some q101 ∧ Ev 1 (RL 1 (RI .i64)) s104 cs111 q106 ∧ q106.length = n110 ∧ Sl 1 (RL 1 (RI .i64)) s104 a114 c115 q113 ∧ Rep a 106 [(1, .slice a1 x1.length c1), (3, .pointer (some ⟨b51, 0, none⟩)), (11, .slice a107 n110 c108), (12, .slice a114 q113.length c115), (57, .int .i64 x2), (58, .int .i64 q117)] ∧ St w s104 (vecC 29 1 a107 c108 n110 cs111 :: pt b51 (.cells #[.int .i64 x0.Period, .slice a0_0 x0.Plan.length c0_0, .slice a0_1 x0.Links.length c0_1] 51 (0, 0)) :: R)) (m := fu) ⟨fu, [], [], 0, none, 0, 0, [], none, 0, s, rfl, (Sg.Le.refl _), hq100, (Ev.nil), (rfl), Sl.nil, hE.pick _ ⟨rfl, rfl, rfl, rfl, rfl, rfl, trivial⟩, hS⟩ ?_
      clear hE hS a w hq100; rintro m103 a w ⟨n102, q106, q113, q117, a107, c108, n110, cs111, a114, c115, s104, rfl, hle105, hq100, h109, rfl, h116, hE, hS⟩
      refine W.gen fun K118 hK118 => ?_
      replace h1 := Sl.mono RMendFirst.mono hle105 h1
      replace h0_0 := Sl.mono RI.mono hle105 h0_0
      replace h0_1 := Sl.mono RMendLink.mono hle105 h0_1
      rcases n102 with _ | n102
      ·rw [MendSpread.loop3] at hq100; exact absurd hq100 (by simp)
      rw [MendSpread.loop3] at hq100
      refine W.seq (W.region ?_)
      refine WL.vS hS hE (runs_plain rfl) (Gives.p hE rfl) rfl ?_; clear hE a; intro a hE
      refine WL.nil ?_
      refine W.seq ?_
      refine W.cond hE rfl (fun hc119 => ?_) (fun hc119 => ?_)
      ·replace hq100 := iteT hc119 hq100
       refine W.skip ?_
       refine W.seq ?_
       refine W.block ?_
       refine W.seq (W.region ?_)
       refine WL.vS hS hE (runs_plain rfl) (Gives.p hE rfl) rfl ?_; clear hE a; intro a hE
       refine WL.vS hS hE (runs_plain rfl) (Gives.p hE rfl) rfl ?_; clear hE a; intro a hE
       refine WL.nil ?_
       refine W.seq (W.region ?_)
       refine WL.vS hS hE (runs_plain rfl) (Gives.fld hE rfl fl51_1) rfl ?_; clear hE a; intro a hE
       refine WL.vS hS hE (runs_plain rfl) (Gives.loadB hE 1 rfl rfl rfl ty29) rfl ?_; clear hE a; intro a hE
       refine WL.vS hS hE (runs_plain rfl) (Gives.len hE rfl sl29) rfl ?_; clear hE a; intro a hE
       obtain ⟨x120, hx121, hq100⟩ := bindS hq100
       refine WL.mkD (Rr := RI .i64) hE hS (runs_plain rfl) rfl rfl ap29 zr3 rfl hx121 rfl ?_; clear hE hS a w; intro b122 cs123 a w h124 hE hS
       refine WL.vS hS hE (runs_plain rfl) (Gives.p hE rfl) rfl ?_; clear hE a; intro a hE
       refine WL.nil ?_
       refine W.seq ?_
       refine W.seq (W.region ?_)
       refine WL.vS hS hE (runs_plain rfl) (Gives.p hE rfl) rfl ?_; clear hE a; intro a hE
       refine WL.vS hS hE (runs_plain rfl) (Gives.len hE rfl sl64) rfl ?_; clear hE a; intro a hE
       refine WL.vS hS hE (runs_plain rfl) (Gives.p hE rfl) rfl ?_; clear hE a; intro a hE
       refine WL.nil ?_
       obtain ⟨q127, hq126, hq100⟩ := bindS hq100
       refine W.cut (fun a w => ∃ (q137 : List Int), ∃ (cs141 : List Value), q137 = q127 ∧ Ev 1 (RI .i64) s104 cs141 q137 ∧ q137.length = x120.length ∧ Rep a 106 [(1, .slice a1 x1.length c1), (3, .pointer (some ⟨b51, 0, none⟩)), (11, .slice a107 q106.length c108), (12, .slice a114 q113.length c115), (14, .slice (some ⟨b122, 0, none⟩) x120.length x120.length), (57, .int .i64 x2), (58, .int .i64 q117)] ∧ St w s104 (vecC 3 1 (some ⟨b122, 0, none⟩) x120.length x120.length cs141 :: vecC 29 1 a107 c108 q106.length cs111 :: pt b51 (.cells #[.int .i64 x0.Period, .slice a0_0 x0.Plan.length c0_0, .slice a0_1 x0.Links.length c0_1] 51 (0, 0)) :: R)) ?_ ?_
       ·refine W.block ?_
        refine W.loop (fun m a w => ∃ (rest130 : List MendFirst) (k128 : Nat), ∃ (q137 : List Int), ∃ (cs141 : List Value), rest130.length = m ∧ x1.drop k128 = rest130 ∧ MendSpread.loop4 q117 rest130 q137 = some q127 ∧ Ev 1 (RI .i64) s104 cs141 q137 ∧ q137.length = x120.length ∧ Rep a 106 [(1, .slice a1 x1.length c1), (3, .pointer (some ⟨b51, 0, none⟩)), (11, .slice a107 q106.length c108), (12, .slice a114 q113.length c115), (13, .int .i64 q117), (14, .slice (some ⟨b122, 0, none⟩) x120.length x120.length), (57, .int .i64 x2), (58, .int .i64 q117), (65, .slice a1 x1.length c1), (66, .int .i64 ((x1).length : Int)), (67, .int .i64 ((k128 : Nat) : Int))] ∧ St w s104 (vecC 3 1 (some ⟨b122, 0, none⟩) x120.length x120.length cs141 :: vecC 29 1 a107 c108 q106.length cs111 :: pt b51 (.cells #[.int .i64 x0.Period, .slice a0_0 x0.Plan.length c0_0, .slice a0_1 x0.Links.length c0_1] 51 (0, 0)) :: R)) (m := x1.length) ⟨x1, 0, x120, cs123, rfl, rfl, hq126, h124, (rfl), hE.pick _ ⟨rfl, rfl, rfl, rfl, rfl, rfl, rfl, rfl, rfl, rfl, rfl, trivial⟩, hS⟩ ?_
        clear hE hS a w hq126; rintro m134 a w ⟨rest130, k128, q137, cs141, rfl, hd131, hq126, h140, hn142, hE, hS⟩
        refine W.gen fun K143 hK143 => ?_
        rcases rest130 with _ | ⟨x129, rest130⟩
        ·have hlt132 := drop_nil hd131
         refine W.seq (W.region ?_)
         refine WL.vS hS hE (runs_plain rfl) (Gives.p hE rfl) rfl ?_; clear hE a; intro a hE
         refine WL.nil ?_
         refine W.seq ?_
         refine W.condF hE rfl (decide_eq_false (by omega)) ?_
         subst hK143
         refine W.exit rfl ?_
         exact ⟨q137, cs141, Option.some.inj hq126, h140, hn142, hE.pick _ ⟨rfl, rfl, rfl, rfl, rfl, rfl, rfl, trivial⟩, hS⟩
        ·obtain ⟨hlt132, hx133, hd131⟩ := drop_cons hd131
         rw [MendSpread.loop4] at hq126
         refine W.seq (W.region ?_)
         refine WL.vS hS hE (runs_plain rfl) (Gives.p hE rfl) rfl ?_; clear hE a; intro a hE
         refine WL.nil ?_
         refine W.seq ?_
         refine W.condT hE rfl (decide_eq_true (by omega)) ?_
         refine W.skip ?_
         refine W.seq ?_
         refine W.block ?_
         refine W.seq (W.region ?_)
         obtain ⟨cs144, hl145, hR146, hat147⟩ := h1.at hx133
         subst hR146
         refine WL.vS hS hE (runs_plain rfl) (Gives.idx hE k128 rfl rfl sl64 rfl hlt132 (h1.aok hlt132)) rfl ?_; clear hE a; intro a hE
         refine WL.vS hS hE (runs_plain rfl) (Gives.loadA hE rfl (fun w h => hat147 w _ h) ty63) rfl ?_; clear hE a; intro a hE
         refine WL.alloc hE hS (runs_plain rfl) zr63 rfl ?_; clear hE hS a w; intro b148 a w hE hS
         refine WL.storeI hE hS 0 rfl (MendFirst.cells x129) (runs_plain rfl) rfl rfl rfl ty63 rfl rfl rfl rfl ?_; clear hE hS a w; intro a w hE hS
         refine WL.nil ?_
         refine W.seq (W.region ?_)
         refine WL.vS hS hE (runs_plain rfl) (Gives.fld hE rfl fl63_1) rfl ?_; clear hE a; intro a hE
         refine WL.vS hS hE (runs_plain rfl) (Gives.loadB hE 0 rfl rfl rfl ty3) rfl ?_; clear hE a; intro a hE
         refine WL.vS hS hE (runs_plain rfl) (Gives.p hE rfl) rfl ?_; clear hE a; intro a hE
         refine WL.vS hS hE (runs_plain rfl) (Gives.p hE rfl) rfl ?_; clear hE a; intro a hE
         refine WL.nil ?_
         obtain ⟨q150, hq149, hq126⟩ := bindS hq126
         refine W.cut (fun a w => ∃ (q153 : List Int), ∃ (cs157 : List Value), q153 = q150 ∧ Ev 1 (RI .i64) s104 cs157 q153 ∧ q153.length = x120.length ∧ Rep a 106 [(1, .slice a1 x1.length c1), (3, .pointer (some ⟨b51, 0, none⟩)), (11, .slice a107 q106.length c108), (12, .slice a114 q113.length c115), (13, .int .i64 q117), (14, .slice (some ⟨b122, 0, none⟩) x120.length x120.length), (57, .int .i64 x2), (58, .int .i64 q117), (65, .slice a1 x1.length c1), (66, .int .i64 ((x1).length : Int)), (67, .int .i64 ((k128 : Nat) : Int))] ∧ St w s104 (pt b148 (.cells (MendFirst.cells x129).toArray 63 (0, 0)) :: vecC 3 1 (some ⟨b122, 0, none⟩) x120.length x120.length cs157 :: vecC 29 1 a107 c108 q106.length cs111 :: pt b51 (.cells #[.int .i64 x0.Period, .slice a0_0 x0.Plan.length c0_0, .slice a0_1 x0.Links.length c0_1] 51 (0, 0)) :: R)) ?_ ?_
         ·refine W.gen fun K159 hK159 => ?_
          refine W.cond hE rfl (fun hc160 => ?_) (fun hc160 => ?_)
          ·replace hq149 := iteT hc160 hq149
           refine W.gen fun K161 hK161 => ?_
           refine W.regionE (sel (fun w => St w s104 (pt b148 (.cells (MendFirst.cells x129).toArray 63 (0, 0)) :: vecC 3 1 (some ⟨b122, 0, none⟩) x120.length x120.length cs141 :: vecC 29 1 a107 c108 q106.length cs111 :: pt b51 (.cells #[.int .i64 x0.Period, .slice a0_0 x0.Plan.length c0_0, .slice a0_1 x0.Links.length c0_1] 51 (0, 0)) :: R)) (fun w => St w s104 (pt b148 (.cells (MendFirst.cells x129).toArray 63 (0, 0)) :: vecC 29 1 a107 c108 q106.length cs111 :: pt b51 (.cells #[.int .i64 x0.Period, .slice a0_0 x0.Plan.length c0_0, .slice a0_1 x0.Links.length c0_1] 51 (0, 0)) :: R))) (fun b i => cond b ([0, 1, 2, 3, 4, 5, 6, 7, 8, 9, 10, 11].contains i) ([0, 1, 2, 3, 4, 5, 6, 7, 8, 9, 10, 11, 12].contains i)) mixed ?_
           replace hS := hS.drew
           refine Rg.takeP (i := 0) hE rfl (by kernel_rfl) (runs_plain rfl) (Gives.p hE rfl) rfl (tw_sel (fun _ => hS) (fun _ => (hS.dropAt 1))) ?_; clear hE a; intro a hE
           refine Rg.takeP (i := 1) hE rfl (by kernel_rfl) (runs_plain rfl) (Gives.fld hE rfl fl63_0) rfl (tw_sel (fun _ => hS) (fun _ => (hS.dropAt 1))) ?_; clear hE a; intro a hE
           have hT := tw_sel (A := fun w => St w s104 (pt b148 (.cells (MendFirst.cells x129).toArray 63 (0, 0)) :: vecC 3 1 (some ⟨b122, 0, none⟩) x120.length x120.length cs141 :: vecC 29 1 a107 c108 q106.length cs111 :: pt b51 (.cells #[.int .i64 x0.Period, .slice a0_0 x0.Plan.length c0_0, .slice a0_1 x0.Links.length c0_1] 51 (0, 0)) :: R)) (B := fun w => St w s104 (pt b148 (.cells (MendFirst.cells x129).toArray 63 (0, 0)) :: vecC 29 1 a107 c108 q106.length cs111 :: pt b51 (.cells #[.int .i64 x0.Period, .slice a0_0 x0.Plan.length c0_0, .slice a0_1 x0.Links.length c0_1] 51 (0, 0)) :: R)) (w := _) (x := true) (y := true) (fun _ => hS) (fun _ => (hS.dropAt 1))
           have hF := hS; replace hS := hS
           refine Rg.take (i := 2) true rfl hE rfl (by kernel_rfl) (runs_plain rfl) (Gives.loadB hE 0 rfl rfl rfl ty3) rfl hT ?_; clear hE a; intro a hE
           replace hS := hF; clear hF hT
           refine Rg.takeP (i := 3) hE rfl (by kernel_rfl) (runs_plain rfl) (Gives.p hE rfl) rfl (tw_sel (fun _ => hS) (fun _ => (hS.dropAt 1))) ?_; clear hE a; intro a hE
           refine Rg.takeP (i := 4) hE rfl (by kernel_rfl) (runs_plain rfl) (Gives.fld hE rfl fl63_0) rfl (tw_sel (fun _ => hS) (fun _ => (hS.dropAt 1))) ?_; clear hE a; intro a hE
           have hT := tw_sel (A := fun w => St w s104 (pt b148 (.cells (MendFirst.cells x129).toArray 63 (0, 0)) :: vecC 3 1 (some ⟨b122, 0, none⟩) x120.length x120.length cs141 :: vecC 29 1 a107 c108 q106.length cs111 :: pt b51 (.cells #[.int .i64 x0.Period, .slice a0_0 x0.Plan.length c0_0, .slice a0_1 x0.Links.length c0_1] 51 (0, 0)) :: R)) (B := fun w => St w s104 (pt b148 (.cells (MendFirst.cells x129).toArray 63 (0, 0)) :: vecC 29 1 a107 c108 q106.length cs111 :: pt b51 (.cells #[.int .i64 x0.Period, .slice a0_0 x0.Plan.length c0_0, .slice a0_1 x0.Links.length c0_1] 51 (0, 0)) :: R)) (w := _) (x := true) (y := true) (fun _ => hS) (fun _ => (hS.dropAt 1))
           have hF := hS; replace hS := hS
           refine Rg.take (i := 5) true rfl hE rfl (by kernel_rfl) (runs_plain rfl) (Gives.loadB hE 0 rfl rfl rfl ty3) rfl hT ?_; clear hE a; intro a hE
           replace hS := hF; clear hF hT
           obtain ⟨x162, hx163, hq149⟩ := bindS hq149
           obtain ⟨hi164, hlt165, hy166⟩ := gx_some hx163
           obtain ⟨vs167, hl168, hR169, hd170, hget171⟩ := h140.at hy166
           subst hR169
           refine Rg.takeP (i := 6) hE rfl (by kernel_rfl) (runs_plain rfl) (Gives.idx hE ((x129.Event).toNat) rfl rfl sl29 hi164 (by have := hn142; omega) (hS.vecAok 1 rfl (by have := hn142; omega : (x129.Event).toNat < x120.length))) rfl (tw_sel (fun _ => hS) (fun _ => (hS.dropAt 1))) ?_; clear hE a; intro a hE
           have hT := tw_sel (A := fun w => St w s104 (pt b148 (.cells (MendFirst.cells x129).toArray 63 (0, 0)) :: vecC 3 1 (some ⟨b122, 0, none⟩) x120.length x120.length cs141 :: vecC 29 1 a107 c108 q106.length cs111 :: pt b51 (.cells #[.int .i64 x0.Period, .slice a0_0 x0.Plan.length c0_0, .slice a0_1 x0.Links.length c0_1] 51 (0, 0)) :: R)) (B := fun w => St w s104 (pt b148 (.cells (MendFirst.cells x129).toArray 63 (0, 0)) :: vecC 29 1 a107 c108 q106.length cs111 :: pt b51 (.cells #[.int .i64 x0.Period, .slice a0_0 x0.Plan.length c0_0, .slice a0_1 x0.Links.length c0_1] 51 (0, 0)) :: R)) (w := _) (x := true) (y := true) (fun _ => hS) (fun _ => (hS.dropAt 1))
           have hF := hS; replace hS := hS
           refine Rg.take (i := 7) true rfl hE rfl (by kernel_rfl) (runs_plain rfl) (Gives.load1 hE rfl (fun w h => St.vecSees h 1 rfl ((x129.Event).toNat * 1) _ hget171) ty3) rfl hT ?_; clear hE a; intro a hE
           replace hS := hF; clear hF hT
           refine Rg.takeP (i := 8) hE rfl (by kernel_rfl) (runs_plain rfl) (Gives.fld hE rfl fl63_2) rfl (tw_sel (fun _ => hS) (fun _ => (hS.dropAt 1))) ?_; clear hE a; intro a hE
           have hT := tw_sel (A := fun w => St w s104 (pt b148 (.cells (MendFirst.cells x129).toArray 63 (0, 0)) :: vecC 3 1 (some ⟨b122, 0, none⟩) x120.length x120.length cs141 :: vecC 29 1 a107 c108 q106.length cs111 :: pt b51 (.cells #[.int .i64 x0.Period, .slice a0_0 x0.Plan.length c0_0, .slice a0_1 x0.Links.length c0_1] 51 (0, 0)) :: R)) (B := fun w => St w s104 (pt b148 (.cells (MendFirst.cells x129).toArray 63 (0, 0)) :: vecC 29 1 a107 c108 q106.length cs111 :: pt b51 (.cells #[.int .i64 x0.Period, .slice a0_0 x0.Plan.length c0_0, .slice a0_1 x0.Links.length c0_1] 51 (0, 0)) :: R)) (w := _) (x := true) (y := true) (fun _ => hS) (fun _ => (hS.dropAt 1))
           have hF := hS; replace hS := hS
           refine Rg.take (i := 9) true rfl hE rfl (by kernel_rfl) (runs_plain rfl) (Gives.loadB hE 0 rfl rfl rfl ty3) rfl hT ?_; clear hE a; intro a hE
           replace hS := hF; clear hF hT
           refine Rg.takeP (i := 10) hE rfl (by kernel_rfl) (runs_plain rfl) (Gives.max2 hE rfl rfl) rfl (tw_sel (fun _ => hS) (fun _ => (hS.dropAt 1))) ?_; clear hE a; intro a hE
           obtain ⟨_, hx173, hq149⟩ := bindS hq149
           obtain ⟨h174, h175⟩ := ix_some hx173
           refine Rg.takeP (i := 11) hE rfl (by kernel_rfl) (runs_plain rfl) (Gives.idx hE ((x129.Event).toNat) rfl rfl sl29 h174 (by have := hn142; omega) (hS.vecAok 1 rfl (by have := hn142; omega : (x129.Event).toNat < x120.length))) rfl (tw_sel (fun _ => hS) (fun _ => (hS.dropAt 1))) ?_; clear hE a; intro a hE
           refine Rg.one (i := 12) false true rfl (by kernel_rfl) (by kernel_rfl) (by kernel_rfl) ?_
           obtain ⟨x177, hx178, hq149⟩ := bindS hq149
           refine WL.setD hE hS 1 rfl (runs_plain rfl) rfl rfl (vs := [.int .i64 (mx x162 x129.Secs)]) rfl ty3 rfl rfl rfl h140 hn142 (sx_some hx178).1 hx178 rfl rfl ?_; clear hE hS a w; intro cs179 a w h180 hn181 hE hS
           refine WL.nil ?_
           refine ⟨⟨fun h => absurd h (by decide), fun _ => (hS.dropAt 1)⟩, ?_⟩
           refine Rg.done (by kernel_rfl) ?_
           subst hK161
           subst hK159
           exact ⟨x177, cs179, Option.some.inj hq149, h180, hn181, hE.pick _ ⟨rfl, rfl, rfl, rfl, rfl, rfl, rfl, rfl, rfl, rfl, rfl, trivial⟩, hS⟩
          ·replace hq149 := iteF hc160 hq149
           refine W.skip ?_
           subst hK159
           exact ⟨q137, cs141, Option.some.inj hq149, h140, hn142, hE.pick _ ⟨rfl, rfl, rfl, rfl, rfl, rfl, rfl, rfl, rfl, rfl, rfl, trivial⟩, hS⟩
         ·clear hE hS a w; rintro a w ⟨q153, cs157, rfl, h156, hn158, hE, hS⟩
          refine W.region ?_
          refine WL.vS hS hE (runs_plain rfl) (Gives.inc hE rfl (by have := h1.small; omega)) rfl ?_; clear hE a; intro a hE
          refine WL.vS hS hE (runs_plain rfl) (Gives.p hE rfl) rfl ?_; clear hE a; intro a hE
          refine WL.nil ?_
          replace hS := hS.tail
          subst hK143
          exact ⟨rest130.length, Nat.lt_succ_self _, rest130, k128 + 1, q153, cs157, rfl, hd131, hq126, h156, hn158, hE.pick _ ⟨rfl, rfl, rfl, rfl, rfl, rfl, rfl, rfl, rfl, rfl, rfl, trivial⟩, hS⟩
       ·clear hE hS a w; rintro a w ⟨q137, cs141, rfl, h140, hn142, hE, hS⟩
        refine W.seq (W.region ?_)
        refine WL.vS hS hE (runs_plain rfl) (Gives.loadBA hE 2 rfl rfl ty51) rfl ?_; clear hE a; intro a hE
        refine WL.vS hS hE (runs_plain rfl) (Gives.p hE rfl) rfl ?_; clear hE a; intro a hE
        refine WL.vS hS hE (runs_plain rfl) (Gives.p hE rfl) rfl ?_; clear hE a; intro a hE
        obtain ⟨q182, hq183, hq100⟩ := bindS hq100
        have hF := hS.lendV RI.mono 0 rfl h140 hn142; clear hS; obtain ⟨t190, hle191, hS, hs192, bk193⟩ := hF
        have hc_ := (by have hc_ := MendRoundfollow_ok hS (Sl.mono RI.mono hle191 h0_0) (Sl.mono RMendLink.mono hle191 h0_1) hs192 (Sl.mono (RL.mono RI.mono) hle191 h116) hq183; rw [hn142] at hc_; exact hc_)
        refine WL.fnq hE (hc_) (runs_plain rfl) bd69 rfl rfl rfl ?_
        clear hE hS hc_; rintro e w ⟨a184, c185, n186, cs187, rfl, h188, rfl, hS⟩; refine ⟨_, rfl, ?_⟩; clear a; intro a hE
        replace hS := bk193 _ _ hS
        replace h188 := Ev.flat (s2 := s104) (fun _ _ _ _ h => h) h188
        refine WL.vS hS hE (runs_plain rfl) (Gives.p hE rfl) rfl ?_; clear hE a; intro a hE
        refine WL.nil ?_
        refine W.seq (W.region ?_)
        refine WL.vS hS hE (runs_plain rfl) (Gives.p hE rfl) rfl ?_; clear hE a; intro a hE
        refine WL.vS hS hE (runs_plain rfl) (Gives.p hE rfl) rfl ?_; clear hE a; intro a hE
        have hF := hS.fixD RI.mono 1 rfl h188 rfl; clear hS; obtain ⟨s194, hle195, hS, h196⟩ := hF
        replace h1 := Sl.mono RMendFirst.mono hle195 h1
        replace h116 := Sl.mono (RL.mono RI.mono) hle195 h116
        replace h0_0 := Sl.mono RI.mono hle195 h0_0
        replace h0_1 := Sl.mono RMendLink.mono hle195 h0_1
        replace h140 := Ev.mono RI.mono hle195 h140
        replace h109 := Ev.mono (RL.mono RI.mono) hle195 h109
        refine WL.lit hE hS (e := 29) (es := 1) (vs := [(0, .slice a184 q182.length c185)]) (cs := [.slice a184 q182.length c185]) (runs_plain rfl) rfl (by kernel_rfl) rfl ?_; clear hE hS a w; intro b197 a w hE hS
        obtain ⟨x198, hx199, hq100⟩ := bindS hq100
        refine WL.appD hE hS 1 (m := 1) (runs_plain rfl) rfl rfl rfl ap56 rfl h109 rfl (xs := [q182]) (Ev.cons (c1 := [.slice a184 q182.length c185]) ⟨_, _, rfl, h196⟩ rfl (Ev.nil)) rfl rfl hx199 rfl ?_; clear hE hS a w; intro a200 c201 cs202 a w h203 hE hS
        refine WL.vS hS hE (runs_plain rfl) (Gives.p hE rfl) rfl ?_; clear hE a; intro a hE
        refine WL.nil ?_
        refine W.region ?_
        refine WL.vS hS hE (runs_plain rfl) (Gives.p hE rfl) rfl ?_; clear hE a; intro a hE
        refine WL.lit hE hS (e := 29) (es := 1) (vs := [(0, .slice a184 q182.length c185)]) (cs := [.slice a184 q182.length c185]) (runs_plain rfl) rfl (by kernel_rfl) rfl ?_; clear hE hS a w; intro b204 a w hE hS
        replace hS := hS.ptVec (es := 1) (m := 1) rfl (by decide)
        have h206 : Ev 1 (RL 1 (RI .i64)) s194 [.slice a184 q182.length c185] [q182] := (Ev.cons (c1 := [.slice a184 q182.length c185]) ⟨_, _, rfl, h196⟩ rfl (Ev.nil))
        refine WL.vS hS hE (runs_plain rfl) (Gives.p hE rfl) rfl ?_; clear hE a; intro a hE
        refine WL.vS hS hE (runs_plain rfl) (Gives.p hE rfl) rfl ?_; clear hE a; intro a hE
        refine WL.vS hS hE (runs_plain rfl) (Gives.len hE rfl sl56) rfl ?_; clear hE a; intro a hE
        refine WL.vS hS hE (runs_plain rfl) (Gives.min2 hE rfl rfl) rfl ?_; clear hE a; intro a hE
        obtain ⟨x207, hx208, hq100⟩ := bindS hq100
        obtain ⟨a209, c210, heq211, h212⟩ := h116.cut hx208
        obtain ⟨h213, h214, h215, _⟩ := cutl_some hx208
        refine WL.vS hS hE (runs_plain rfl) (Gives.slH hE sl56 rfl rfl (by omega) (by have := h116.len; omega) heq211) rfl ?_; clear hE a; intro a hE
        obtain ⟨x216, hx217, hq100⟩ := bindS hq100
        refine WL.appS hE hS 0 (runs_plain rfl) rfl rfl (xs := x207) rfl rfl ap56 RL.one h206 (rfl) h212 hx217 rfl ?_; clear hE hS a w; intro a218 c219 cs220 a w h221 hE hS
        refine WL.vS hS hE (runs_plain rfl) (Gives.p hE rfl) rfl ?_; clear hE a; intro a hE
        refine WL.nil ?_
        refine W.region ?_
        refine WL.vS hS hE (runs_plain rfl) (Gives.p hE rfl) rfl ?_; clear hE a; intro a hE
        refine WL.vS hS hE (runs_plain rfl) (Gives.p hE rfl) rfl ?_; clear hE a; intro a hE
        refine WL.nil ?_
        have hF := hS.fixD (RL.mono RI.mono) 0 rfl h221 (rfl); clear hS; obtain ⟨s222, hle223, hS, h224⟩ := hF
        replace h1 := Sl.mono RMendFirst.mono hle223 h1
        replace h196 := Sl.mono RI.mono hle223 h196
        replace h0_0 := Sl.mono RI.mono hle223 h0_0
        replace h0_1 := Sl.mono RMendLink.mono hle223 h0_1
        replace h116 := Sl.mono (RL.mono RI.mono) hle223 h116
        replace h212 := Sl.mono (RL.mono RI.mono) hle223 h212
        replace h140 := Ev.mono RI.mono hle223 h140
        replace h203 := Ev.mono (RL.mono RI.mono) hle223 h203
        replace hS := hS.tail
        subst hK118
        exact ⟨n102, Nat.lt_succ_self _, n102, x198, x216, (w64 (q117 + 1)), a200, c201, x198.length, cs202, a218, c219, s222, rfl, (Sg.Le.trans (Sg.Le.trans hle105 hle195) hle223), hq100, h203, (rfl), h224, hE.pick _ ⟨rfl, rfl, rfl, rfl, rfl, rfl, trivial⟩, hS⟩
      ·replace hq100 := iteF hc119 hq100
       subst hK118
       refine W.exit rfl ?_
       exact ⟨q106, q113, q117, a107, c108, q106.length, cs111, a114, c115, s104, hle105, Option.some.inj hq100, h109, rfl, h116, hE.pick _ ⟨rfl, trivial⟩, hS⟩
     ·clear hE hS a w; rintro a w ⟨q106, q113, q117, a107, c108, n110, cs111, a114, c115, s104, hle105, rfl, h109, rfl, h116, hE, hS⟩
      dsimp only at hr
      replace h1 := Sl.mono RMendFirst.mono hle105 h1
      replace h0_0 := Sl.mono RI.mono hle105 h0_0
      replace h0_1 := Sl.mono RMendLink.mono hle105 h0_1
      refine W.seq (W.region ?_)
      refine WL.vS hS hE (runs_plain rfl) (Gives.p hE rfl) rfl ?_; clear hE a; intro a hE
      refine WL.vS hS hE (runs_plain rfl) (Gives.p hE rfl) rfl ?_; clear hE a; intro a hE
      refine WL.vS hS hE (runs_plain rfl) (Gives.p hE rfl) rfl ?_; clear hE a; intro a hE
      refine WL.nil ?_
      refine W.ret ?_
      refine finG (fn := Try.f33) (rs := [.tmp 6, .tmp 7]) (vs := [_, _]) hE rfl ⟨rfl, rfl, trivial⟩ ?_
      obtain rfl := Option.some.inj hr
      replace hS := hS.dropAt 1
      exact ⟨a107, c108, q106.length, cs111, s104, rfl, hle105, h109, rfl, hS⟩
set_option maxHeartbeats 8000000 in
theorem FishtopTopRounds_2_v1_ok  {w : World} {s : Sg} {R : List HP} {pb0 : Nat} {x0 : List Int} {a0 : Option Addr} {c0 : Nat} {y0 : List Int} {a_y0_0 : Option Addr} {c_y0_0 : Nat} (hS : St w s (pt pb0 (.cells #[.slice a_y0_0 y0.length c_y0_0] 29 (0, 0)) :: R)) (_h0 : Sl 1 (RI .i64) s a0 c0 x0) (_h_y0_0 : Sl 1 (RI .i64) s a_y0_0 c_y0_0 y0) {r : Bool} (hr : FishtopTopRounds_2_v1 x0 y0 = r) :
  Calls Try.prog 34 [.slice a0 x0.length c0, .pointer (some ⟨pb0, 0, none⟩)].toArray w (fun e w => e = .returned (.bool r) ∧ St w s (pt pb0 (.cells #[.slice a_y0_0 y0.length c_y0_0] 29 (0, 0)) :: R)) := by
 refine enter Try.func34 rfl rfl rfl fun a hE => ?_
 rw [FishtopTopRounds_2_v1] at hr
 refine W.seq (W.region ?_)
 refine WL.vS hS hE (runs_plain rfl) (Gives.p hE rfl) rfl ?_; clear hE a; intro a hE
 refine WL.nil ?_
 refine W.seq (W.region ?_)
 refine WL.vS hS hE (runs_plain rfl) (Gives.p hE rfl) rfl ?_; clear hE a; intro a hE
 refine WL.vS hS hE (runs_plain rfl) (Gives.len hE rfl sl29) rfl ?_; clear hE a; intro a hE
 refine WL.vS hS hE (runs_plain rfl) (Gives.loadB hE 0 rfl rfl rfl ty29) rfl ?_; clear hE a; intro a hE
 refine WL.vS hS hE (runs_plain rfl) (Gives.len hE rfl sl29) rfl ?_; clear hE a; intro a hE
 refine WL.vS hS hE (runs_plain rfl) (Gives.p hE rfl) rfl ?_; clear hE a; intro a hE
 refine WL.vS hS hE (runs_plain rfl) (Gives.p hE rfl) rfl ?_; clear hE a; intro a hE
 refine WL.nil ?_
 refine W.ret ?_
 refine finG (fn := Try.f34) (rs := [.tmp 3]) (vs := [_]) hE rfl ⟨rfl, trivial⟩ ?_
 subst hr
 exact ⟨rfl, hS⟩
set_option maxHeartbeats 8000000 in
theorem SlicesIndexFuncLLint_v2_ok  {w : World} {s : Sg} {R : List HP} {pb0 : Nat} {x0 : List (List Int)} {a0 : Option Addr} {c0 : Nat} {y0 : List Int} {a_y0_0 : Option Addr} {c_y0_0 : Nat} (hS : St w s (pt pb0 (.cells #[.slice a_y0_0 y0.length c_y0_0] 29 (0, 0)) :: R)) (h0 : Sl 1 (RL 1 (RI .i64)) s a0 c0 x0) (h_y0_0 : Sl 1 (RI .i64) s a_y0_0 c_y0_0 y0) {r : Int} (hr : SlicesIndexFuncLLint_v2 x0 y0 = r) :
  Calls Try.prog 68 [.slice a0 x0.length c0, .func (.func 34) #[] #[.pointer (some ⟨pb0, 0, none⟩)]].toArray w (fun e w => e = .returned (.int .i64 r) ∧ St w s (pt pb0 (.cells #[.slice a_y0_0 y0.length c_y0_0] 29 (0, 0)) :: R)) := by
 refine enter Try.func68 rfl rfl rfl fun a hE => ?_
 rw [SlicesIndexFuncLLint_v2] at hr
 refine W.seq (W.region ?_)
 refine WL.vS hS hE (runs_plain rfl) (Gives.p hE rfl) rfl ?_; clear hE a; intro a hE
 refine WL.nil ?_
 refine W.seq ?_
 refine W.seq (W.region ?_)
 refine WL.vS hS hE (runs_plain rfl) (Gives.p hE rfl) rfl ?_; clear hE a; intro a hE
 refine WL.vS hS hE (runs_plain rfl) (Gives.len hE rfl sl56) rfl ?_; clear hE a; intro a hE
 refine WL.vS hS hE (runs_plain rfl) (Gives.p hE rfl) rfl ?_; clear hE a; intro a hE
 refine WL.nil ?_
 obtain ⟨q52, hq51, hr⟩ := bndS hr
 refine W.cut (fun a w => (.next ()) = q52 ∧ Rep a 19 [] ∧ St w s (pt pb0 (.cells #[.slice a_y0_0 y0.length c_y0_0] 29 (0, 0)) :: R)) ?_ ?_
 ·refine W.block ?_
  refine W.loop (fun m a w => ∃ (rest55 : List (List Int)) (k53 : Nat), rest55.length = m ∧ x0.drop k53 = rest55 ∧ SlicesIndexFuncLLint_v2.loop1 y0 rest55 k53 = q52 ∧ Rep a 19 [(0, .slice a0 x0.length c0), (1, .func (.func 34) #[] #[.pointer (some ⟨pb0, 0, none⟩)]), (7, .int .i64 ((x0).length : Int)), (8, .int .i64 ((k53 : Nat) : Int))] ∧ St w s (pt pb0 (.cells #[.slice a_y0_0 y0.length c_y0_0] 29 (0, 0)) :: R)) (m := x0.length) ⟨x0, 0, rfl, rfl, hq51, hE.pick _ ⟨rfl, rfl, rfl, rfl, trivial⟩, hS⟩ ?_
  clear hE hS a w hq51; rintro m59 a w ⟨rest55, k53, rfl, hd56, hq51, hE, hS⟩
  refine W.gen fun K62 hK62 => ?_
  rcases rest55 with _ | ⟨x54, rest55⟩
  ·have hlt57 := drop_nil hd56
   refine W.seq (W.region ?_)
   refine WL.vS hS hE (runs_plain rfl) (Gives.p hE rfl) rfl ?_; clear hE a; intro a hE
   refine WL.nil ?_
   refine W.seq ?_
   refine W.condF hE rfl (decide_eq_false (by omega)) ?_
   subst hK62
   refine W.exit rfl ?_
   exact ⟨hq51, hE.pick _ trivial, hS⟩
  ·obtain ⟨hlt57, hx58, hd56⟩ := drop_cons hd56
   rw [SlicesIndexFuncLLint_v2.loop1] at hq51
   refine W.seq (W.region ?_)
   refine WL.vS hS hE (runs_plain rfl) (Gives.p hE rfl) rfl ?_; clear hE a; intro a hE
   refine WL.nil ?_
   refine W.seq ?_
   refine W.condT hE rfl (decide_eq_true (by omega)) ?_
   refine W.skip ?_
   refine W.seq ?_
   refine W.block ?_
   refine W.seq (W.region ?_)
   refine WL.vS hS hE (runs_plain rfl) (Gives.p hE rfl) rfl ?_; clear hE a; intro a hE
   refine WL.vS hS hE (runs_plain rfl) (Gives.p hE rfl) rfl ?_; clear hE a; intro a hE
   refine WL.nil ?_
   refine W.seq (W.region ?_)
   refine WL.vS hS hE (runs_plain rfl) (Gives.p hE rfl) rfl ?_; clear hE a; intro a hE
   refine WL.vS hS hE (runs_plain rfl) (Gives.p hE rfl) rfl ?_; clear hE a; intro a hE
   refine WL.vS hS hE (runs_plain rfl) (Gives.p hE rfl) rfl ?_; clear hE a; intro a hE
   obtain ⟨cs63, hl64, hR65, hat66⟩ := h0.at hx58
   obtain ⟨a67, c68, rfl, h69⟩ := hR65
   refine WL.vS hS hE (runs_plain rfl) (Gives.idx hE k53 rfl rfl sl56 rfl hlt57 (h0.aok hlt57)) rfl ?_; clear hE a; intro a hE
   refine WL.vS hS hE (runs_plain rfl) (Gives.load1 hE rfl (fun w h => hat66 w _ h) ty29) rfl ?_; clear hE a; intro a hE
   refine WL.fnw hE (FishtopTopRounds_2_v1_ok hS h69 h_y0_0 rfl (r := FishtopTopRounds_2_v1 x54 y0)) rfl (runs_plain rfl) bd34 rfl rfl rfl ?_
   clear hE hS; rintro e w ⟨rfl, hS⟩; refine ⟨_, rfl, ?_⟩; clear a; intro a hE
   refine WL.nil ?_
   refine W.cond hE rfl (fun hc70 => ?_) (fun hc70 => ?_)
   ·replace hq51 := iteT hc70 hq51
    refine W.seq (W.region ?_)
    refine WL.vS hS hE (runs_plain rfl) (Gives.p hE rfl) rfl ?_; clear hE a; intro a hE
    refine WL.vS hS hE (runs_plain rfl) (Gives.p hE rfl) rfl ?_; clear hE a; intro a hE
    refine WL.nil ?_
    refine W.ret ?_
    subst hK62
    rw [← hq51] at hr
    dsimp only at hr
    refine finG (fn := Try.f68) (rs := [.tmp 4]) (vs := [_]) hE rfl ⟨rfl, trivial⟩ ?_
    subst hr
    exact ⟨rfl, hS⟩
   ·replace hq51 := iteF hc70 hq51
    refine W.skip ?_
    refine W.region ?_
    refine WL.vS hS hE (runs_plain rfl) (Gives.inc hE rfl (by have := h0.small; omega)) rfl ?_; clear hE a; intro a hE
    refine WL.vS hS hE (runs_plain rfl) (Gives.p hE rfl) rfl ?_; clear hE a; intro a hE
    refine WL.nil ?_
    subst hK62
    exact ⟨rest55.length, Nat.lt_succ_self _, rest55, k53 + 1, rfl, hd56, hq51, hE.pick _ ⟨rfl, rfl, rfl, rfl, trivial⟩, hS⟩
 ·clear hE hS a w; rintro a w ⟨rfl, hE, hS⟩
  dsimp only at hr
  refine W.seq (W.region ?_)
  refine WL.vS hS hE (runs_plain rfl) (Gives.p hE rfl) rfl ?_; clear hE a; intro a hE
  refine WL.nil ?_
  refine W.ret ?_
  refine finG (fn := Try.f68) (rs := [.tmp 4]) (vs := [_]) hE rfl ⟨rfl, trivial⟩ ?_
  subst hr
  exact ⟨rfl, hS⟩
set_option maxHeartbeats 8000000 in
theorem SlicesContainsFuncLLint_v2_ok  {w : World} {s : Sg} {R : List HP} {pb0 : Nat} {x0 : List (List Int)} {a0 : Option Addr} {c0 : Nat} {y0 : List Int} {a_y0_0 : Option Addr} {c_y0_0 : Nat} (hS : St w s (pt pb0 (.cells #[.slice a_y0_0 y0.length c_y0_0] 29 (0, 0)) :: R)) (h0 : Sl 1 (RL 1 (RI .i64)) s a0 c0 x0) (h_y0_0 : Sl 1 (RI .i64) s a_y0_0 c_y0_0 y0) {r : Bool} (hr : SlicesContainsFuncLLint_v2 x0 y0 = r) :
  Calls Try.prog 31 [.slice a0 x0.length c0, .func (.func 34) #[] #[.pointer (some ⟨pb0, 0, none⟩)]].toArray w (fun e w => e = .returned (.bool r) ∧ St w s (pt pb0 (.cells #[.slice a_y0_0 y0.length c_y0_0] 29 (0, 0)) :: R)) := by
 refine enter Try.func31 rfl rfl rfl fun a hE => ?_
 rw [SlicesContainsFuncLLint_v2] at hr
 refine W.seq (W.region ?_)
 refine WL.vS hS hE (runs_plain rfl) (Gives.p hE rfl) rfl ?_; clear hE a; intro a hE
 refine WL.nil ?_
 refine W.seq (W.region ?_)
 refine WL.vS hS hE (runs_plain rfl) (Gives.p hE rfl) rfl ?_; clear hE a; intro a hE
 refine WL.vS hS hE (runs_plain rfl) (Gives.p hE rfl) rfl ?_; clear hE a; intro a hE
 refine WL.fnq hE (SlicesIndexFuncLLint_v2_ok hS h0 h_y0_0 rfl (r := SlicesIndexFuncLLint_v2 x0 y0)) (runs_plain rfl) bd68 rfl rfl rfl ?_
 clear hE hS; rintro e w ⟨rfl, hS⟩; refine ⟨_, rfl, ?_⟩; clear a; intro a hE
 refine WL.vS hS hE (runs_plain rfl) (Gives.p hE rfl) rfl ?_; clear hE a; intro a hE
 refine WL.vS hS hE (runs_plain rfl) (Gives.p hE rfl) rfl ?_; clear hE a; intro a hE
 refine WL.nil ?_
 refine W.ret ?_
 refine finG (fn := Try.f31) (rs := [.tmp 4]) (vs := [_]) hE rfl ⟨rfl, trivial⟩ ?_
 subst hr
 exact ⟨rfl, hS⟩
end Go.Proofs.Ytffleanbfkjfiaa
