/- The walks of the functions that TopRounds reaches: each call comes to what its mirror says. The conditions are those of each contract. -/
import Derived.Test.YtffleanbfkjfiaaProg
import Derived.Test.YtffleanbfkjfiaaTopRoundsM
import Derived.Test.YtffleanbfkjfiaaFpMore
namespace Go.Proofs.Ytffleanbfkjfiaa
open Go Go.Fp
theorem an116 : arN Try.prog 116 8 8 = true := by kernel_rfl
theorem an81 : arN Try.prog 81 8 1 = true := by kernel_rfl
theorem ap125 : apOk Try.prog 125 97 1 = true := by kernel_rfl
theorem ap29 : apOk Try.prog 29 3 1 = true := by kernel_rfl
theorem ap49 : apOk Try.prog 49 53 4 = true := by kernel_rfl
theorem ap56 : apOk Try.prog 56 29 1 = true := by kernel_rfl
theorem ap71 : apOk Try.prog 71 4 1 = true := by kernel_rfl
theorem ap97 : apOk Try.prog 97 144 3 = true := by kernel_rfl
theorem bd10 : bodied Try.prog 10 = true := by kernel_rfl
theorem bd100 : bodied Try.prog 100 = true := by kernel_rfl
theorem bd11 : bodied Try.prog 11 = true := by kernel_rfl
theorem bd12 : bodied Try.prog 12 = true := by kernel_rfl
theorem bd14 : bodied Try.prog 14 = true := by kernel_rfl
theorem bd15 : bodied Try.prog 15 = true := by kernel_rfl
theorem bd19 : bodied Try.prog 19 = true := by kernel_rfl
theorem bd27 : bodied Try.prog 27 = true := by kernel_rfl
theorem bd28 : bodied Try.prog 28 = true := by kernel_rfl
theorem bd29 : bodied Try.prog 29 = true := by kernel_rfl
theorem bd30 : bodied Try.prog 30 = true := by kernel_rfl
theorem bd31 : bodied Try.prog 31 = true := by kernel_rfl
theorem bd32 : bodied Try.prog 32 = true := by kernel_rfl
theorem bd33 : bodied Try.prog 33 = true := by kernel_rfl
theorem bd34 : bodied Try.prog 34 = true := by kernel_rfl
theorem bd35 : bodied Try.prog 35 = true := by kernel_rfl
theorem bd36 : bodied Try.prog 36 = true := by kernel_rfl
theorem bd37 : bodied Try.prog 37 = true := by kernel_rfl
theorem bd38 : bodied Try.prog 38 = true := by kernel_rfl
theorem bd41 : bodied Try.prog 41 = true := by kernel_rfl
theorem bd43 : bodied Try.prog 43 = true := by kernel_rfl
theorem bd46 : bodied Try.prog 46 = true := by kernel_rfl
theorem bd48 : bodied Try.prog 48 = true := by kernel_rfl
theorem bd53 : bodied Try.prog 53 = true := by kernel_rfl
theorem bd54 : bodied Try.prog 54 = true := by kernel_rfl
theorem bd60 : bodied Try.prog 60 = true := by kernel_rfl
theorem bd63 : bodied Try.prog 63 = true := by kernel_rfl
theorem bd64 : bodied Try.prog 64 = true := by kernel_rfl
theorem bd65 : bodied Try.prog 65 = true := by kernel_rfl
theorem bd66 : bodied Try.prog 66 = true := by kernel_rfl
theorem bd67 : bodied Try.prog 67 = true := by kernel_rfl
theorem bd68 : bodied Try.prog 68 = true := by kernel_rfl
theorem bd69 : bodied Try.prog 69 = true := by kernel_rfl
theorem bd70 : bodied Try.prog 70 = true := by kernel_rfl
theorem bd71 : bodied Try.prog 71 = true := by kernel_rfl
theorem bd72 : bodied Try.prog 72 = true := by kernel_rfl
theorem bd77 : bodied Try.prog 77 = true := by kernel_rfl
theorem bd82 : bodied Try.prog 82 = true := by kernel_rfl
theorem bd85 : bodied Try.prog 85 = true := by kernel_rfl
theorem bd86 : bodied Try.prog 86 = true := by kernel_rfl
theorem bd87 : bodied Try.prog 87 = true := by kernel_rfl
theorem bd89 : bodied Try.prog 89 = true := by kernel_rfl
theorem bd91 : bodied Try.prog 91 = true := by kernel_rfl
theorem bd92 : bodied Try.prog 92 = true := by kernel_rfl
theorem bd93 : bodied Try.prog 93 = true := by kernel_rfl
theorem bd94 : bodied Try.prog 94 = true := by kernel_rfl
theorem bd95 : bodied Try.prog 95 = true := by kernel_rfl
theorem bd96 : bodied Try.prog 96 = true := by kernel_rfl
theorem bd97 : bodied Try.prog 97 = true := by kernel_rfl
theorem bd98 : bodied Try.prog 98 = true := by kernel_rfl
theorem bd99 : bodied Try.prog 99 = true := by kernel_rfl
theorem cp29 : cpOk Try.prog 29 3 1 = true := by kernel_rfl
theorem cp71 : cpOk Try.prog 71 4 1 = true := by kernel_rfl
theorem fl100_0 : fldOk Try.prog 100 0 0 = true := by kernel_rfl
theorem fl100_1 : fldOk Try.prog 100 1 1 = true := by kernel_rfl
theorem fl100_2 : fldOk Try.prog 100 2 2 = true := by kernel_rfl
theorem fl100_3 : fldOk Try.prog 100 3 3 = true := by kernel_rfl
theorem fl100_4 : fldOk Try.prog 100 4 4 = true := by kernel_rfl
theorem fl127_0 : fldOk Try.prog 127 0 0 = true := by kernel_rfl
theorem fl127_1 : fldOk Try.prog 127 1 1 = true := by kernel_rfl
theorem fl127_2 : fldOk Try.prog 127 2 2 = true := by kernel_rfl
theorem fl138_0 : fldOk Try.prog 138 0 0 = true := by kernel_rfl
theorem fl144_0 : fldOk Try.prog 144 0 0 = true := by kernel_rfl
theorem fl144_1 : fldOk Try.prog 144 1 1 = true := by kernel_rfl
theorem fl144_2 : fldOk Try.prog 144 2 2 = true := by kernel_rfl
theorem fl24_0 : fldOk Try.prog 24 0 0 = true := by kernel_rfl
theorem fl24_1 : fldOk Try.prog 24 1 1 = true := by kernel_rfl
theorem fl24_2 : fldOk Try.prog 24 2 2 = true := by kernel_rfl
theorem fl37_0 : fldOk Try.prog 37 0 0 = true := by kernel_rfl
theorem fl37_1 : fldOk Try.prog 37 1 1 = true := by kernel_rfl
theorem fl37_2 : fldOk Try.prog 37 2 2 = true := by kernel_rfl
theorem fl37_3 : fldOk Try.prog 37 3 3 = true := by kernel_rfl
theorem fl37_4 : fldOk Try.prog 37 4 4 = true := by kernel_rfl
theorem fl51_0 : fldOk Try.prog 51 0 0 = true := by kernel_rfl
theorem fl51_1 : fldOk Try.prog 51 1 1 = true := by kernel_rfl
theorem fl51_2 : fldOk Try.prog 51 2 2 = true := by kernel_rfl
theorem fl53_0 : fldOk Try.prog 53 0 0 = true := by kernel_rfl
theorem fl53_1 : fldOk Try.prog 53 1 1 = true := by kernel_rfl
theorem fl53_2 : fldOk Try.prog 53 2 2 = true := by kernel_rfl
theorem fl53_3 : fldOk Try.prog 53 3 3 = true := by kernel_rfl
theorem fl63_0 : fldOk Try.prog 63 0 0 = true := by kernel_rfl
theorem fl63_1 : fldOk Try.prog 63 1 1 = true := by kernel_rfl
theorem fl63_2 : fldOk Try.prog 63 2 2 = true := by kernel_rfl
theorem fl80_0 : fldOk Try.prog 80 0 0 = true := by kernel_rfl
theorem fl80_1 : fldOk Try.prog 80 1 3 = true := by kernel_rfl
theorem fl80_2 : fldOk Try.prog 80 2 4 = true := by kernel_rfl
theorem fl80_3 : fldOk Try.prog 80 3 5 = true := by kernel_rfl
theorem fl80_4 : fldOk Try.prog 80 4 6 = true := by kernel_rfl
theorem hu110 : (Try.prog.underlying 110).isSome = true := by kernel_rfl
theorem hu3 : (Try.prog.underlying 3).isSome = true := by kernel_rfl
theorem isl125 : isSl Try.prog 125 = true := by kernel_rfl
theorem isl29 : isSl Try.prog 29 = true := by kernel_rfl
theorem isl97 : isSl Try.prog 97 = true := by kernel_rfl
theorem mixed : Try.prog.follows .mixedOrders = true := by kernel_rfl
theorem sl125 : slOk Try.prog 125 97 1 = true := by kernel_rfl
theorem sl22 : slOk Try.prog 22 37 5 = true := by kernel_rfl
theorem sl29 : slOk Try.prog 29 3 1 = true := by kernel_rfl
theorem sl49 : slOk Try.prog 49 53 4 = true := by kernel_rfl
theorem sl56 : slOk Try.prog 56 29 1 = true := by kernel_rfl
theorem sl64 : slOk Try.prog 64 63 3 = true := by kernel_rfl
theorem sl71 : slOk Try.prog 71 4 1 = true := by kernel_rfl
theorem sl97 : slOk Try.prog 97 144 3 = true := by kernel_rfl
theorem sl98 : slOk Try.prog 98 138 1 = true := by kernel_rfl
theorem ty100 : tyOk Try.prog 100 true 5 = true := by kernel_rfl
theorem ty116 : tyOk Try.prog 116 true 64 = true := by kernel_rfl
theorem ty122 : tyOk Try.prog 122 false 1 = true := by kernel_rfl
theorem ty125 : tyOk Try.prog 125 false 1 = true := by kernel_rfl
theorem ty138 : tyOk Try.prog 138 true 1 = true := by kernel_rfl
theorem ty144 : tyOk Try.prog 144 true 3 = true := by kernel_rfl
theorem ty22 : tyOk Try.prog 22 false 1 = true := by kernel_rfl
theorem ty24 : tyOk Try.prog 24 true 3 = true := by kernel_rfl
theorem ty29 : tyOk Try.prog 29 false 1 = true := by kernel_rfl
theorem ty3 : tyOk Try.prog 3 false 1 = true := by kernel_rfl
theorem ty37 : tyOk Try.prog 37 true 5 = true := by kernel_rfl
theorem ty4 : tyOk Try.prog 4 false 1 = true := by kernel_rfl
theorem ty49 : tyOk Try.prog 49 false 1 = true := by kernel_rfl
theorem ty51 : tyOk Try.prog 51 true 3 = true := by kernel_rfl
theorem ty53 : tyOk Try.prog 53 true 4 = true := by kernel_rfl
theorem ty63 : tyOk Try.prog 63 true 3 = true := by kernel_rfl
theorem ty71 : tyOk Try.prog 71 false 1 = true := by kernel_rfl
theorem ty77 : tyOk Try.prog 77 false 1 = true := by kernel_rfl
theorem ty78 : tyOk Try.prog 78 false 1 = true := by kernel_rfl
theorem ty97 : tyOk Try.prog 97 false 1 = true := by kernel_rfl
theorem ty98 : tyOk Try.prog 98 false 1 = true := by kernel_rfl
theorem ui110 : Try.prog.underlying 110 = some (.int .u64) := by kernel_rfl
theorem ui3 : Try.prog.underlying 3 = some (.int .i64) := by kernel_rfl
theorem zr116 : (Try.prog.info? 116).bind (fun i => i.zero.map fun z => z.cells.toList) = some [.int .i64 0, .int .i64 0, .int .i64 0, .int .i64 0, .int .i64 0, .int .i64 0, .int .i64 0, .int .i64 0, .int .i64 0, .int .i64 0, .int .i64 0, .int .i64 0, .int .i64 0, .int .i64 0, .int .i64 0, .int .i64 0, .int .i64 0, .int .i64 0, .int .i64 0, .int .i64 0, .int .i64 0, .int .i64 0, .int .i64 0, .int .i64 0, .int .i64 0, .int .i64 0, .int .i64 0, .int .i64 0, .int .i64 0, .int .i64 0, .int .i64 0, .int .i64 0, .int .i64 0, .int .i64 0, .int .i64 0, .int .i64 0, .int .i64 0, .int .i64 0, .int .i64 0, .int .i64 0, .int .i64 0, .int .i64 0, .int .i64 0, .int .i64 0, .int .i64 0, .int .i64 0, .int .i64 0, .int .i64 0, .int .i64 0, .int .i64 0, .int .i64 0, .int .i64 0, .int .i64 0, .int .i64 0, .int .i64 0, .int .i64 0, .int .i64 0, .int .i64 0, .int .i64 0, .int .i64 0, .int .i64 0, .int .i64 0, .int .i64 0, .int .i64 0] := by kernel_rfl
theorem zr122 : (Try.prog.info? 122).bind (fun i => i.zero.map fun z => z.cells.toList) = some [.pointer none] := by kernel_rfl
theorem zr138 : (Try.prog.info? 138).bind (fun i => i.zero.map fun z => z.cells.toList) = some [.slice none 0 0] := by kernel_rfl
theorem zr144 : (Try.prog.info? 144).bind (fun i => i.zero.map fun z => z.cells.toList) = some [.int .i64 0, .int .i64 0, .int .i64 0] := by kernel_rfl
theorem zr29 : (Try.prog.info? 29).bind (fun i => i.zero.map fun z => z.cells.toList) = some [.slice none 0 0] := by kernel_rfl
theorem zr3 : (Try.prog.info? 3).bind (fun i => i.zero.map fun z => z.cells.toList) = some [.int .i64 0] := by kernel_rfl
theorem zr37 : (Try.prog.info? 37).bind (fun i => i.zero.map fun z => z.cells.toList) = some [.int .i64 0, .int .i64 0, .int .i64 0, .int .i64 0, .int .i64 0] := by kernel_rfl
theorem zr4 : (Try.prog.info? 4).bind (fun i => i.zero.map fun z => z.cells.toList) = some [.bool false] := by kernel_rfl
theorem zr51 : (Try.prog.info? 51).bind (fun i => i.zero.map fun z => z.cells.toList) = some [.int .i64 0, .slice none 0 0, .slice none 0 0] := by kernel_rfl
theorem zr53 : (Try.prog.info? 53).bind (fun i => i.zero.map fun z => z.cells.toList) = some [.int .i64 0, .int .i64 0, .int .i64 0, .int .i64 0] := by kernel_rfl
theorem zr63 : (Try.prog.info? 63).bind (fun i => i.zero.map fun z => z.cells.toList) = some [.int .i64 0, .int .i64 0, .int .i64 0] := by kernel_rfl
theorem zr71 : (Try.prog.info? 71).bind (fun i => i.zero.map fun z => z.cells.toList) = some [.slice none 0 0] := by kernel_rfl
theorem zr97 : (Try.prog.info? 97).bind (fun i => i.zero.map fun z => z.cells.toList) = some [.slice none 0 0] := by kernel_rfl
set_option maxHeartbeats 8000000 in
theorem Mendwithin_ok  {w : World} {s : Sg} {R : List HP} {x0 : Int} {x1 : Int} {x2 : Int} (hS : St w s (R))  {r : Bool} (hr : Mendwithin x0 x1 x2 = r) :
  Calls Try.prog 64 [.int .i64 x0, .int .i64 x1, .int .i64 x2].toArray w (fun e w => e = .returned (.bool r) ∧ St w s (R)) := by
 refine enter Try.func64 rfl rfl rfl fun a hE => ?_
 rw [Mendwithin] at hr
 refine W.seq (W.region ?_)
 refine WL.vS hS hE (runs_plain rfl) (Gives.p hE rfl) rfl ?_; clear hE a; intro a hE
 refine WL.nil ?_
 refine W.seq ?_
 obtain ⟨q52, hq51, hr⟩ := bndS hr
 refine W.cut (fun a w => ∃ (q55 : Bool), q55 = q52 ∧ Rep a 15 [(6, .bool q55)] ∧ St w s (R)) ?_ ?_
 ·refine W.gen fun K56 hK56 => ?_
  refine W.region ?_
  refine WL.vS hS hE (runs_plain rfl) (Gives.p hE rfl) rfl ?_; clear hE a; intro a hE
  refine WL.vS hS hE (runs_plain rfl) (Gives.p hE rfl) rfl ?_; clear hE a; intro a hE
  refine WL.vS hS hE (runs_plain rfl) (Gives.p hE rfl) rfl ?_; clear hE a; intro a hE
  refine WL.vS hS hE (runs_plain rfl) (Gives.p hE rfl) rfl ?_; clear hE a; intro a hE
  rcases Bool.eq_false_or_eq_true (decide (x0 ≥ x1)) with hg57 | hg57
  ·replace hq51 := iteT hg57 hq51
   refine WL.vS hS hE (runs_if hE rfl rfl rfl hg57) (Gives.p hE rfl) rfl ?_; clear hE a; intro a hE
   refine WL.vS hS hE (runs_if hE rfl rfl rfl hg57) (Gives.p hE rfl) rfl ?_; clear hE a; intro a hE
   refine WL.vS hS hE (runs_if hE rfl rfl rfl hg57) (Gives.p hE rfl) rfl ?_; clear hE a; intro a hE
   refine WL.vS hS hE (runs_plain rfl) (Gives.pickT hE rfl hg57 rfl) rfl ?_; clear hE a; intro a hE
   refine WL.vS hS hE (runs_plain rfl) (Gives.p hE rfl) rfl ?_; clear hE a; intro a hE
   refine WL.nil ?_
   subst hK56
   exact ⟨decide (x0 ≤ x2), hq51, hE.pick _ ⟨rfl, trivial⟩, hS⟩
  ·replace hq51 := iteF hg57 hq51
   refine WL.no hE (runs_not hE rfl rfl rfl (by rw [hg57]; decide)) rfl ?_; clear hE a; intro a hE
   refine WL.no hE (runs_not hE rfl rfl rfl (by rw [hg57]; decide)) rfl ?_; clear hE a; intro a hE
   refine WL.no hE (runs_not hE rfl rfl rfl (by rw [hg57]; decide)) rfl ?_; clear hE a; intro a hE
   refine WL.vS hS hE (runs_plain rfl) (Gives.pickF hE rfl hg57 rfl) rfl ?_; clear hE a; intro a hE
   refine WL.vS hS hE (runs_plain rfl) (Gives.p hE rfl) rfl ?_; clear hE a; intro a hE
   refine WL.nil ?_
   subst hK56
   exact ⟨false, hq51, hE.pick _ ⟨rfl, trivial⟩, hS⟩
 ·clear hE hS a w; rintro a w ⟨q55, rfl, hE, hS⟩
  refine W.ret ?_
  refine finG (fn := Try.f64) (rs := [.tmp 6]) (vs := [_]) hE rfl ⟨rfl, trivial⟩ ?_
  subst hr
  exact ⟨rfl, hS⟩
set_option maxHeartbeats 8000000 in
theorem MendcheckArcs_ok  {w : World} {s : Sg} {R : List HP} {x0 : MendGraph} {a0_0 : Option Addr} {c0_0 : Nat} {a0_1 : Option Addr} {c0_1 : Nat} {a0_2 : Option Addr} {c0_2 : Nat} {a0_3 : Option Addr} {c0_3 : Nat} {a0_4 : Option Addr} {c0_4 : Nat} {x1 : List MendArc} {a1 : Option Addr} {c1 : Nat} (hS : St w s (R)) (_h0_0 : Sl 1 (RI .i64) s a0_0 c0_0 x0.Ready) (_h0_1 : Sl 1 (RI .i64) s a0_1 c0_1 x0.Last) (_h0_2 : Sl 1 (RI .i64) s a0_2 c0_2 x0.Due) (_h0_3 : Sl 3 RMendArc s a0_3 c0_3 x0.Arcs) (_h0_4 : Sl 1 RMendChoice s a0_4 c0_4 x0.Choices) (h1 : Sl 3 RMendArc s a1 c1 x1) {r : Int} (hr : MendcheckArcs x0 x1 = r) :
  Calls Try.prog 95 [.agg [.slice a0_0 x0.Ready.length c0_0, .slice a0_1 x0.Last.length c0_1, .slice a0_2 x0.Due.length c0_2, .slice a0_3 x0.Arcs.length c0_3, .slice a0_4 x0.Choices.length c0_4].toArray, .slice a1 x1.length c1].toArray w (fun e w => e = .returned (.int .i64 r) ∧ St w s (R)) := by
 refine enter Try.func95 rfl rfl rfl fun a hE => ?_
 rw [MendcheckArcs] at hr
 refine W.seq (W.region ?_)
 refine WL.box hE hS (runs_plain rfl) rfl rfl rfl ?_; clear hE hS a w; intro b51 a w hE hS
 refine WL.vS hS hE (runs_plain rfl) (Gives.p hE rfl) rfl ?_; clear hE a; intro a hE
 refine WL.nil ?_
 refine W.seq ?_
 refine W.seq (W.region ?_)
 refine WL.vS hS hE (runs_plain rfl) (Gives.p hE rfl) rfl ?_; clear hE a; intro a hE
 refine WL.vS hS hE (runs_plain rfl) (Gives.len hE rfl sl97) rfl ?_; clear hE a; intro a hE
 refine WL.vS hS hE (runs_plain rfl) (Gives.p hE rfl) rfl ?_; clear hE a; intro a hE
 refine WL.nil ?_
 obtain ⟨q53, hq52, hr⟩ := bndS hr
 refine W.cut (fun a w => (.next ()) = q53 ∧ Rep a 44 [] ∧ St w s (pt b51 (.cells #[.slice a0_0 x0.Ready.length c0_0, .slice a0_1 x0.Last.length c0_1, .slice a0_2 x0.Due.length c0_2, .slice a0_3 x0.Arcs.length c0_3, .slice a0_4 x0.Choices.length c0_4] 100 (0, 0)) :: R)) ?_ ?_
 ·refine W.block ?_
  refine W.loop (fun m a w => ∃ (rest56 : List MendArc) (k54 : Nat), rest56.length = m ∧ x1.drop k54 = rest56 ∧ MendcheckArcs.loop1 x0 rest56 = q53 ∧ Rep a 44 [(2, .pointer (some ⟨b51, 0, none⟩)), (7, .slice a1 x1.length c1), (8, .int .i64 ((x1).length : Int)), (9, .int .i64 ((k54 : Nat) : Int))] ∧ St w s (pt b51 (.cells #[.slice a0_0 x0.Ready.length c0_0, .slice a0_1 x0.Last.length c0_1, .slice a0_2 x0.Due.length c0_2, .slice a0_3 x0.Arcs.length c0_3, .slice a0_4 x0.Choices.length c0_4] 100 (0, 0)) :: R)) (m := x1.length) ⟨x1, 0, rfl, rfl, hq52, hE.pick _ ⟨rfl, rfl, rfl, rfl, trivial⟩, hS⟩ ?_
  clear hE hS a w hq52; rintro m60 a w ⟨rest56, k54, rfl, hd57, hq52, hE, hS⟩
  refine W.gen fun K63 hK63 => ?_
  rcases rest56 with _ | ⟨x55, rest56⟩
  ·have hlt58 := drop_nil hd57
   refine W.seq (W.region ?_)
   refine WL.vS hS hE (runs_plain rfl) (Gives.p hE rfl) rfl ?_; clear hE a; intro a hE
   refine WL.nil ?_
   refine W.seq ?_
   refine W.condF hE rfl (decide_eq_false (by omega)) ?_
   subst hK63
   refine W.exit rfl ?_
   exact ⟨hq52, hE.pick _ trivial, hS⟩
  ·obtain ⟨hlt58, hx59, hd57⟩ := drop_cons hd57
   rw [MendcheckArcs.loop1] at hq52
   refine W.seq (W.region ?_)
   refine WL.vS hS hE (runs_plain rfl) (Gives.p hE rfl) rfl ?_; clear hE a; intro a hE
   refine WL.nil ?_
   refine W.seq ?_
   refine W.condT hE rfl (decide_eq_true (by omega)) ?_
   refine W.skip ?_
   refine W.seq ?_
   refine W.block ?_
   refine W.seq (W.region ?_)
   obtain ⟨cs64, hl65, hR66, hat67⟩ := h1.at hx59
   subst hR66
   refine WL.vS hS hE (runs_plain rfl) (Gives.idx hE k54 rfl rfl sl97 rfl hlt58 (h1.aok hlt58)) rfl ?_; clear hE a; intro a hE
   refine WL.vS hS hE (runs_plain rfl) (Gives.loadA hE rfl (fun w h => hat67 w _ h) ty144) rfl ?_; clear hE a; intro a hE
   refine WL.alloc hE hS (runs_plain rfl) zr144 rfl ?_; clear hE hS a w; intro b68 a w hE hS
   refine WL.storeI hE hS 0 rfl (MendArc.cells x55) (runs_plain rfl) rfl rfl rfl ty144 rfl rfl rfl rfl ?_; clear hE hS a w; intro a w hE hS
   refine WL.nil ?_
   refine W.block ?_
   refine W.seq ?_
   obtain ⟨q70, hq69, hq52⟩ := bndS hq52
   refine W.cut (fun a w => ∃ (q73 : Bool), q73 = q70 ∧ Rep a 44 [(2, .pointer (some ⟨b51, 0, none⟩)), (6, .pointer (some ⟨b68, 0, none⟩)), (7, .slice a1 x1.length c1), (8, .int .i64 ((x1).length : Int)), (9, .int .i64 ((k54 : Nat) : Int)), (13, .bool q73)] ∧ St w s (pt b68 (.cells (MendArc.cells x55).toArray 144 (0, 0)) :: pt b51 (.cells #[.slice a0_0 x0.Ready.length c0_0, .slice a0_1 x0.Last.length c0_1, .slice a0_2 x0.Due.length c0_2, .slice a0_3 x0.Arcs.length c0_3, .slice a0_4 x0.Choices.length c0_4] 100 (0, 0)) :: R)) ?_ ?_
   ·refine W.gen fun K74 hK74 => ?_
    refine W.region ?_
    refine WL.vS hS hE (runs_plain rfl) (Gives.fld hE rfl fl144_0) rfl ?_; clear hE a; intro a hE
    refine WL.vS hS hE (runs_plain rfl) (Gives.loadB hE 0 rfl rfl rfl ty3) rfl ?_; clear hE a; intro a hE
    refine WL.vS hS hE (runs_plain rfl) (Gives.fld hE rfl fl100_0) rfl ?_; clear hE a; intro a hE
    refine WL.vS hS hE (runs_plain rfl) (Gives.loadB hE 1 rfl rfl rfl ty29) rfl ?_; clear hE a; intro a hE
    refine WL.vS hS hE (runs_plain rfl) (Gives.len hE rfl sl29) rfl ?_; clear hE a; intro a hE
    refine WL.vS hS hE (runs_plain rfl) (Gives.p hE rfl) rfl ?_; clear hE a; intro a hE
    refine WL.fnq hE (Mendwithin_ok hS  rfl (r := Mendwithin x55.From 0 (w64 (((x0.Ready).length : Int) - 1)))) (runs_plain rfl) bd64 rfl rfl rfl ?_
    clear hE hS; rintro e w ⟨rfl, hS⟩; refine ⟨_, rfl, ?_⟩; clear a; intro a hE
    refine WL.vS hS hE (runs_plain rfl) (Gives.p hE rfl) rfl ?_; clear hE a; intro a hE
    refine WL.vS hS hE (runs_plain rfl) (Gives.p hE rfl) rfl ?_; clear hE a; intro a hE
    rcases Bool.eq_false_or_eq_true (!(Mendwithin x55.From 0 (w64 (((x0.Ready).length : Int) - 1)))) with hg75 | hg75
    ·replace hq69 := iteT hg75 hq69
     refine WL.no hE (runs_not hE rfl rfl rfl (by rw [hg75]; decide)) rfl ?_; clear hE a; intro a hE
     refine WL.no hE (runs_not hE rfl rfl rfl (by rw [hg75]; decide)) rfl ?_; clear hE a; intro a hE
     refine WL.no hE (runs_not hE rfl rfl rfl (by rw [hg75]; decide)) rfl ?_; clear hE a; intro a hE
     refine WL.no hE (runs_not hE rfl rfl rfl (by rw [hg75]; decide)) rfl ?_; clear hE a; intro a hE
     refine WL.no hE (runs_not hE rfl rfl rfl (by rw [hg75]; decide)) rfl ?_; clear hE a; intro a hE
     refine WL.no hE (runs_not hE rfl rfl rfl (by rw [hg75]; decide)) rfl ?_; clear hE a; intro a hE
     refine WL.no hE (runs_not hE rfl rfl rfl (by rw [hg75]; decide)) rfl ?_; clear hE a; intro a hE
     refine WL.no hE (runs_not hE rfl rfl rfl (by rw [hg75]; decide)) rfl ?_; clear hE a; intro a hE
     refine WL.vS hS hE (runs_plain rfl) (Gives.pickT hE rfl hg75 rfl) rfl ?_; clear hE a; intro a hE
     refine WL.vS hS hE (runs_plain rfl) (Gives.p hE rfl) rfl ?_; clear hE a; intro a hE
     refine WL.nil ?_
     subst hK74
     exact ⟨true, hq69, hE.pick _ ⟨rfl, rfl, rfl, rfl, rfl, rfl, trivial⟩, hS⟩
    ·replace hq69 := iteF hg75 hq69
     refine WL.vS hS hE (runs_if hE rfl rfl rfl hg75) (Gives.fld hE rfl fl144_1) rfl ?_; clear hE a; intro a hE
     refine WL.vS hS hE (runs_if hE rfl rfl rfl hg75) (Gives.loadB hE 0 rfl rfl rfl ty3) rfl ?_; clear hE a; intro a hE
     refine WL.vS hS hE (runs_if hE rfl rfl rfl hg75) (Gives.fld hE rfl fl100_0) rfl ?_; clear hE a; intro a hE
     refine WL.vS hS hE (runs_if hE rfl rfl rfl hg75) (Gives.loadB hE 1 rfl rfl rfl ty29) rfl ?_; clear hE a; intro a hE
     refine WL.vS hS hE (runs_if hE rfl rfl rfl hg75) (Gives.len hE rfl sl29) rfl ?_; clear hE a; intro a hE
     refine WL.vS hS hE (runs_if hE rfl rfl rfl hg75) (Gives.p hE rfl) rfl ?_; clear hE a; intro a hE
     refine WL.fnq hE (Mendwithin_ok hS  rfl (r := Mendwithin x55.To 0 (w64 (((x0.Ready).length : Int) - 1)))) (runs_if hE rfl rfl rfl hg75) bd64 rfl rfl rfl ?_
     clear hE hS; rintro e w ⟨rfl, hS⟩; refine ⟨_, rfl, ?_⟩; clear a; intro a hE
     refine WL.vS hS hE (runs_if hE rfl rfl rfl hg75) (Gives.p hE rfl) rfl ?_; clear hE a; intro a hE
     refine WL.vS hS hE (runs_plain rfl) (Gives.pickF hE rfl hg75 rfl) rfl ?_; clear hE a; intro a hE
     refine WL.vS hS hE (runs_plain rfl) (Gives.p hE rfl) rfl ?_; clear hE a; intro a hE
     refine WL.nil ?_
     subst hK74
     exact ⟨!(Mendwithin x55.To 0 (w64 (((x0.Ready).length : Int) - 1))), hq69, hE.pick _ ⟨rfl, rfl, rfl, rfl, rfl, rfl, trivial⟩, hS⟩
   ·clear hE hS a w; rintro a w ⟨q73, rfl, hE, hS⟩
    refine W.cond hE rfl (fun hc76 => ?_) (fun hc76 => ?_)
    ·replace hq52 := iteT hc76 hq52
     refine W.seq (W.region ?_)
     refine WL.vS hS hE (runs_plain rfl) (Gives.p hE rfl) rfl ?_; clear hE a; intro a hE
     refine WL.nil ?_
     refine W.ret ?_
     subst hK63
     rw [← hq52] at hr
     dsimp only at hr
     refine finG (fn := Try.f95) (rs := [.tmp 4]) (vs := [_]) hE rfl ⟨rfl, trivial⟩ ?_
     subst hr
     replace hS := hS.tail
     replace hS := hS.tail
     exact ⟨rfl, hS⟩
    ·replace hq52 := iteF hc76 hq52
     refine W.seq (W.region ?_)
     refine WL.vS hS hE (runs_plain rfl) (Gives.fld hE rfl fl144_0) rfl ?_; clear hE a; intro a hE
     refine WL.vS hS hE (runs_plain rfl) (Gives.loadB hE 0 rfl rfl rfl ty3) rfl ?_; clear hE a; intro a hE
     refine WL.vS hS hE (runs_plain rfl) (Gives.fld hE rfl fl144_1) rfl ?_; clear hE a; intro a hE
     refine WL.vS hS hE (runs_plain rfl) (Gives.loadB hE 0 rfl rfl rfl ty3) rfl ?_; clear hE a; intro a hE
     refine WL.vS hS hE (runs_plain rfl) (Gives.p hE rfl) rfl ?_; clear hE a; intro a hE
     refine WL.vS hS hE (runs_plain rfl) (Gives.p hE rfl) rfl ?_; clear hE a; intro a hE
     refine WL.nil ?_
     refine W.cond hE rfl (fun hc77 => ?_) (fun hc77 => ?_)
     ·replace hq52 := iteT hc77 hq52
      refine W.seq (W.region ?_)
      refine WL.vS hS hE (runs_plain rfl) (Gives.p hE rfl) rfl ?_; clear hE a; intro a hE
      refine WL.nil ?_
      refine W.ret ?_
      subst hK63
      rw [← hq52] at hr
      dsimp only at hr
      refine finG (fn := Try.f95) (rs := [.tmp 4]) (vs := [_]) hE rfl ⟨rfl, trivial⟩ ?_
      subst hr
      replace hS := hS.tail
      replace hS := hS.tail
      exact ⟨rfl, hS⟩
     ·replace hq52 := iteF hc77 hq52
      refine W.seq (W.region ?_)
      refine WL.vS hS hE (runs_plain rfl) (Gives.fld hE rfl fl144_2) rfl ?_; clear hE a; intro a hE
      refine WL.vS hS hE (runs_plain rfl) (Gives.loadB hE 0 rfl rfl rfl ty3) rfl ?_; clear hE a; intro a hE
      refine WL.fnq hE (Mendwithin_ok hS  rfl (r := Mendwithin x55.Len (-28800) 28800)) (runs_plain rfl) bd64 rfl rfl rfl ?_
      clear hE hS; rintro e w ⟨rfl, hS⟩; refine ⟨_, rfl, ?_⟩; clear a; intro a hE
      refine WL.vS hS hE (runs_plain rfl) (Gives.p hE rfl) rfl ?_; clear hE a; intro a hE
      refine WL.vS hS hE (runs_plain rfl) (Gives.p hE rfl) rfl ?_; clear hE a; intro a hE
      refine WL.nil ?_
      refine W.cond hE rfl (fun hc78 => ?_) (fun hc78 => ?_)
      ·replace hq52 := iteT hc78 hq52
       refine W.seq (W.region ?_)
       refine WL.vS hS hE (runs_plain rfl) (Gives.p hE rfl) rfl ?_; clear hE a; intro a hE
       refine WL.nil ?_
       refine W.ret ?_
       subst hK63
       rw [← hq52] at hr
       dsimp only at hr
       refine finG (fn := Try.f95) (rs := [.tmp 4]) (vs := [_]) hE rfl ⟨rfl, trivial⟩ ?_
       subst hr
       replace hS := hS.tail
       replace hS := hS.tail
       exact ⟨rfl, hS⟩
      ·replace hq52 := iteF hc78 hq52
       refine W.skip ?_
       refine W.region ?_
       refine WL.vS hS hE (runs_plain rfl) (Gives.inc hE rfl (by have := h1.small; omega)) rfl ?_; clear hE a; intro a hE
       refine WL.vS hS hE (runs_plain rfl) (Gives.p hE rfl) rfl ?_; clear hE a; intro a hE
       refine WL.nil ?_
       replace hS := hS.tail
       subst hK63
       exact ⟨rest56.length, Nat.lt_succ_self _, rest56, k54 + 1, rfl, hd57, hq52, hE.pick _ ⟨rfl, rfl, rfl, rfl, trivial⟩, hS⟩
 ·clear hE hS a w; rintro a w ⟨rfl, hE, hS⟩
  dsimp only at hr
  refine W.seq (W.region ?_)
  refine WL.vS hS hE (runs_plain rfl) (Gives.p hE rfl) rfl ?_; clear hE a; intro a hE
  refine WL.nil ?_
  refine W.ret ?_
  refine finG (fn := Try.f95) (rs := [.tmp 4]) (vs := [_]) hE rfl ⟨rfl, trivial⟩ ?_
  subst hr
  replace hS := hS.tail
  exact ⟨rfl, hS⟩
set_option maxHeartbeats 8000000 in
theorem MendCheckGraph_ok  {w : World} {s : Sg} {R : List HP} {x0 : MendGraph} {a0_0 : Option Addr} {c0_0 : Nat} {a0_1 : Option Addr} {c0_1 : Nat} {a0_2 : Option Addr} {c0_2 : Nat} {a0_3 : Option Addr} {c0_3 : Nat} {a0_4 : Option Addr} {c0_4 : Nat} (hS : St w s (R)) (h0_0 : Sl 1 (RI .i64) s a0_0 c0_0 x0.Ready) (h0_1 : Sl 1 (RI .i64) s a0_1 c0_1 x0.Last) (h0_2 : Sl 1 (RI .i64) s a0_2 c0_2 x0.Due) (h0_3 : Sl 3 RMendArc s a0_3 c0_3 x0.Arcs) (h0_4 : Sl 1 RMendChoice s a0_4 c0_4 x0.Choices) {r : Int} (hr : MendCheckGraph x0 = some r) :
  Calls Try.prog 92 [.agg [.slice a0_0 x0.Ready.length c0_0, .slice a0_1 x0.Last.length c0_1, .slice a0_2 x0.Due.length c0_2, .slice a0_3 x0.Arcs.length c0_3, .slice a0_4 x0.Choices.length c0_4].toArray].toArray w (fun e w => e = .returned (.int .i64 r) ∧ St w s (R)) := by
 refine enter Try.func92 rfl rfl rfl fun a hE => ?_
 rw [MendCheckGraph] at hr
 refine W.seq (W.region ?_)
 refine WL.box hE hS (runs_plain rfl) rfl rfl rfl ?_; clear hE hS a w; intro b51 a w hE hS
 refine WL.vS hS hE (runs_plain rfl) (Gives.p hE rfl) rfl ?_; clear hE a; intro a hE
 refine WL.nil ?_
 refine W.seq ?_
 refine W.block ?_
 refine W.seq ?_
 obtain ⟨q53, hq52, hr⟩ := bndS hr
 refine W.cut (fun a w => ∃ (q56 : Bool), q56 = q53 ∧ Rep a 112 [(1, .pointer (some ⟨b51, 0, none⟩)), (10, .bool q56)] ∧ St w s (pt b51 (.cells #[.slice a0_0 x0.Ready.length c0_0, .slice a0_1 x0.Last.length c0_1, .slice a0_2 x0.Due.length c0_2, .slice a0_3 x0.Arcs.length c0_3, .slice a0_4 x0.Choices.length c0_4] 100 (0, 0)) :: R)) ?_ ?_
 ·refine W.gen fun K57 hK57 => ?_
  refine W.region ?_
  refine WL.vS hS hE (runs_plain rfl) (Gives.fld hE rfl fl100_0) rfl ?_; clear hE a; intro a hE
  refine WL.vS hS hE (runs_plain rfl) (Gives.loadB hE 0 rfl rfl rfl ty29) rfl ?_; clear hE a; intro a hE
  refine WL.vS hS hE (runs_plain rfl) (Gives.len hE rfl sl29) rfl ?_; clear hE a; intro a hE
  refine WL.vS hS hE (runs_plain rfl) (Gives.p hE rfl) rfl ?_; clear hE a; intro a hE
  refine WL.vS hS hE (runs_plain rfl) (Gives.p hE rfl) rfl ?_; clear hE a; intro a hE
  rcases Bool.eq_false_or_eq_true (decide (((x0.Ready).length : Int) > 24)) with hg58 | hg58
  ·replace hq52 := iteT hg58 hq52
   refine WL.no hE (runs_not hE rfl rfl rfl (by rw [hg58]; decide)) rfl ?_; clear hE a; intro a hE
   refine WL.no hE (runs_not hE rfl rfl rfl (by rw [hg58]; decide)) rfl ?_; clear hE a; intro a hE
   refine WL.no hE (runs_not hE rfl rfl rfl (by rw [hg58]; decide)) rfl ?_; clear hE a; intro a hE
   refine WL.no hE (runs_not hE rfl rfl rfl (by rw [hg58]; decide)) rfl ?_; clear hE a; intro a hE
   refine WL.vS hS hE (runs_plain rfl) (Gives.pickT hE rfl hg58 rfl) rfl ?_; clear hE a; intro a hE
   refine WL.vS hS hE (runs_plain rfl) (Gives.p hE rfl) rfl ?_; clear hE a; intro a hE
   refine WL.no hE (runs_not hE rfl rfl rfl (by decide)) rfl ?_; clear hE a; intro a hE
   refine WL.no hE (runs_not hE rfl rfl rfl (by decide)) rfl ?_; clear hE a; intro a hE
   refine WL.no hE (runs_not hE rfl rfl rfl (by decide)) rfl ?_; clear hE a; intro a hE
   refine WL.no hE (runs_not hE rfl rfl rfl (by decide)) rfl ?_; clear hE a; intro a hE
   refine WL.vS hS hE (runs_plain rfl) (Gives.pickT hE rfl rfl rfl) rfl ?_; clear hE a; intro a hE
   refine WL.vS hS hE (runs_plain rfl) (Gives.p hE rfl) rfl ?_; clear hE a; intro a hE
   refine WL.nil ?_
   subst hK57
   exact ⟨true, hq52, hE.pick _ ⟨rfl, rfl, trivial⟩, hS⟩
  ·replace hq52 := iteF hg58 hq52
   refine WL.vS hS hE (runs_if hE rfl rfl rfl hg58) (Gives.fld hE rfl fl100_3) rfl ?_; clear hE a; intro a hE
   refine WL.vS hS hE (runs_if hE rfl rfl rfl hg58) (Gives.loadB hE 0 rfl rfl rfl ty97) rfl ?_; clear hE a; intro a hE
   refine WL.vS hS hE (runs_if hE rfl rfl rfl hg58) (Gives.len hE rfl sl97) rfl ?_; clear hE a; intro a hE
   refine WL.vS hS hE (runs_if hE rfl rfl rfl hg58) (Gives.p hE rfl) rfl ?_; clear hE a; intro a hE
   refine WL.vS hS hE (runs_plain rfl) (Gives.pickF hE rfl hg58 rfl) rfl ?_; clear hE a; intro a hE
   refine WL.vS hS hE (runs_plain rfl) (Gives.p hE rfl) rfl ?_; clear hE a; intro a hE
   rcases Bool.eq_false_or_eq_true (decide (((x0.Arcs).length : Int) > 250)) with hg59 | hg59
   ·replace hq52 := iteT hg59 hq52
    refine WL.no hE (runs_not hE rfl rfl rfl (by rw [hg59]; decide)) rfl ?_; clear hE a; intro a hE
    refine WL.no hE (runs_not hE rfl rfl rfl (by rw [hg59]; decide)) rfl ?_; clear hE a; intro a hE
    refine WL.no hE (runs_not hE rfl rfl rfl (by rw [hg59]; decide)) rfl ?_; clear hE a; intro a hE
    refine WL.no hE (runs_not hE rfl rfl rfl (by rw [hg59]; decide)) rfl ?_; clear hE a; intro a hE
    refine WL.vS hS hE (runs_plain rfl) (Gives.pickT hE rfl hg59 rfl) rfl ?_; clear hE a; intro a hE
    refine WL.vS hS hE (runs_plain rfl) (Gives.p hE rfl) rfl ?_; clear hE a; intro a hE
    refine WL.nil ?_
    subst hK57
    exact ⟨true, hq52, hE.pick _ ⟨rfl, rfl, trivial⟩, hS⟩
   ·replace hq52 := iteF hg59 hq52
    refine WL.vS hS hE (runs_if hE rfl rfl rfl hg59) (Gives.fld hE rfl fl100_4) rfl ?_; clear hE a; intro a hE
    refine WL.vS hS hE (runs_if hE rfl rfl rfl hg59) (Gives.loadB hE 0 rfl rfl rfl ty98) rfl ?_; clear hE a; intro a hE
    refine WL.vS hS hE (runs_if hE rfl rfl rfl hg59) (Gives.len hE rfl sl98) rfl ?_; clear hE a; intro a hE
    refine WL.vS hS hE (runs_if hE rfl rfl rfl hg59) (Gives.p hE rfl) rfl ?_; clear hE a; intro a hE
    refine WL.vS hS hE (runs_plain rfl) (Gives.pickF hE rfl hg59 rfl) rfl ?_; clear hE a; intro a hE
    refine WL.vS hS hE (runs_plain rfl) (Gives.p hE rfl) rfl ?_; clear hE a; intro a hE
    refine WL.nil ?_
    subst hK57
    exact ⟨decide (((x0.Choices).length : Int) > 300), hq52, hE.pick _ ⟨rfl, rfl, trivial⟩, hS⟩
 ·clear hE hS a w; rintro a w ⟨q56, rfl, hE, hS⟩
  refine W.cond hE rfl (fun hc60 => ?_) (fun hc60 => ?_)
  ·replace hr := iteT hc60 hr
   refine W.seq (W.region ?_)
   refine WL.vS hS hE (runs_plain rfl) (Gives.p hE rfl) rfl ?_; clear hE a; intro a hE
   refine WL.nil ?_
   refine W.ret ?_
   refine finG (fn := Try.f92) (rs := [.tmp 2]) (vs := [_]) hE rfl ⟨rfl, trivial⟩ ?_
   obtain rfl := Option.some.inj hr
   replace hS := hS.tail
   exact ⟨rfl, hS⟩
  ·replace hr := iteF hc60 hr
   refine W.seq ?_
   obtain ⟨q62, hq61, hr⟩ := bndS hr
   refine W.cut (fun a w => ∃ (q65 : Bool), q65 = q62 ∧ Rep a 112 [(1, .pointer (some ⟨b51, 0, none⟩)), (27, .bool q65)] ∧ St w s (pt b51 (.cells #[.slice a0_0 x0.Ready.length c0_0, .slice a0_1 x0.Last.length c0_1, .slice a0_2 x0.Due.length c0_2, .slice a0_3 x0.Arcs.length c0_3, .slice a0_4 x0.Choices.length c0_4] 100 (0, 0)) :: R)) ?_ ?_
   ·refine W.gen fun K66 hK66 => ?_
    refine W.region ?_
    refine WL.vS hS hE (runs_plain rfl) (Gives.fld hE rfl fl100_1) rfl ?_; clear hE a; intro a hE
    refine WL.vS hS hE (runs_plain rfl) (Gives.loadB hE 0 rfl rfl rfl ty29) rfl ?_; clear hE a; intro a hE
    refine WL.vS hS hE (runs_plain rfl) (Gives.len hE rfl sl29) rfl ?_; clear hE a; intro a hE
    refine WL.vS hS hE (runs_plain rfl) (Gives.fld hE rfl fl100_0) rfl ?_; clear hE a; intro a hE
    refine WL.vS hS hE (runs_plain rfl) (Gives.loadB hE 0 rfl rfl rfl ty29) rfl ?_; clear hE a; intro a hE
    refine WL.vS hS hE (runs_plain rfl) (Gives.len hE rfl sl29) rfl ?_; clear hE a; intro a hE
    refine WL.vS hS hE (runs_plain rfl) (Gives.p hE rfl) rfl ?_; clear hE a; intro a hE
    refine WL.vS hS hE (runs_plain rfl) (Gives.p hE rfl) rfl ?_; clear hE a; intro a hE
    rcases Bool.eq_false_or_eq_true (((x0.Last).length : Int) != ((x0.Ready).length : Int)) with hg67 | hg67
    ·replace hq61 := iteT hg67 hq61
     refine WL.no hE (runs_not hE rfl rfl rfl (by rw [hg67]; decide)) rfl ?_; clear hE a; intro a hE
     refine WL.no hE (runs_not hE rfl rfl rfl (by rw [hg67]; decide)) rfl ?_; clear hE a; intro a hE
     refine WL.no hE (runs_not hE rfl rfl rfl (by rw [hg67]; decide)) rfl ?_; clear hE a; intro a hE
     refine WL.no hE (runs_not hE rfl rfl rfl (by rw [hg67]; decide)) rfl ?_; clear hE a; intro a hE
     refine WL.no hE (runs_not hE rfl rfl rfl (by rw [hg67]; decide)) rfl ?_; clear hE a; intro a hE
     refine WL.no hE (runs_not hE rfl rfl rfl (by rw [hg67]; decide)) rfl ?_; clear hE a; intro a hE
     refine WL.no hE (runs_not hE rfl rfl rfl (by rw [hg67]; decide)) rfl ?_; clear hE a; intro a hE
     refine WL.vS hS hE (runs_plain rfl) (Gives.pickT hE rfl hg67 rfl) rfl ?_; clear hE a; intro a hE
     refine WL.vS hS hE (runs_plain rfl) (Gives.p hE rfl) rfl ?_; clear hE a; intro a hE
     refine WL.nil ?_
     subst hK66
     exact ⟨true, hq61, hE.pick _ ⟨rfl, rfl, trivial⟩, hS⟩
    ·replace hq61 := iteF hg67 hq61
     refine WL.vS hS hE (runs_if hE rfl rfl rfl hg67) (Gives.fld hE rfl fl100_2) rfl ?_; clear hE a; intro a hE
     refine WL.vS hS hE (runs_if hE rfl rfl rfl hg67) (Gives.loadB hE 0 rfl rfl rfl ty29) rfl ?_; clear hE a; intro a hE
     refine WL.vS hS hE (runs_if hE rfl rfl rfl hg67) (Gives.len hE rfl sl29) rfl ?_; clear hE a; intro a hE
     refine WL.vS hS hE (runs_if hE rfl rfl rfl hg67) (Gives.fld hE rfl fl100_0) rfl ?_; clear hE a; intro a hE
     refine WL.vS hS hE (runs_if hE rfl rfl rfl hg67) (Gives.loadB hE 0 rfl rfl rfl ty29) rfl ?_; clear hE a; intro a hE
     refine WL.vS hS hE (runs_if hE rfl rfl rfl hg67) (Gives.len hE rfl sl29) rfl ?_; clear hE a; intro a hE
     refine WL.vS hS hE (runs_if hE rfl rfl rfl hg67) (Gives.p hE rfl) rfl ?_; clear hE a; intro a hE
     refine WL.vS hS hE (runs_plain rfl) (Gives.pickF hE rfl hg67 rfl) rfl ?_; clear hE a; intro a hE
     refine WL.vS hS hE (runs_plain rfl) (Gives.p hE rfl) rfl ?_; clear hE a; intro a hE
     refine WL.nil ?_
     subst hK66
     exact ⟨(((x0.Due).length : Int) != ((x0.Ready).length : Int)), hq61, hE.pick _ ⟨rfl, rfl, trivial⟩, hS⟩
   ·clear hE hS a w; rintro a w ⟨q65, rfl, hE, hS⟩
    refine W.cond hE rfl (fun hc68 => ?_) (fun hc68 => ?_)
    ·replace hr := iteT hc68 hr
     refine W.seq (W.region ?_)
     refine WL.vS hS hE (runs_plain rfl) (Gives.p hE rfl) rfl ?_; clear hE a; intro a hE
     refine WL.nil ?_
     refine W.ret ?_
     refine finG (fn := Try.f92) (rs := [.tmp 2]) (vs := [_]) hE rfl ⟨rfl, trivial⟩ ?_
     obtain rfl := Option.some.inj hr
     replace hS := hS.tail
     exact ⟨rfl, hS⟩
    ·replace hr := iteF hc68 hr
     refine W.skip ?_
     refine W.seq ?_
     refine W.seq (W.region ?_)
     refine WL.vS hS hE (runs_plain rfl) (Gives.fld hE rfl fl100_0) rfl ?_; clear hE a; intro a hE
     refine WL.vS hS hE (runs_plain rfl) (Gives.loadB hE 0 rfl rfl rfl ty29) rfl ?_; clear hE a; intro a hE
     refine WL.vS hS hE (runs_plain rfl) (Gives.len hE rfl sl29) rfl ?_; clear hE a; intro a hE
     refine WL.vS hS hE (runs_plain rfl) (Gives.p hE rfl) rfl ?_; clear hE a; intro a hE
     refine WL.nil ?_
     obtain ⟨q70, hq69, hr⟩ := bindS hr
     refine W.cut (fun a w => (.next ()) = q70 ∧ Rep a 112 [(1, .pointer (some ⟨b51, 0, none⟩))] ∧ St w s (pt b51 (.cells #[.slice a0_0 x0.Ready.length c0_0, .slice a0_1 x0.Last.length c0_1, .slice a0_2 x0.Due.length c0_2, .slice a0_3 x0.Arcs.length c0_3, .slice a0_4 x0.Choices.length c0_4] 100 (0, 0)) :: R)) ?_ ?_
     ·refine W.block ?_
      refine W.loop (fun m a w => ∃ (rest73 : List Int) (k71 : Nat), rest73.length = m ∧ x0.Ready.drop k71 = rest73 ∧ MendCheckGraph.loop1 x0 rest73 k71 = some q70 ∧ Rep a 112 [(1, .pointer (some ⟨b51, 0, none⟩)), (46, .int .i64 ((x0.Ready).length : Int)), (47, .int .i64 ((k71 : Nat) : Int))] ∧ St w s (pt b51 (.cells #[.slice a0_0 x0.Ready.length c0_0, .slice a0_1 x0.Last.length c0_1, .slice a0_2 x0.Due.length c0_2, .slice a0_3 x0.Arcs.length c0_3, .slice a0_4 x0.Choices.length c0_4] 100 (0, 0)) :: R)) (m := x0.Ready.length) ⟨x0.Ready, 0, rfl, rfl, hq69, hE.pick _ ⟨rfl, rfl, rfl, trivial⟩, hS⟩ ?_
      clear hE hS a w hq69; rintro m77 a w ⟨rest73, k71, rfl, hd74, hq69, hE, hS⟩
      refine W.gen fun K80 hK80 => ?_
      rcases rest73 with _ | ⟨x72, rest73⟩
      ·have hlt75 := drop_nil hd74
       refine W.seq (W.region ?_)
       refine WL.vS hS hE (runs_plain rfl) (Gives.p hE rfl) rfl ?_; clear hE a; intro a hE
       refine WL.nil ?_
       refine W.seq ?_
       refine W.condF hE rfl (decide_eq_false (by omega)) ?_
       subst hK80
       refine W.exit rfl ?_
       exact ⟨Option.some.inj hq69, hE.pick _ ⟨rfl, trivial⟩, hS⟩
      ·obtain ⟨hlt75, hx76, hd74⟩ := drop_cons hd74
       rw [MendCheckGraph.loop1] at hq69
       refine W.seq (W.region ?_)
       refine WL.vS hS hE (runs_plain rfl) (Gives.p hE rfl) rfl ?_; clear hE a; intro a hE
       refine WL.nil ?_
       refine W.seq ?_
       refine W.condT hE rfl (decide_eq_true (by omega)) ?_
       refine W.skip ?_
       refine W.seq ?_
       refine W.block ?_
       refine W.seq (W.region ?_)
       refine WL.vS hS hE (runs_plain rfl) (Gives.p hE rfl) rfl ?_; clear hE a; intro a hE
       refine WL.vS hS hE (runs_plain rfl) (Gives.p hE rfl) rfl ?_; clear hE a; intro a hE
       refine WL.nil ?_
       refine W.seq ?_
       obtain ⟨q82, hq81, hq69⟩ := bindS hq69
       refine W.cut (fun a w => ∃ (q85 : Bool), q85 = q82 ∧ Rep a 112 [(1, .pointer (some ⟨b51, 0, none⟩)), (46, .int .i64 ((x0.Ready).length : Int)), (47, .int .i64 ((k71 : Nat) : Int)), (74, .bool q85)] ∧ St w s (pt b51 (.cells #[.slice a0_0 x0.Ready.length c0_0, .slice a0_1 x0.Last.length c0_1, .slice a0_2 x0.Due.length c0_2, .slice a0_3 x0.Arcs.length c0_3, .slice a0_4 x0.Choices.length c0_4] 100 (0, 0)) :: R)) ?_ ?_
       ·refine W.gen fun K86 hK86 => ?_
        refine W.region ?_
        refine WL.vS hS hE (runs_plain rfl) (Gives.fld hE rfl fl100_0) rfl ?_; clear hE a; intro a hE
        refine WL.vS hS hE (runs_plain rfl) (Gives.loadB hE 0 rfl rfl rfl ty29) rfl ?_; clear hE a; intro a hE
        refine WL.vS hS hE (runs_plain rfl) (Gives.p hE rfl) rfl ?_; clear hE a; intro a hE
        obtain ⟨cs87, hl88, hR89, hat90⟩ := h0_0.at hx76
        subst hR89
        refine WL.vS hS hE (runs_plain rfl) (Gives.idx hE k71 rfl rfl sl29 rfl hlt75 (h0_0.aok hlt75)) rfl ?_; clear hE a; intro a hE
        refine WL.vS hS hE (runs_plain rfl) (Gives.load1 hE rfl (fun w h => hat90 w _ h) ty3) rfl ?_; clear hE a; intro a hE
        refine WL.fnq hE (Mendwithin_ok hS  rfl (r := Mendwithin x72 0 28800)) (runs_plain rfl) bd64 rfl rfl rfl ?_
        clear hE hS; rintro e w ⟨rfl, hS⟩; refine ⟨_, rfl, ?_⟩; clear a; intro a hE
        refine WL.vS hS hE (runs_plain rfl) (Gives.p hE rfl) rfl ?_; clear hE a; intro a hE
        refine WL.vS hS hE (runs_plain rfl) (Gives.p hE rfl) rfl ?_; clear hE a; intro a hE
        rcases Bool.eq_false_or_eq_true (!(Mendwithin x72 0 28800)) with hg91 | hg91
        ·replace hq81 := iteT hg91 hq81
         refine WL.no hE (runs_not hE rfl rfl rfl (by rw [hg91]; decide)) rfl ?_; clear hE a; intro a hE
         refine WL.no hE (runs_not hE rfl rfl rfl (by rw [hg91]; decide)) rfl ?_; clear hE a; intro a hE
         refine WL.no hE (runs_not hE rfl rfl rfl (by rw [hg91]; decide)) rfl ?_; clear hE a; intro a hE
         refine WL.no hE (runs_not hE rfl rfl rfl (by rw [hg91]; decide)) rfl ?_; clear hE a; intro a hE
         refine WL.no hE (runs_not hE rfl rfl rfl (by rw [hg91]; decide)) rfl ?_; clear hE a; intro a hE
         refine WL.no hE (runs_not hE rfl rfl rfl (by rw [hg91]; decide)) rfl ?_; clear hE a; intro a hE
         refine WL.no hE (runs_not hE rfl rfl rfl (by rw [hg91]; decide)) rfl ?_; clear hE a; intro a hE
         refine WL.vS hS hE (runs_plain rfl) (Gives.pickT hE rfl hg91 rfl) rfl ?_; clear hE a; intro a hE
         refine WL.vS hS hE (runs_plain rfl) (Gives.p hE rfl) rfl ?_; clear hE a; intro a hE
         refine WL.no hE (runs_not hE rfl rfl rfl (by decide)) rfl ?_; clear hE a; intro a hE
         refine WL.no hE (runs_not hE rfl rfl rfl (by decide)) rfl ?_; clear hE a; intro a hE
         refine WL.no hE (runs_not hE rfl rfl rfl (by decide)) rfl ?_; clear hE a; intro a hE
         refine WL.no hE (runs_not hE rfl rfl rfl (by decide)) rfl ?_; clear hE a; intro a hE
         refine WL.no hE (runs_not hE rfl rfl rfl (by decide)) rfl ?_; clear hE a; intro a hE
         refine WL.no hE (runs_not hE rfl rfl rfl (by decide)) rfl ?_; clear hE a; intro a hE
         refine WL.no hE (runs_not hE rfl rfl rfl (by decide)) rfl ?_; clear hE a; intro a hE
         refine WL.vS hS hE (runs_plain rfl) (Gives.pickT hE rfl rfl rfl) rfl ?_; clear hE a; intro a hE
         refine WL.nil ?_
         subst hK86
         exact ⟨true, Option.some.inj hq81, hE.pick _ ⟨rfl, rfl, rfl, rfl, trivial⟩, hS⟩
        ·replace hq81 := iteF hg91 hq81
         refine WL.vS hS hE (runs_if hE rfl rfl rfl hg91) (Gives.fld hE rfl fl100_1) rfl ?_; clear hE a; intro a hE
         refine WL.vS hS hE (runs_if hE rfl rfl rfl hg91) (Gives.loadB hE 0 rfl rfl rfl ty29) rfl ?_; clear hE a; intro a hE
         refine WL.vS hS hE (runs_if hE rfl rfl rfl hg91) (Gives.p hE rfl) rfl ?_; clear hE a; intro a hE
         obtain ⟨x92, hx93, hq81⟩ := bindS hq81
         obtain ⟨hi94, hlt95, hy96⟩ := gx_some hx93
         obtain ⟨cs97, hl98, hR99, hat100⟩ := h0_1.at hy96
         subst hR99
         refine WL.vS hS hE (runs_if hE rfl rfl rfl hg91) (Gives.idx hE (((k71 : Nat) : Int)).toNat rfl rfl sl29 hi94 hlt95 (h0_1.aok hlt95)) rfl ?_; clear hE a; intro a hE
         refine WL.vS hS hE (runs_if hE rfl rfl rfl hg91) (Gives.load1 hE rfl (fun w h => hat100 w _ h) ty3) rfl ?_; clear hE a; intro a hE
         refine WL.fnq hE (Mendwithin_ok hS  rfl (r := Mendwithin x92 (-1) 28800)) (runs_if hE rfl rfl rfl hg91) bd64 rfl rfl rfl ?_
         clear hE hS; rintro e w ⟨rfl, hS⟩; refine ⟨_, rfl, ?_⟩; clear a; intro a hE
         refine WL.vS hS hE (runs_if hE rfl rfl rfl hg91) (Gives.p hE rfl) rfl ?_; clear hE a; intro a hE
         refine WL.vS hS hE (runs_plain rfl) (Gives.pickF hE rfl hg91 rfl) rfl ?_; clear hE a; intro a hE
         refine WL.vS hS hE (runs_plain rfl) (Gives.p hE rfl) rfl ?_; clear hE a; intro a hE
         rcases Bool.eq_false_or_eq_true (!(Mendwithin x92 (-1) 28800)) with hg101 | hg101
         ·replace hq81 := iteT hg101 hq81
          refine WL.no hE (runs_not hE rfl rfl rfl (by rw [hg101]; decide)) rfl ?_; clear hE a; intro a hE
          refine WL.no hE (runs_not hE rfl rfl rfl (by rw [hg101]; decide)) rfl ?_; clear hE a; intro a hE
          refine WL.no hE (runs_not hE rfl rfl rfl (by rw [hg101]; decide)) rfl ?_; clear hE a; intro a hE
          refine WL.no hE (runs_not hE rfl rfl rfl (by rw [hg101]; decide)) rfl ?_; clear hE a; intro a hE
          refine WL.no hE (runs_not hE rfl rfl rfl (by rw [hg101]; decide)) rfl ?_; clear hE a; intro a hE
          refine WL.no hE (runs_not hE rfl rfl rfl (by rw [hg101]; decide)) rfl ?_; clear hE a; intro a hE
          refine WL.no hE (runs_not hE rfl rfl rfl (by rw [hg101]; decide)) rfl ?_; clear hE a; intro a hE
          refine WL.vS hS hE (runs_plain rfl) (Gives.pickT hE rfl hg101 rfl) rfl ?_; clear hE a; intro a hE
          refine WL.nil ?_
          subst hK86
          exact ⟨true, Option.some.inj hq81, hE.pick _ ⟨rfl, rfl, rfl, rfl, trivial⟩, hS⟩
         ·replace hq81 := iteF hg101 hq81
          refine WL.vS hS hE (runs_if hE rfl rfl rfl hg101) (Gives.fld hE rfl fl100_2) rfl ?_; clear hE a; intro a hE
          refine WL.vS hS hE (runs_if hE rfl rfl rfl hg101) (Gives.loadB hE 0 rfl rfl rfl ty29) rfl ?_; clear hE a; intro a hE
          refine WL.vS hS hE (runs_if hE rfl rfl rfl hg101) (Gives.p hE rfl) rfl ?_; clear hE a; intro a hE
          obtain ⟨x102, hx103, hq81⟩ := bindS hq81
          obtain ⟨hi104, hlt105, hy106⟩ := gx_some hx103
          obtain ⟨cs107, hl108, hR109, hat110⟩ := h0_2.at hy106
          subst hR109
          refine WL.vS hS hE (runs_if hE rfl rfl rfl hg101) (Gives.idx hE (((k71 : Nat) : Int)).toNat rfl rfl sl29 hi104 hlt105 (h0_2.aok hlt105)) rfl ?_; clear hE a; intro a hE
          refine WL.vS hS hE (runs_if hE rfl rfl rfl hg101) (Gives.load1 hE rfl (fun w h => hat110 w _ h) ty3) rfl ?_; clear hE a; intro a hE
          refine WL.fnq hE (Mendwithin_ok hS  rfl (r := Mendwithin x102 (-1) 28800)) (runs_if hE rfl rfl rfl hg101) bd64 rfl rfl rfl ?_
          clear hE hS; rintro e w ⟨rfl, hS⟩; refine ⟨_, rfl, ?_⟩; clear a; intro a hE
          refine WL.vS hS hE (runs_if hE rfl rfl rfl hg101) (Gives.p hE rfl) rfl ?_; clear hE a; intro a hE
          refine WL.vS hS hE (runs_plain rfl) (Gives.pickF hE rfl hg101 rfl) rfl ?_; clear hE a; intro a hE
          refine WL.nil ?_
          subst hK86
          exact ⟨!(Mendwithin x102 (-1) 28800), Option.some.inj hq81, hE.pick _ ⟨rfl, rfl, rfl, rfl, trivial⟩, hS⟩
       ·clear hE hS a w; rintro a w ⟨q85, rfl, hE, hS⟩
        refine W.cond hE rfl (fun hc111 => ?_) (fun hc111 => ?_)
        ·replace hq69 := iteT hc111 hq69
         refine W.seq (W.region ?_)
         refine WL.vS hS hE (runs_plain rfl) (Gives.p hE rfl) rfl ?_; clear hE a; intro a hE
         refine WL.nil ?_
         refine W.ret ?_
         subst hK80
         rw [← Option.some.inj hq69] at hr
         dsimp only at hr
         refine finG (fn := Try.f92) (rs := [.tmp 2]) (vs := [_]) hE rfl ⟨rfl, trivial⟩ ?_
         obtain rfl := Option.some.inj hr
         replace hS := hS.tail
         exact ⟨rfl, hS⟩
        ·replace hq69 := iteF hc111 hq69
         refine W.skip ?_
         refine W.region ?_
         refine WL.vS hS hE (runs_plain rfl) (Gives.inc hE rfl (by have := h0_0.small; omega)) rfl ?_; clear hE a; intro a hE
         refine WL.vS hS hE (runs_plain rfl) (Gives.p hE rfl) rfl ?_; clear hE a; intro a hE
         refine WL.nil ?_
         subst hK80
         exact ⟨rest73.length, Nat.lt_succ_self _, rest73, k71 + 1, rfl, hd74, hq69, hE.pick _ ⟨rfl, rfl, rfl, trivial⟩, hS⟩
     ·clear hE hS a w; rintro a w ⟨rfl, hE, hS⟩
      dsimp only at hr
      refine W.seq ?_
      refine W.seq (W.region ?_)
      refine WL.vS hS hE (runs_plain rfl) (Gives.loadBA hE 0 rfl rfl ty100) rfl ?_; clear hE a; intro a hE
      refine WL.vS hS hE (runs_plain rfl) (Gives.fld hE rfl fl100_3) rfl ?_; clear hE a; intro a hE
      refine WL.vS hS hE (runs_plain rfl) (Gives.loadB hE 0 rfl rfl rfl ty97) rfl ?_; clear hE a; intro a hE
      refine WL.fnq hE (MendcheckArcs_ok hS h0_0 h0_1 h0_2 h0_3 h0_4 h0_3 rfl (r := MendcheckArcs x0 x0.Arcs)) (runs_plain rfl) bd95 rfl rfl rfl ?_
      clear hE hS; rintro e w ⟨rfl, hS⟩; refine ⟨_, rfl, ?_⟩; clear a; intro a hE
      refine WL.vS hS hE (runs_plain rfl) (Gives.p hE rfl) rfl ?_; clear hE a; intro a hE
      refine WL.nil ?_
      refine W.seq (W.region ?_)
      refine WL.vS hS hE (runs_plain rfl) (Gives.p hE rfl) rfl ?_; clear hE a; intro a hE
      refine WL.vS hS hE (runs_plain rfl) (Gives.p hE rfl) rfl ?_; clear hE a; intro a hE
      refine WL.nil ?_
      refine W.cond hE rfl (fun hc112 => ?_) (fun hc112 => ?_)
      ·replace hr := iteT hc112 hr
       refine W.seq (W.region ?_)
       refine WL.vS hS hE (runs_plain rfl) (Gives.p hE rfl) rfl ?_; clear hE a; intro a hE
       refine WL.vS hS hE (runs_plain rfl) (Gives.p hE rfl) rfl ?_; clear hE a; intro a hE
       refine WL.nil ?_
       refine W.ret ?_
       refine finG (fn := Try.f92) (rs := [.tmp 2]) (vs := [_]) hE rfl ⟨rfl, trivial⟩ ?_
       obtain rfl := Option.some.inj hr
       replace hS := hS.tail
       exact ⟨rfl, hS⟩
      ·replace hr := iteF hc112 hr
       refine W.skip ?_
       refine W.seq ?_
       refine W.seq (W.region ?_)
       refine WL.vS hS hE (runs_plain rfl) (Gives.fld hE rfl fl100_4) rfl ?_; clear hE a; intro a hE
       refine WL.vS hS hE (runs_plain rfl) (Gives.loadB hE 0 rfl rfl rfl ty98) rfl ?_; clear hE a; intro a hE
       refine WL.vS hS hE (runs_plain rfl) (Gives.len hE rfl sl98) rfl ?_; clear hE a; intro a hE
       refine WL.vS hS hE (runs_plain rfl) (Gives.p hE rfl) rfl ?_; clear hE a; intro a hE
       refine WL.nil ?_
       obtain ⟨q114, hq113, hr⟩ := bndS hr
       refine W.cut (fun a w => (.next ()) = q114 ∧ Rep a 112 [] ∧ St w s (pt b51 (.cells #[.slice a0_0 x0.Ready.length c0_0, .slice a0_1 x0.Last.length c0_1, .slice a0_2 x0.Due.length c0_2, .slice a0_3 x0.Arcs.length c0_3, .slice a0_4 x0.Choices.length c0_4] 100 (0, 0)) :: R)) ?_ ?_
       ·refine W.block ?_
        refine W.loop (fun m a w => ∃ (rest117 : List MendChoice) (k115 : Nat), rest117.length = m ∧ x0.Choices.drop k115 = rest117 ∧ MendCheckGraph.loop2 x0 rest117 = q114 ∧ Rep a 112 [(1, .pointer (some ⟨b51, 0, none⟩)), (84, .slice a0_4 x0.Choices.length c0_4), (85, .int .i64 ((x0.Choices).length : Int)), (86, .int .i64 ((k115 : Nat) : Int))] ∧ St w s (pt b51 (.cells #[.slice a0_0 x0.Ready.length c0_0, .slice a0_1 x0.Last.length c0_1, .slice a0_2 x0.Due.length c0_2, .slice a0_3 x0.Arcs.length c0_3, .slice a0_4 x0.Choices.length c0_4] 100 (0, 0)) :: R)) (m := x0.Choices.length) ⟨x0.Choices, 0, rfl, rfl, hq113, hE.pick _ ⟨rfl, rfl, rfl, rfl, trivial⟩, hS⟩ ?_
        clear hE hS a w hq113; rintro m121 a w ⟨rest117, k115, rfl, hd118, hq113, hE, hS⟩
        refine W.gen fun K124 hK124 => ?_
        rcases rest117 with _ | ⟨x116, rest117⟩
        ·have hlt119 := drop_nil hd118
         refine W.seq (W.region ?_)
         refine WL.vS hS hE (runs_plain rfl) (Gives.p hE rfl) rfl ?_; clear hE a; intro a hE
         refine WL.nil ?_
         refine W.seq ?_
         refine W.condF hE rfl (decide_eq_false (by omega)) ?_
         subst hK124
         refine W.exit rfl ?_
         exact ⟨hq113, hE.pick _ trivial, hS⟩
        ·obtain ⟨hlt119, hx120, hd118⟩ := drop_cons hd118
         rw [MendCheckGraph.loop2] at hq113
         refine W.seq (W.region ?_)
         refine WL.vS hS hE (runs_plain rfl) (Gives.p hE rfl) rfl ?_; clear hE a; intro a hE
         refine WL.nil ?_
         refine W.seq ?_
         refine W.condT hE rfl (decide_eq_true (by omega)) ?_
         refine W.skip ?_
         refine W.seq ?_
         refine W.block ?_
         refine W.seq (W.region ?_)
         obtain ⟨cs125, hl126, hR127, hat128⟩ := h0_4.at hx120
         obtain ⟨a129, c130, rfl, h131⟩ := hR127
         refine WL.vS hS hE (runs_plain rfl) (Gives.idx hE k115 rfl rfl sl98 rfl hlt119 (h0_4.aok hlt119)) rfl ?_; clear hE a; intro a hE
         refine WL.vS hS hE (runs_plain rfl) (Gives.loadA hE rfl (fun w h => hat128 w _ h) ty138) rfl ?_; clear hE a; intro a hE
         refine WL.alloc hE hS (runs_plain rfl) zr138 rfl ?_; clear hE hS a w; intro b132 a w hE hS
         refine WL.storeI hE hS 0 rfl [.slice a129 x116.Ways.length c130] (runs_plain rfl) rfl rfl rfl ty138 rfl rfl rfl rfl ?_; clear hE hS a w; intro a w hE hS
         refine WL.nil ?_
         refine W.seq ?_
         refine W.seq (W.region ?_)
         refine WL.vS hS hE (runs_plain rfl) (Gives.fld hE rfl fl138_0) rfl ?_; clear hE a; intro a hE
         refine WL.vS hS hE (runs_plain rfl) (Gives.loadB hE 0 rfl rfl rfl ty125) rfl ?_; clear hE a; intro a hE
         refine WL.vS hS hE (runs_plain rfl) (Gives.len hE rfl sl125) rfl ?_; clear hE a; intro a hE
         refine WL.vS hS hE (runs_plain rfl) (Gives.p hE rfl) rfl ?_; clear hE a; intro a hE
         refine WL.nil ?_
         refine W.cond hE rfl (fun hc133 => ?_) (fun hc133 => ?_)
         ·replace hq113 := iteT hc133 hq113
          refine W.seq (W.region ?_)
          refine WL.vS hS hE (runs_plain rfl) (Gives.p hE rfl) rfl ?_; clear hE a; intro a hE
          refine WL.nil ?_
          refine W.ret ?_
          subst hK124
          rw [← hq113] at hr
          dsimp only at hr
          refine finG (fn := Try.f92) (rs := [.tmp 2]) (vs := [_]) hE rfl ⟨rfl, trivial⟩ ?_
          obtain rfl := Option.some.inj hr
          replace hS := hS.tail
          replace hS := hS.tail
          exact ⟨rfl, hS⟩
         ·replace hq113 := iteF hc133 hq113
          refine W.skip ?_
          refine W.seq (W.region ?_)
          refine WL.vS hS hE (runs_plain rfl) (Gives.fld hE rfl fl138_0) rfl ?_; clear hE a; intro a hE
          refine WL.vS hS hE (runs_plain rfl) (Gives.loadB hE 0 rfl rfl rfl ty125) rfl ?_; clear hE a; intro a hE
          refine WL.vS hS hE (runs_plain rfl) (Gives.len hE rfl sl125) rfl ?_; clear hE a; intro a hE
          refine WL.vS hS hE (runs_plain rfl) (Gives.p hE rfl) rfl ?_; clear hE a; intro a hE
          refine WL.nil ?_
          obtain ⟨q135, hq134, hq113⟩ := bndS hq113
          refine W.cut (fun a w => (.next ()) = q135 ∧ Rep a 112 [(1, .pointer (some ⟨b51, 0, none⟩)), (84, .slice a0_4 x0.Choices.length c0_4), (85, .int .i64 ((x0.Choices).length : Int)), (86, .int .i64 ((k115 : Nat) : Int))] ∧ St w s (pt b132 (.cells #[.slice a129 x116.Ways.length c130] 138 (0, 0)) :: pt b51 (.cells #[.slice a0_0 x0.Ready.length c0_0, .slice a0_1 x0.Last.length c0_1, .slice a0_2 x0.Due.length c0_2, .slice a0_3 x0.Arcs.length c0_3, .slice a0_4 x0.Choices.length c0_4] 100 (0, 0)) :: R)) ?_ ?_
          ·refine W.block ?_
           refine W.loop (fun m a w => ∃ (rest138 : List (List MendArc)) (k136 : Nat), rest138.length = m ∧ x116.Ways.drop k136 = rest138 ∧ MendCheckGraph.loop3 x0 rest138 = q135 ∧ Rep a 112 [(1, .pointer (some ⟨b51, 0, none⟩)), (84, .slice a0_4 x0.Choices.length c0_4), (85, .int .i64 ((x0.Choices).length : Int)), (86, .int .i64 ((k115 : Nat) : Int)), (95, .slice a129 x116.Ways.length c130), (96, .int .i64 ((x116.Ways).length : Int)), (97, .int .i64 ((k136 : Nat) : Int))] ∧ St w s (pt b132 (.cells #[.slice a129 x116.Ways.length c130] 138 (0, 0)) :: pt b51 (.cells #[.slice a0_0 x0.Ready.length c0_0, .slice a0_1 x0.Last.length c0_1, .slice a0_2 x0.Due.length c0_2, .slice a0_3 x0.Arcs.length c0_3, .slice a0_4 x0.Choices.length c0_4] 100 (0, 0)) :: R)) (m := x116.Ways.length) ⟨x116.Ways, 0, rfl, rfl, hq134, hE.pick _ ⟨rfl, rfl, rfl, rfl, rfl, rfl, rfl, trivial⟩, hS⟩ ?_
           clear hE hS a w hq134; rintro m142 a w ⟨rest138, k136, rfl, hd139, hq134, hE, hS⟩
           refine W.gen fun K145 hK145 => ?_
           rcases rest138 with _ | ⟨x137, rest138⟩
           ·have hlt140 := drop_nil hd139
            refine W.seq (W.region ?_)
            refine WL.vS hS hE (runs_plain rfl) (Gives.p hE rfl) rfl ?_; clear hE a; intro a hE
            refine WL.nil ?_
            refine W.seq ?_
            refine W.condF hE rfl (decide_eq_false (by omega)) ?_
            subst hK145
            refine W.exit rfl ?_
            exact ⟨hq134, hE.pick _ ⟨rfl, rfl, rfl, rfl, trivial⟩, hS⟩
           ·obtain ⟨hlt140, hx141, hd139⟩ := drop_cons hd139
            rw [MendCheckGraph.loop3] at hq134
            refine W.seq (W.region ?_)
            refine WL.vS hS hE (runs_plain rfl) (Gives.p hE rfl) rfl ?_; clear hE a; intro a hE
            refine WL.nil ?_
            refine W.seq ?_
            refine W.condT hE rfl (decide_eq_true (by omega)) ?_
            refine W.skip ?_
            refine W.seq ?_
            refine W.block ?_
            refine W.seq (W.region ?_)
            obtain ⟨cs146, hl147, hR148, hat149⟩ := h131.at hx141
            obtain ⟨a150, c151, rfl, h152⟩ := hR148
            refine WL.vS hS hE (runs_plain rfl) (Gives.idx hE k136 rfl rfl sl125 rfl hlt140 (h131.aok hlt140)) rfl ?_; clear hE a; intro a hE
            refine WL.vS hS hE (runs_plain rfl) (Gives.load1 hE rfl (fun w h => hat149 w _ h) ty97) rfl ?_; clear hE a; intro a hE
            refine WL.vS hS hE (runs_plain rfl) (Gives.p hE rfl) rfl ?_; clear hE a; intro a hE
            refine WL.nil ?_
            refine W.seq ?_
            refine W.seq (W.region ?_)
            refine WL.vS hS hE (runs_plain rfl) (Gives.p hE rfl) rfl ?_; clear hE a; intro a hE
            refine WL.vS hS hE (runs_plain rfl) (Gives.len hE rfl sl97) rfl ?_; clear hE a; intro a hE
            refine WL.vS hS hE (runs_plain rfl) (Gives.p hE rfl) rfl ?_; clear hE a; intro a hE
            refine WL.nil ?_
            refine W.cond hE rfl (fun hc153 => ?_) (fun hc153 => ?_)
            ·replace hq134 := iteT hc153 hq134
             refine W.seq (W.region ?_)
             refine WL.vS hS hE (runs_plain rfl) (Gives.p hE rfl) rfl ?_; clear hE a; intro a hE
             refine WL.nil ?_
             refine W.ret ?_
             subst hK145
             subst hK124
             rw [← hq134] at hq113
             dsimp only at hq113
             rw [← hq113] at hr
             dsimp only at hr
             refine finG (fn := Try.f92) (rs := [.tmp 2]) (vs := [_]) hE rfl ⟨rfl, trivial⟩ ?_
             obtain rfl := Option.some.inj hr
             replace hS := hS.tail
             replace hS := hS.tail
             exact ⟨rfl, hS⟩
            ·replace hq134 := iteF hc153 hq134
             refine W.skip ?_
             refine W.seq (W.region ?_)
             refine WL.vS hS hE (runs_plain rfl) (Gives.loadBA hE 1 rfl rfl ty100) rfl ?_; clear hE a; intro a hE
             refine WL.vS hS hE (runs_plain rfl) (Gives.p hE rfl) rfl ?_; clear hE a; intro a hE
             refine WL.fnq hE (MendcheckArcs_ok hS h0_0 h0_1 h0_2 h0_3 h0_4 h152 rfl (r := MendcheckArcs x0 x137)) (runs_plain rfl) bd95 rfl rfl rfl ?_
             clear hE hS; rintro e w ⟨rfl, hS⟩; refine ⟨_, rfl, ?_⟩; clear a; intro a hE
             refine WL.vS hS hE (runs_plain rfl) (Gives.p hE rfl) rfl ?_; clear hE a; intro a hE
             refine WL.nil ?_
             refine W.seq (W.region ?_)
             refine WL.vS hS hE (runs_plain rfl) (Gives.p hE rfl) rfl ?_; clear hE a; intro a hE
             refine WL.vS hS hE (runs_plain rfl) (Gives.p hE rfl) rfl ?_; clear hE a; intro a hE
             refine WL.nil ?_
             refine W.cond hE rfl (fun hc154 => ?_) (fun hc154 => ?_)
             ·replace hq134 := iteT hc154 hq134
              refine W.seq (W.region ?_)
              refine WL.vS hS hE (runs_plain rfl) (Gives.p hE rfl) rfl ?_; clear hE a; intro a hE
              refine WL.vS hS hE (runs_plain rfl) (Gives.p hE rfl) rfl ?_; clear hE a; intro a hE
              refine WL.nil ?_
              refine W.ret ?_
              subst hK145
              subst hK124
              rw [← hq134] at hq113
              dsimp only at hq113
              rw [← hq113] at hr
              dsimp only at hr
              refine finG (fn := Try.f92) (rs := [.tmp 2]) (vs := [_]) hE rfl ⟨rfl, trivial⟩ ?_
              obtain rfl := Option.some.inj hr
              replace hS := hS.tail
              replace hS := hS.tail
              exact ⟨rfl, hS⟩
             ·replace hq134 := iteF hc154 hq134
              refine W.skip ?_
              refine W.region ?_
              refine WL.vS hS hE (runs_plain rfl) (Gives.inc hE rfl (by have := h131.small; omega)) rfl ?_; clear hE a; intro a hE
              refine WL.vS hS hE (runs_plain rfl) (Gives.p hE rfl) rfl ?_; clear hE a; intro a hE
              refine WL.nil ?_
              subst hK145
              exact ⟨rest138.length, Nat.lt_succ_self _, rest138, k136 + 1, rfl, hd139, hq134, hE.pick _ ⟨rfl, rfl, rfl, rfl, rfl, rfl, rfl, trivial⟩, hS⟩
          ·clear hE hS a w; rintro a w ⟨rfl, hE, hS⟩
           dsimp only at hq113
           refine W.region ?_
           refine WL.vS hS hE (runs_plain rfl) (Gives.inc hE rfl (by have := h0_4.small; omega)) rfl ?_; clear hE a; intro a hE
           refine WL.vS hS hE (runs_plain rfl) (Gives.p hE rfl) rfl ?_; clear hE a; intro a hE
           refine WL.nil ?_
           replace hS := hS.tail
           subst hK124
           exact ⟨rest117.length, Nat.lt_succ_self _, rest117, k115 + 1, rfl, hd118, hq113, hE.pick _ ⟨rfl, rfl, rfl, rfl, trivial⟩, hS⟩
       ·clear hE hS a w; rintro a w ⟨rfl, hE, hS⟩
        dsimp only at hr
        refine W.seq (W.region ?_)
        refine WL.vS hS hE (runs_plain rfl) (Gives.p hE rfl) rfl ?_; clear hE a; intro a hE
        refine WL.nil ?_
        refine W.ret ?_
        refine finG (fn := Try.f92) (rs := [.tmp 2]) (vs := [_]) hE rfl ⟨rfl, trivial⟩ ?_
        obtain rfl := Option.some.inj hr
        replace hS := hS.tail
        exact ⟨rfl, hS⟩
set_option maxHeartbeats 8000000 in
theorem MendcheckPick_ok  {w : World} {s : Sg} {R : List HP} {x0 : MendGraph} {a0_0 : Option Addr} {c0_0 : Nat} {a0_1 : Option Addr} {c0_1 : Nat} {a0_2 : Option Addr} {c0_2 : Nat} {a0_3 : Option Addr} {c0_3 : Nat} {a0_4 : Option Addr} {c0_4 : Nat} {x1 : List Int} {a1 : Option Addr} {c1 : Nat} (hS : St w s (R)) (h0_0 : Sl 1 (RI .i64) s a0_0 c0_0 x0.Ready) (h0_1 : Sl 1 (RI .i64) s a0_1 c0_1 x0.Last) (h0_2 : Sl 1 (RI .i64) s a0_2 c0_2 x0.Due) (h0_3 : Sl 3 RMendArc s a0_3 c0_3 x0.Arcs) (h0_4 : Sl 1 RMendChoice s a0_4 c0_4 x0.Choices) (h1 : Sl 1 (RI .i64) s a1 c1 x1) {r : Int} (hr : MendcheckPick x0 x1 = some r) :
  Calls Try.prog 85 [.agg [.slice a0_0 x0.Ready.length c0_0, .slice a0_1 x0.Last.length c0_1, .slice a0_2 x0.Due.length c0_2, .slice a0_3 x0.Arcs.length c0_3, .slice a0_4 x0.Choices.length c0_4].toArray, .slice a1 x1.length c1].toArray w (fun e w => e = .returned (.int .i64 r) ∧ St w s (R)) := by
 refine enter Try.func85 rfl rfl rfl fun a hE => ?_
 rw [MendcheckPick] at hr
 refine W.seq (W.region ?_)
 refine WL.box hE hS (runs_plain rfl) rfl rfl rfl ?_; clear hE hS a w; intro b51 a w hE hS
 refine WL.vS hS hE (runs_plain rfl) (Gives.p hE rfl) rfl ?_; clear hE a; intro a hE
 refine WL.nil ?_
 refine W.seq ?_
 refine W.seq (W.region ?_)
 refine WL.vS hS hE (runs_plain rfl) (Gives.loadBA hE 0 rfl rfl ty100) rfl ?_; clear hE a; intro a hE
 obtain ⟨q52, hq53, hr⟩ := bindS hr
 have hc_ := MendCheckGraph_ok hS h0_0 h0_1 h0_2 h0_3 h0_4 hq53
 refine WL.fnq hE (hc_) (runs_plain rfl) bd92 rfl rfl rfl ?_
 clear hE hS hc_; rintro e w ⟨rfl, hS⟩; refine ⟨_, rfl, ?_⟩; clear a; intro a hE
 refine WL.vS hS hE (runs_plain rfl) (Gives.p hE rfl) rfl ?_; clear hE a; intro a hE
 refine WL.nil ?_
 refine W.seq (W.region ?_)
 refine WL.vS hS hE (runs_plain rfl) (Gives.p hE rfl) rfl ?_; clear hE a; intro a hE
 refine WL.vS hS hE (runs_plain rfl) (Gives.p hE rfl) rfl ?_; clear hE a; intro a hE
 refine WL.nil ?_
 refine W.cond hE rfl (fun hc54 => ?_) (fun hc54 => ?_)
 ·replace hr := iteT hc54 hr
  refine W.seq (W.region ?_)
  refine WL.vS hS hE (runs_plain rfl) (Gives.p hE rfl) rfl ?_; clear hE a; intro a hE
  refine WL.vS hS hE (runs_plain rfl) (Gives.p hE rfl) rfl ?_; clear hE a; intro a hE
  refine WL.nil ?_
  refine W.ret ?_
  refine finG (fn := Try.f85) (rs := [.tmp 4]) (vs := [_]) hE rfl ⟨rfl, trivial⟩ ?_
  obtain rfl := Option.some.inj hr
  replace hS := hS.tail
  exact ⟨rfl, hS⟩
 ·replace hr := iteF hc54 hr
  refine W.skip ?_
  refine W.seq ?_
  refine W.seq (W.region ?_)
  refine WL.vS hS hE (runs_plain rfl) (Gives.p hE rfl) rfl ?_; clear hE a; intro a hE
  refine WL.vS hS hE (runs_plain rfl) (Gives.len hE rfl sl29) rfl ?_; clear hE a; intro a hE
  refine WL.vS hS hE (runs_plain rfl) (Gives.fld hE rfl fl100_4) rfl ?_; clear hE a; intro a hE
  refine WL.vS hS hE (runs_plain rfl) (Gives.loadB hE 0 rfl rfl rfl ty98) rfl ?_; clear hE a; intro a hE
  refine WL.vS hS hE (runs_plain rfl) (Gives.len hE rfl sl98) rfl ?_; clear hE a; intro a hE
  refine WL.vS hS hE (runs_plain rfl) (Gives.p hE rfl) rfl ?_; clear hE a; intro a hE
  refine WL.nil ?_
  refine W.cond hE rfl (fun hc55 => ?_) (fun hc55 => ?_)
  ·replace hr := iteT hc55 hr
   refine W.seq (W.region ?_)
   refine WL.vS hS hE (runs_plain rfl) (Gives.p hE rfl) rfl ?_; clear hE a; intro a hE
   refine WL.nil ?_
   refine W.ret ?_
   refine finG (fn := Try.f85) (rs := [.tmp 4]) (vs := [_]) hE rfl ⟨rfl, trivial⟩ ?_
   obtain rfl := Option.some.inj hr
   replace hS := hS.tail
   exact ⟨rfl, hS⟩
  ·replace hr := iteF hc55 hr
   refine W.skip ?_
   refine W.seq ?_
   refine W.seq (W.region ?_)
   refine WL.vS hS hE (runs_plain rfl) (Gives.p hE rfl) rfl ?_; clear hE a; intro a hE
   refine WL.vS hS hE (runs_plain rfl) (Gives.len hE rfl sl29) rfl ?_; clear hE a; intro a hE
   refine WL.vS hS hE (runs_plain rfl) (Gives.p hE rfl) rfl ?_; clear hE a; intro a hE
   refine WL.nil ?_
   obtain ⟨q57, hq56, hr⟩ := bindS hr
   refine W.cut (fun a w => (.next ()) = q57 ∧ Rep a 37 [] ∧ St w s (pt b51 (.cells #[.slice a0_0 x0.Ready.length c0_0, .slice a0_1 x0.Last.length c0_1, .slice a0_2 x0.Due.length c0_2, .slice a0_3 x0.Arcs.length c0_3, .slice a0_4 x0.Choices.length c0_4] 100 (0, 0)) :: R)) ?_ ?_
   ·refine W.block ?_
    refine W.loop (fun m a w => ∃ (rest60 : List Int) (k58 : Nat), rest60.length = m ∧ x1.drop k58 = rest60 ∧ MendcheckPick.loop1 x0 rest60 k58 = some q57 ∧ Rep a 37 [(2, .pointer (some ⟨b51, 0, none⟩)), (19, .slice a1 x1.length c1), (20, .int .i64 ((x1).length : Int)), (21, .int .i64 ((k58 : Nat) : Int))] ∧ St w s (pt b51 (.cells #[.slice a0_0 x0.Ready.length c0_0, .slice a0_1 x0.Last.length c0_1, .slice a0_2 x0.Due.length c0_2, .slice a0_3 x0.Arcs.length c0_3, .slice a0_4 x0.Choices.length c0_4] 100 (0, 0)) :: R)) (m := x1.length) ⟨x1, 0, rfl, rfl, hq56, hE.pick _ ⟨rfl, rfl, rfl, rfl, trivial⟩, hS⟩ ?_
    clear hE hS a w hq56; rintro m64 a w ⟨rest60, k58, rfl, hd61, hq56, hE, hS⟩
    refine W.gen fun K67 hK67 => ?_
    rcases rest60 with _ | ⟨x59, rest60⟩
    ·have hlt62 := drop_nil hd61
     refine W.seq (W.region ?_)
     refine WL.vS hS hE (runs_plain rfl) (Gives.p hE rfl) rfl ?_; clear hE a; intro a hE
     refine WL.nil ?_
     refine W.seq ?_
     refine W.condF hE rfl (decide_eq_false (by omega)) ?_
     subst hK67
     refine W.exit rfl ?_
     exact ⟨Option.some.inj hq56, hE.pick _ trivial, hS⟩
    ·obtain ⟨hlt62, hx63, hd61⟩ := drop_cons hd61
     rw [MendcheckPick.loop1] at hq56
     refine W.seq (W.region ?_)
     refine WL.vS hS hE (runs_plain rfl) (Gives.p hE rfl) rfl ?_; clear hE a; intro a hE
     refine WL.nil ?_
     refine W.seq ?_
     refine W.condT hE rfl (decide_eq_true (by omega)) ?_
     refine W.skip ?_
     refine W.seq ?_
     refine W.block ?_
     refine W.seq (W.region ?_)
     refine WL.vS hS hE (runs_plain rfl) (Gives.p hE rfl) rfl ?_; clear hE a; intro a hE
     obtain ⟨cs68, hl69, hR70, hat71⟩ := h1.at hx63
     subst hR70
     refine WL.vS hS hE (runs_plain rfl) (Gives.idx hE k58 rfl rfl sl29 rfl hlt62 (h1.aok hlt62)) rfl ?_; clear hE a; intro a hE
     refine WL.vS hS hE (runs_plain rfl) (Gives.load1 hE rfl (fun w h => hat71 w _ h) ty3) rfl ?_; clear hE a; intro a hE
     refine WL.vS hS hE (runs_plain rfl) (Gives.p hE rfl) rfl ?_; clear hE a; intro a hE
     refine WL.vS hS hE (runs_plain rfl) (Gives.p hE rfl) rfl ?_; clear hE a; intro a hE
     refine WL.nil ?_
     refine W.seq (W.region ?_)
     refine WL.vS hS hE (runs_plain rfl) (Gives.p hE rfl) rfl ?_; clear hE a; intro a hE
     refine WL.vS hS hE (runs_plain rfl) (Gives.fld hE rfl fl100_4) rfl ?_; clear hE a; intro a hE
     refine WL.vS hS hE (runs_plain rfl) (Gives.loadB hE 0 rfl rfl rfl ty98) rfl ?_; clear hE a; intro a hE
     refine WL.vS hS hE (runs_plain rfl) (Gives.p hE rfl) rfl ?_; clear hE a; intro a hE
     obtain ⟨x72, hx73, hq56⟩ := bindS hq56
     obtain ⟨hi74, hlt75, hy76⟩ := gx_some hx73
     obtain ⟨cs77, hl78, hR79, hat80⟩ := h0_4.at hy76
     obtain ⟨a81, c82, rfl, h83⟩ := hR79
     refine WL.vS hS hE (runs_plain rfl) (Gives.idx hE (((k58 : Nat) : Int)).toNat rfl rfl sl98 hi74 hlt75 (h0_4.aok hlt75)) rfl ?_; clear hE a; intro a hE
     refine WL.vS hS hE (runs_plain rfl) (Gives.fld hE rfl fl138_0) rfl ?_; clear hE a; intro a hE
     refine WL.vS hS hE (runs_plain rfl) (Gives.load1 hE rfl (fun w h => hat80 w _ h) ty125) rfl ?_; clear hE a; intro a hE
     refine WL.vS hS hE (runs_plain rfl) (Gives.len hE rfl sl125) rfl ?_; clear hE a; intro a hE
     refine WL.fnq hE (Mendwithin_ok hS  rfl (r := Mendwithin x59 0 ((x72.Ways).length : Int))) (runs_plain rfl) bd64 rfl rfl rfl ?_
     clear hE hS; rintro e w ⟨rfl, hS⟩; refine ⟨_, rfl, ?_⟩; clear a; intro a hE
     refine WL.vS hS hE (runs_plain rfl) (Gives.p hE rfl) rfl ?_; clear hE a; intro a hE
     refine WL.nil ?_
     refine W.cond hE rfl (fun hc84 => ?_) (fun hc84 => ?_)
     ·replace hq56 := iteT hc84 hq56
      refine W.seq (W.region ?_)
      refine WL.vS hS hE (runs_plain rfl) (Gives.p hE rfl) rfl ?_; clear hE a; intro a hE
      refine WL.nil ?_
      refine W.ret ?_
      subst hK67
      rw [← Option.some.inj hq56] at hr
      dsimp only at hr
      refine finG (fn := Try.f85) (rs := [.tmp 4]) (vs := [_]) hE rfl ⟨rfl, trivial⟩ ?_
      obtain rfl := Option.some.inj hr
      replace hS := hS.tail
      exact ⟨rfl, hS⟩
     ·replace hq56 := iteF hc84 hq56
      refine W.skip ?_
      refine W.region ?_
      refine WL.vS hS hE (runs_plain rfl) (Gives.inc hE rfl (by have := h1.small; omega)) rfl ?_; clear hE a; intro a hE
      refine WL.vS hS hE (runs_plain rfl) (Gives.p hE rfl) rfl ?_; clear hE a; intro a hE
      refine WL.nil ?_
      subst hK67
      exact ⟨rest60.length, Nat.lt_succ_self _, rest60, k58 + 1, rfl, hd61, hq56, hE.pick _ ⟨rfl, rfl, rfl, rfl, trivial⟩, hS⟩
   ·clear hE hS a w; rintro a w ⟨rfl, hE, hS⟩
    dsimp only at hr
    refine W.seq (W.region ?_)
    refine WL.vS hS hE (runs_plain rfl) (Gives.p hE rfl) rfl ?_; clear hE a; intro a hE
    refine WL.nil ?_
    refine W.ret ?_
    refine finG (fn := Try.f85) (rs := [.tmp 4]) (vs := [_]) hE rfl ⟨rfl, trivial⟩ ?_
    obtain rfl := Option.some.inj hr
    replace hS := hS.tail
    exact ⟨rfl, hS⟩
set_option maxHeartbeats 8000000 in
theorem SlicesCloneLint_ok  {w : World} {s : Sg} {R : List HP} {x0 : List Int} {a0 : Option Addr} {c0 : Nat} (hS : St w s (R)) (h0 : Sl 1 (RI .i64) s a0 c0 x0) {r : (List Int)} (hr : SlicesCloneLint x0 = some r) :
  Calls Try.prog 60 [.slice a0 x0.length c0].toArray w (fun e w => ∃ (a0 : Option Addr) (c0 n0 : Nat) (cs0 : List Value), e = .returned (.slice a0 n0 c0) ∧ Ev 1 (RI .i64) s cs0 r ∧ r.length = n0 ∧ St w s (vecC 3 1 a0 c0 n0 cs0 :: R)) := by
 refine enter Try.func60 rfl rfl rfl fun a hE => ?_
 rw [SlicesCloneLint] at hr
 refine W.seq (W.region ?_)
 refine WL.vS hS hE (runs_plain rfl) (Gives.p hE rfl) rfl ?_; clear hE a; intro a hE
 refine WL.nil ?_
 refine W.seq ?_
 refine W.seq (W.region ?_)
 refine WL.vS hS hE (runs_plain rfl) (Gives.p hE rfl) rfl ?_; clear hE a; intro a hE
 refine WL.vS hS hE (runs_plain rfl) (Gives.isNil hE rfl rfl isl29) rfl ?_; clear hE a; intro a hE
 refine WL.nil ?_
 rcases a0 with _ | g51
 ·obtain rfl := h0.none_nil
  replace hr : some [] = _ := hr
  refine W.condT hE rfl rfl ?_
  refine W.seq (W.region ?_)
  refine WL.vS hS hE (runs_plain rfl) (Gives.p hE rfl) rfl ?_; clear hE a; intro a hE
  refine WL.nil ?_
  refine W.ret ?_
  replace hS := hS.vecNil 3 1
  refine finG (fn := Try.f60) (rs := [.tmp 2]) (vs := [_]) hE rfl ⟨rfl, trivial⟩ ?_
  obtain rfl := Option.some.inj hr
  exact ⟨none, 0, 0, [], rfl, (Ev.nil), (rfl), hS⟩
 ·skip
  refine W.condF hE rfl rfl ?_
  refine W.skip ?_
  refine W.seq (W.region ?_)
  refine WL.lit hE hS (e := 3) (es := 1) (vs := []) (cs := []) (runs_plain rfl) rfl (by kernel_rfl) rfl ?_; clear hE hS a w; intro b53 a w hE hS
  replace hS := hS.ptVec (es := 1) (m := 0) rfl (by decide)
  have h55 : Ev 1 (RI .i64) s [] [] := (Ev.nil)
  refine WL.vS hS hE (runs_plain rfl) (Gives.p hE rfl) rfl ?_; clear hE a; intro a hE
  obtain ⟨x56, hx57, hr⟩ := bindS hr
  refine WL.appS hE hS 0 (runs_plain rfl) rfl rfl (xs := x0) rfl rfl ap29 RI.one h55 (rfl) h0 hx57 rfl ?_; clear hE hS a w; intro a58 c59 cs60 a w h61 hE hS
  refine WL.vS hS hE (runs_plain rfl) (Gives.p hE rfl) rfl ?_; clear hE a; intro a hE
  refine WL.nil ?_
  refine W.ret ?_
  refine finG (fn := Try.f60) (rs := [.tmp 2]) (vs := [_]) hE rfl ⟨rfl, trivial⟩ ?_
  obtain rfl := Option.some.inj hr
  exact ⟨a58, c59, x56.length, cs60, rfl, h61, (rfl), hS⟩
set_option maxHeartbeats 8000000 in
theorem SlicesCloneLLmendArc_v1_ok  {w : World} {s : Sg} {R : List HP} {x0 : List (List MendArc)} {a_v0 : Option Addr} {c_v0 n_v0 : Nat} {cs_v0 : List Value} (hS : St w s (vecC 97 1 a_v0 c_v0 n_v0 cs_v0 :: R)) (h_v0 : Ev 1 (RL 3 RMendArc) s cs_v0 x0) (hn_v0 : x0.length = n_v0) {r : (List (List MendArc))} (hr : SlicesCloneLLmendArc_v1 x0 = some r) :
  Calls Try.prog 96 [.slice a_v0 n_v0 c_v0].toArray w (fun e w => ∃ (a0 : Option Addr) (c0 n0 : Nat) (cs0 : List Value), e = .returned (.slice a0 n0 c0) ∧ Ev 1 (RL 3 RMendArc) s cs0 r ∧ r.length = n0 ∧ St w s (vecC 97 1 a0 c0 n0 cs0 :: vecC 97 1 a_v0 c_v0 n_v0 cs_v0 :: R)) := by
 refine enter Try.func96 rfl rfl rfl fun a hE => ?_
 rw [SlicesCloneLLmendArc_v1] at hr
 subst hn_v0
 refine W.seq (W.region ?_)
 refine WL.vS hS hE (runs_plain rfl) (Gives.p hE rfl) rfl ?_; clear hE a; intro a hE
 refine WL.nil ?_
 refine W.seq ?_
 refine W.seq (W.region ?_)
 refine WL.vS hS hE (runs_plain rfl) (Gives.p hE rfl) rfl ?_; clear hE a; intro a hE
 refine WL.vS hS hE (runs_plain rfl) (Gives.isNil hE rfl rfl isl125) rfl ?_; clear hE a; intro a hE
 refine WL.nil ?_
 rcases a_v0 with _ | g51
 ·obtain rfl := List.eq_nil_of_length_eq_zero (hS.vecNone 0 rfl)
  replace hr : some [] = _ := hr
  refine W.condT hE rfl rfl ?_
  refine W.seq (W.region ?_)
  refine WL.vS hS hE (runs_plain rfl) (Gives.p hE rfl) rfl ?_; clear hE a; intro a hE
  refine WL.nil ?_
  refine W.ret ?_
  replace hS := hS.vecNil 97 1
  refine finG (fn := Try.f96) (rs := [.tmp 2]) (vs := [_]) hE rfl ⟨rfl, trivial⟩ ?_
  obtain rfl := Option.some.inj hr
  exact ⟨none, 0, 0, [], rfl, (Ev.nil), (rfl), hS⟩
 ·skip
  refine W.condF hE rfl rfl ?_
  refine W.skip ?_
  refine W.seq (W.region ?_)
  refine WL.lit hE hS (e := 97) (es := 1) (vs := []) (cs := []) (runs_plain rfl) rfl (by kernel_rfl) rfl ?_; clear hE hS a w; intro b53 a w hE hS
  replace hS := hS.ptVec (es := 1) (m := 0) rfl (by decide)
  have h55 : Ev 1 (RL 3 RMendArc) s [] [] := (Ev.nil)
  refine WL.vS hS hE (runs_plain rfl) (Gives.p hE rfl) rfl ?_; clear hE a; intro a hE
  obtain ⟨x56, hx57, hr⟩ := bindS hr
  refine WL.appO hE hS 0 1 (runs_plain rfl) rfl rfl rfl rfl ap125 RL.one h55 (rfl) h_v0 (rfl) hx57 rfl ?_; clear hE hS a w; intro a58 c59 cs60 a w h61 hE hS
  refine WL.vS hS hE (runs_plain rfl) (Gives.p hE rfl) rfl ?_; clear hE a; intro a hE
  refine WL.nil ?_
  refine W.ret ?_
  refine finG (fn := Try.f96) (rs := [.tmp 2]) (vs := [_]) hE rfl ⟨rfl, trivial⟩ ?_
  obtain rfl := Option.some.inj hr
  exact ⟨a58, c59, x56.length, cs60, rfl, h61, (rfl), hS⟩
set_option maxHeartbeats 8000000 in
theorem SlicesCloneLmendArc_ok  {w : World} {s : Sg} {R : List HP} {x0 : List MendArc} {a0 : Option Addr} {c0 : Nat} (hS : St w s (R)) (h0 : Sl 3 RMendArc s a0 c0 x0) {r : (List MendArc)} (hr : SlicesCloneLmendArc x0 = some r) :
  Calls Try.prog 97 [.slice a0 x0.length c0].toArray w (fun e w => ∃ (a0 : Option Addr) (c0 n0 : Nat) (cs0 : List Value), e = .returned (.slice a0 n0 c0) ∧ Ev 3 RMendArc s cs0 r ∧ r.length = n0 ∧ St w s (vecC 144 3 a0 c0 n0 cs0 :: R)) := by
 refine enter Try.func97 rfl rfl rfl fun a hE => ?_
 rw [SlicesCloneLmendArc] at hr
 refine W.seq (W.region ?_)
 refine WL.vS hS hE (runs_plain rfl) (Gives.p hE rfl) rfl ?_; clear hE a; intro a hE
 refine WL.nil ?_
 refine W.seq ?_
 refine W.seq (W.region ?_)
 refine WL.vS hS hE (runs_plain rfl) (Gives.p hE rfl) rfl ?_; clear hE a; intro a hE
 refine WL.vS hS hE (runs_plain rfl) (Gives.isNil hE rfl rfl isl97) rfl ?_; clear hE a; intro a hE
 refine WL.nil ?_
 rcases a0 with _ | g51
 ·obtain rfl := h0.none_nil
  replace hr : some [] = _ := hr
  refine W.condT hE rfl rfl ?_
  refine W.seq (W.region ?_)
  refine WL.vS hS hE (runs_plain rfl) (Gives.p hE rfl) rfl ?_; clear hE a; intro a hE
  refine WL.nil ?_
  refine W.ret ?_
  replace hS := hS.vecNil 144 3
  refine finG (fn := Try.f97) (rs := [.tmp 2]) (vs := [_]) hE rfl ⟨rfl, trivial⟩ ?_
  obtain rfl := Option.some.inj hr
  exact ⟨none, 0, 0, [], rfl, (Ev.nil), (rfl), hS⟩
 ·skip
  refine W.condF hE rfl rfl ?_
  refine W.skip ?_
  refine W.seq (W.region ?_)
  refine WL.lit hE hS (e := 144) (es := 3) (vs := []) (cs := []) (runs_plain rfl) rfl (by kernel_rfl) rfl ?_; clear hE hS a w; intro b53 a w hE hS
  replace hS := hS.ptVec (es := 3) (m := 0) rfl (by decide)
  have h55 : Ev 3 RMendArc s [] [] := (Ev.nil)
  refine WL.vS hS hE (runs_plain rfl) (Gives.p hE rfl) rfl ?_; clear hE a; intro a hE
  obtain ⟨x56, hx57, hr⟩ := bindS hr
  refine WL.appS hE hS 0 (runs_plain rfl) rfl rfl (xs := x0) rfl rfl ap97 RMendArc.one h55 (rfl) h0 hx57 rfl ?_; clear hE hS a w; intro a58 c59 cs60 a w h61 hE hS
  refine WL.vS hS hE (runs_plain rfl) (Gives.p hE rfl) rfl ?_; clear hE a; intro a hE
  refine WL.nil ?_
  refine W.ret ?_
  refine finG (fn := Try.f97) (rs := [.tmp 2]) (vs := [_]) hE rfl ⟨rfl, trivial⟩ ?_
  obtain rfl := Option.some.inj hr
  exact ⟨a58, c59, x56.length, cs60, rfl, h61, (rfl), hS⟩
set_option maxHeartbeats 8000000 in
theorem MendSolverwith_1_v1_ok  {w : World} {s : Sg} {R : List HP} {pb0 : Nat} {pb1 : Nat} {pb2 : Nat} {pb3 : Nat} {pb4 : Nat} {pb5 : Nat} {x0 : MendArc} {y1 : List Int} {a_v0 : Option Addr} {c_v0 n_v0 : Nat} {cs_v0 : List Value} {y2 : Bool} {y3 : List Bool} {a_v1 : Option Addr} {c_v1 n_v1 : Nat} {cs_v1 : List Value} {y4 : List Int} {a_v2 : Option Addr} {c_v2 n_v2 : Nat} {cs_v2 : List Value} {y5 : MendSolver} {a_v3 : Option Addr} {c_v3 n_v3 : Nat} {cs_v3 : List Value} {a_y5_1 : Option Addr} {c_y5_1 : Nat} {a_v4 : Option Addr} {c_v4 n_v4 : Nat} {cs_v4 : List Value} (hS : St w s (pt pb0 (.cells #[.pointer (some ⟨pb5, 0, none⟩)] 122 (0, 0)) :: pt pb1 (.cells #[.slice a_v0 n_v0 c_v0] 29 (0, 0)) :: pt pb2 (.cells #[.bool y2] 4 (0, 0)) :: pt pb3 (.cells #[.slice a_v1 n_v1 c_v1] 71 (0, 0)) :: pt pb4 (.cells #[.slice a_v2 n_v2 c_v2] 29 (0, 0)) :: pt pb5 (.cells #[.slice a_v3 n_v3 c_v3, .slice a_y5_1 y5.last.length c_y5_1, .slice a_v4 n_v4 c_v4] 127 (0, 0)) :: vecC 3 1 a_v0 c_v0 n_v0 cs_v0 :: vecC 4 1 a_v1 c_v1 n_v1 cs_v1 :: vecC 3 1 a_v2 c_v2 n_v2 cs_v2 :: vecC 3 1 a_v3 c_v3 n_v3 cs_v3 :: vecC 97 1 a_v4 c_v4 n_v4 cs_v4 :: R)) (h_v0 : Ev 1 (RI .i64) s cs_v0 y1) (hn_v0 : y1.length = n_v0) (h_v1 : Ev 1 RB s cs_v1 y3) (hn_v1 : y3.length = n_v1) (h_v2 : Ev 1 (RI .i64) s cs_v2 y4) (hn_v2 : y4.length = n_v2) (h_v3 : Ev 1 (RI .i64) s cs_v3 y5.times) (hn_v3 : y5.times.length = n_v3) (h_y5_1 : Sl 1 (RI .i64) s a_y5_1 c_y5_1 y5.last) (_h_v4 : Ev 1 (RL 3 RMendArc) s cs_v4 y5.outs) (hn_v4 : y5.outs.length = n_v4) {r : (List Int) × (List Bool) × (List Int) × Bool × (List Int)} (hr : MendSolverwith_1_v1 x0 y1 y2 y3 y4 y5 = some r) :
  Calls Try.prog 98 [.agg (MendArc.cells x0).toArray, .pointer (some ⟨pb0, 0, none⟩), .pointer (some ⟨pb1, 0, none⟩), .pointer (some ⟨pb2, 0, none⟩), .pointer (some ⟨pb3, 0, none⟩), .pointer (some ⟨pb4, 0, none⟩)].toArray w (fun e w => ∃ (cs55 : List Value) (cs61 : List Value) (cs67 : List Value) (a71 : Option Addr) (c72 : Nat) (n74 : Nat) (cs75 : List Value), e = .returned (.tuple #[]) ∧ Ev 1 (RI .i64) s cs55 r.1 ∧ r.1.length = n_v0 ∧ Ev 1 RB s cs61 r.2.1 ∧ r.2.1.length = n_v1 ∧ Ev 1 (RI .i64) s cs67 r.2.2.1 ∧ r.2.2.1.length = n_v3 ∧ Ev 1 (RI .i64) s cs75 r.2.2.2.2 ∧ r.2.2.2.2.length = n74 ∧ St w s (pt pb0 (.cells #[.pointer (some ⟨pb5, 0, none⟩)] 122 (0, 0)) :: pt pb1 (.cells #[.slice a_v0 n_v0 c_v0] 29 (0, 0)) :: pt pb2 (.cells #[.bool r.2.2.2.1] 4 (0, 0)) :: pt pb3 (.cells #[.slice a_v1 n_v1 c_v1] 71 (0, 0)) :: pt pb4 (.cells #[.slice a71 n74 c72] 29 (0, 0)) :: pt pb5 (.cells #[.slice a_v3 n_v3 c_v3, .slice a_y5_1 y5.last.length c_y5_1, .slice a_v4 n_v4 c_v4] 127 (0, 0)) :: vecC 3 1 a_v0 c_v0 n_v0 cs55 :: vecC 4 1 a_v1 c_v1 n_v1 cs61 :: vecC 3 1 a71 c72 n74 cs75 :: vecC 3 1 a_v3 c_v3 n_v3 cs67 :: vecC 97 1 a_v4 c_v4 n_v4 cs_v4 :: R)) := by
 refine enter Try.func98 rfl rfl rfl fun a hE => ?_
 rw [MendSolverwith_1_v1] at hr
 subst hn_v0
 subst hn_v1
 subst hn_v2
 subst hn_v3
 subst hn_v4
 refine W.seq (W.region ?_)
 refine WL.box hE hS (runs_plain rfl) rfl rfl rfl ?_; clear hE hS a w; intro b77 a w hE hS
 refine WL.nil ?_
 refine W.seq ?_
 refine W.regionQ (C := fun w => St w s (pt b77 (.cells (MendArc.cells x0).toArray 144 (0, 0)) :: pt pb0 (.cells #[.pointer (some ⟨pb5, 0, none⟩)] 122 (0, 0)) :: pt pb1 (.cells #[.slice a_v0 y1.length c_v0] 29 (0, 0)) :: pt pb2 (.cells #[.bool y2] 4 (0, 0)) :: pt pb3 (.cells #[.slice a_v1 y3.length c_v1] 71 (0, 0)) :: pt pb4 (.cells #[.slice a_v2 y4.length c_v2] 29 (0, 0)) :: pt pb5 (.cells #[.slice a_v3 y5.times.length c_v3, .slice a_y5_1 y5.last.length c_y5_1, .slice a_v4 y5.outs.length c_v4] 127 (0, 0)) :: vecC 3 1 a_v0 c_v0 y1.length cs_v0 :: vecC 4 1 a_v1 c_v1 y3.length cs_v1 :: vecC 3 1 a_v2 c_v2 y4.length cs_v2 :: vecC 3 1 a_v3 c_v3 y5.times.length cs_v3 :: vecC 97 1 a_v4 c_v4 y5.outs.length cs_v4 :: R)) mixed (by kernel_rfl) hS.drew ?_
 refine QL.v hE (runs_plain rfl) (Gives.loadB hE 1 rfl rfl rfl ty122) rfl ?_; clear hE a; intro a hE
 refine QL.v hE (runs_plain rfl) (Gives.nilOk hE rfl) rfl ?_; clear hE a; intro a hE
 refine QL.v hE (runs_plain rfl) (Gives.fld hE rfl fl127_0) rfl ?_; clear hE a; intro a hE
 refine QL.v hE (runs_plain rfl) (Gives.loadB hE 6 rfl rfl rfl ty29) rfl ?_; clear hE a; intro a hE
 refine QL.v hE (runs_plain rfl) (Gives.fld hE rfl fl144_0) rfl ?_; clear hE a; intro a hE
 refine QL.v hE (runs_plain rfl) (Gives.loadB hE 0 rfl rfl rfl ty3) rfl ?_; clear hE a; intro a hE
 obtain ⟨x78, hx79, hr⟩ := bindS hr
 obtain ⟨hi80, hlt81, hy82⟩ := gx_some hx79
 obtain ⟨vs83, hl84, hR85, hd86, hget87⟩ := h_v3.at hy82
 subst hR85
 refine QL.v hE (runs_plain rfl) (Gives.idx hE ((x0.From).toNat) rfl rfl sl29 hi80 (by omega) (hS.vecAok 10 rfl (by omega : (x0.From).toNat < y5.times.length))) rfl ?_; clear hE a; intro a hE
 refine QL.v hE (runs_plain rfl) (Gives.load1 hE rfl (fun w h => St.vecSees h 10 rfl ((x0.From).toNat * 1) _ hget87) ty3) rfl ?_; clear hE a; intro a hE
 refine QL.v hE (runs_plain rfl) (Gives.fld hE rfl fl144_2) rfl ?_; clear hE a; intro a hE
 refine QL.v hE (runs_plain rfl) (Gives.loadB hE 0 rfl rfl rfl ty3) rfl ?_; clear hE a; intro a hE
 refine QL.v hE (runs_plain rfl) (Gives.p hE rfl) rfl ?_; clear hE a; intro a hE
 refine QL.v hE (runs_plain rfl) (Gives.p hE rfl) rfl ?_; clear hE a; intro a hE
 refine QL.nil ?_; clear hS w; intro w hS
 refine W.seq ?_
 refine W.seq ?_
 refine W.regionQ (C := fun w => St w s (pt b77 (.cells (MendArc.cells x0).toArray 144 (0, 0)) :: pt pb0 (.cells #[.pointer (some ⟨pb5, 0, none⟩)] 122 (0, 0)) :: pt pb1 (.cells #[.slice a_v0 y1.length c_v0] 29 (0, 0)) :: pt pb2 (.cells #[.bool y2] 4 (0, 0)) :: pt pb3 (.cells #[.slice a_v1 y3.length c_v1] 71 (0, 0)) :: pt pb4 (.cells #[.slice a_v2 y4.length c_v2] 29 (0, 0)) :: pt pb5 (.cells #[.slice a_v3 y5.times.length c_v3, .slice a_y5_1 y5.last.length c_y5_1, .slice a_v4 y5.outs.length c_v4] 127 (0, 0)) :: vecC 3 1 a_v0 c_v0 y1.length cs_v0 :: vecC 4 1 a_v1 c_v1 y3.length cs_v1 :: vecC 3 1 a_v2 c_v2 y4.length cs_v2 :: vecC 3 1 a_v3 c_v3 y5.times.length cs_v3 :: vecC 97 1 a_v4 c_v4 y5.outs.length cs_v4 :: R)) mixed (by kernel_rfl) hS.drew ?_
 refine QL.v hE (runs_plain rfl) (Gives.p hE rfl) rfl ?_; clear hE a; intro a hE
 refine QL.v hE (runs_plain rfl) (Gives.loadB hE 1 rfl rfl rfl ty122) rfl ?_; clear hE a; intro a hE
 refine QL.v hE (runs_plain rfl) (Gives.nilOk hE rfl) rfl ?_; clear hE a; intro a hE
 refine QL.v hE (runs_plain rfl) (Gives.fld hE rfl fl127_0) rfl ?_; clear hE a; intro a hE
 refine QL.v hE (runs_plain rfl) (Gives.loadB hE 6 rfl rfl rfl ty29) rfl ?_; clear hE a; intro a hE
 refine QL.v hE (runs_plain rfl) (Gives.fld hE rfl fl144_1) rfl ?_; clear hE a; intro a hE
 refine QL.v hE (runs_plain rfl) (Gives.loadB hE 0 rfl rfl rfl ty3) rfl ?_; clear hE a; intro a hE
 obtain ⟨x88, hx89, hr⟩ := bindS hr
 obtain ⟨hi90, hlt91, hy92⟩ := gx_some hx89
 obtain ⟨vs93, hl94, hR95, hd96, hget97⟩ := h_v3.at hy92
 subst hR95
 refine QL.v hE (runs_plain rfl) (Gives.idx hE ((x0.To).toNat) rfl rfl sl29 hi90 (by omega) (hS.vecAok 10 rfl (by omega : (x0.To).toNat < y5.times.length))) rfl ?_; clear hE a; intro a hE
 refine QL.v hE (runs_plain rfl) (Gives.load1 hE rfl (fun w h => St.vecSees h 10 rfl ((x0.To).toNat * 1) _ hget97) ty3) rfl ?_; clear hE a; intro a hE
 refine QL.v hE (runs_plain rfl) (Gives.p hE rfl) rfl ?_; clear hE a; intro a hE
 refine QL.nil ?_; clear hS w; intro w hS
 refine W.cond hE rfl (fun hc98 => ?_) (fun hc98 => ?_)
 ·replace hr := iteT hc98 hr
  refine W.ret ?_
  refine finG (fn := Try.f98) (rs := []) (vs := []) hE rfl trivial ?_
  obtain rfl := Option.some.inj hr
  replace hS := hS.tail
  exact ⟨cs_v0, cs_v1, cs_v3, a_v2, c_v2, y4.length, cs_v2, rfl, h_v0, (rfl), h_v1, (rfl), h_v3, (rfl), h_v2, (rfl), hS⟩
 ·replace hr := iteF hc98 hr
  refine W.skip ?_
  refine W.seq ?_
  refine W.gen fun K99 hK99 => ?_
  refine W.regionE (sel (fun w => St w s (pt b77 (.cells (MendArc.cells x0).toArray 144 (0, 0)) :: pt pb0 (.cells #[.pointer (some ⟨pb5, 0, none⟩)] 122 (0, 0)) :: pt pb1 (.cells #[.slice a_v0 y1.length c_v0] 29 (0, 0)) :: pt pb2 (.cells #[.bool y2] 4 (0, 0)) :: pt pb3 (.cells #[.slice a_v1 y3.length c_v1] 71 (0, 0)) :: pt pb4 (.cells #[.slice a_v2 y4.length c_v2] 29 (0, 0)) :: pt pb5 (.cells #[.slice a_v3 y5.times.length c_v3, .slice a_y5_1 y5.last.length c_y5_1, .slice a_v4 y5.outs.length c_v4] 127 (0, 0)) :: vecC 3 1 a_v0 c_v0 y1.length cs_v0 :: vecC 4 1 a_v1 c_v1 y3.length cs_v1 :: vecC 3 1 a_v2 c_v2 y4.length cs_v2 :: vecC 3 1 a_v3 c_v3 y5.times.length cs_v3 :: vecC 97 1 a_v4 c_v4 y5.outs.length cs_v4 :: R)) (fun w => St w s (pt b77 (.cells (MendArc.cells x0).toArray 144 (0, 0)) :: pt pb0 (.cells #[.pointer (some ⟨pb5, 0, none⟩)] 122 (0, 0)) :: pt pb1 (.cells #[.slice a_v0 y1.length c_v0] 29 (0, 0)) :: pt pb2 (.cells #[.bool y2] 4 (0, 0)) :: pt pb3 (.cells #[.slice a_v1 y3.length c_v1] 71 (0, 0)) :: pt pb4 (.cells #[.slice a_v2 y4.length c_v2] 29 (0, 0)) :: pt pb5 (.cells #[.slice a_v3 y5.times.length c_v3, .slice a_y5_1 y5.last.length c_y5_1, .slice a_v4 y5.outs.length c_v4] 127 (0, 0)) :: vecC 3 1 a_v0 c_v0 y1.length cs_v0 :: vecC 4 1 a_v1 c_v1 y3.length cs_v1 :: vecC 3 1 a_v2 c_v2 y4.length cs_v2 :: vecC 97 1 a_v4 c_v4 y5.outs.length cs_v4 :: R))) (fun b i => cond b ([0, 1, 2, 3, 4, 5, 6, 7].contains i) ([0, 1, 2, 3, 4, 5, 6, 7, 8].contains i)) mixed ?_
  replace hS := hS.drew
  have hT := tw_sel (A := fun w => St w s (pt b77 (.cells (MendArc.cells x0).toArray 144 (0, 0)) :: pt pb0 (.cells #[.pointer (some ⟨pb5, 0, none⟩)] 122 (0, 0)) :: pt pb1 (.cells #[.slice a_v0 y1.length c_v0] 29 (0, 0)) :: pt pb2 (.cells #[.bool y2] 4 (0, 0)) :: pt pb3 (.cells #[.slice a_v1 y3.length c_v1] 71 (0, 0)) :: pt pb4 (.cells #[.slice a_v2 y4.length c_v2] 29 (0, 0)) :: pt pb5 (.cells #[.slice a_v3 y5.times.length c_v3, .slice a_y5_1 y5.last.length c_y5_1, .slice a_v4 y5.outs.length c_v4] 127 (0, 0)) :: vecC 3 1 a_v0 c_v0 y1.length cs_v0 :: vecC 4 1 a_v1 c_v1 y3.length cs_v1 :: vecC 3 1 a_v2 c_v2 y4.length cs_v2 :: vecC 3 1 a_v3 c_v3 y5.times.length cs_v3 :: vecC 97 1 a_v4 c_v4 y5.outs.length cs_v4 :: R)) (B := fun w => St w s (pt b77 (.cells (MendArc.cells x0).toArray 144 (0, 0)) :: pt pb0 (.cells #[.pointer (some ⟨pb5, 0, none⟩)] 122 (0, 0)) :: pt pb1 (.cells #[.slice a_v0 y1.length c_v0] 29 (0, 0)) :: pt pb2 (.cells #[.bool y2] 4 (0, 0)) :: pt pb3 (.cells #[.slice a_v1 y3.length c_v1] 71 (0, 0)) :: pt pb4 (.cells #[.slice a_v2 y4.length c_v2] 29 (0, 0)) :: pt pb5 (.cells #[.slice a_v3 y5.times.length c_v3, .slice a_y5_1 y5.last.length c_y5_1, .slice a_v4 y5.outs.length c_v4] 127 (0, 0)) :: vecC 3 1 a_v0 c_v0 y1.length cs_v0 :: vecC 4 1 a_v1 c_v1 y3.length cs_v1 :: vecC 3 1 a_v2 c_v2 y4.length cs_v2 :: vecC 97 1 a_v4 c_v4 y5.outs.length cs_v4 :: R)) (w := _) (x := true) (y := true) (fun _ => hS) (fun _ => (hS.dropAt 10))
  have hF := hS; replace hS := hS
  refine Rg.take (i := 0) true rfl hE rfl (by kernel_rfl) (runs_plain rfl) (Gives.loadB hE 1 rfl rfl rfl ty122) rfl hT ?_; clear hE a; intro a hE
  replace hS := hF; clear hF hT
  have hT := tw_sel (A := fun w => St w s (pt b77 (.cells (MendArc.cells x0).toArray 144 (0, 0)) :: pt pb0 (.cells #[.pointer (some ⟨pb5, 0, none⟩)] 122 (0, 0)) :: pt pb1 (.cells #[.slice a_v0 y1.length c_v0] 29 (0, 0)) :: pt pb2 (.cells #[.bool y2] 4 (0, 0)) :: pt pb3 (.cells #[.slice a_v1 y3.length c_v1] 71 (0, 0)) :: pt pb4 (.cells #[.slice a_v2 y4.length c_v2] 29 (0, 0)) :: pt pb5 (.cells #[.slice a_v3 y5.times.length c_v3, .slice a_y5_1 y5.last.length c_y5_1, .slice a_v4 y5.outs.length c_v4] 127 (0, 0)) :: vecC 3 1 a_v0 c_v0 y1.length cs_v0 :: vecC 4 1 a_v1 c_v1 y3.length cs_v1 :: vecC 3 1 a_v2 c_v2 y4.length cs_v2 :: vecC 3 1 a_v3 c_v3 y5.times.length cs_v3 :: vecC 97 1 a_v4 c_v4 y5.outs.length cs_v4 :: R)) (B := fun w => St w s (pt b77 (.cells (MendArc.cells x0).toArray 144 (0, 0)) :: pt pb0 (.cells #[.pointer (some ⟨pb5, 0, none⟩)] 122 (0, 0)) :: pt pb1 (.cells #[.slice a_v0 y1.length c_v0] 29 (0, 0)) :: pt pb2 (.cells #[.bool y2] 4 (0, 0)) :: pt pb3 (.cells #[.slice a_v1 y3.length c_v1] 71 (0, 0)) :: pt pb4 (.cells #[.slice a_v2 y4.length c_v2] 29 (0, 0)) :: pt pb5 (.cells #[.slice a_v3 y5.times.length c_v3, .slice a_y5_1 y5.last.length c_y5_1, .slice a_v4 y5.outs.length c_v4] 127 (0, 0)) :: vecC 3 1 a_v0 c_v0 y1.length cs_v0 :: vecC 4 1 a_v1 c_v1 y3.length cs_v1 :: vecC 3 1 a_v2 c_v2 y4.length cs_v2 :: vecC 97 1 a_v4 c_v4 y5.outs.length cs_v4 :: R)) (w := _) (x := true) (y := true) (fun _ => hS) (fun _ => (hS.dropAt 10))
  have hF := hS; replace hS := hS
  refine Rg.take (i := 1) true rfl hE rfl (by kernel_rfl) (runs_plain rfl) (Gives.nilOk hE rfl) rfl hT ?_; clear hE a; intro a hE
  replace hS := hF; clear hF hT
  refine Rg.takeP (i := 2) hE rfl (by kernel_rfl) (runs_plain rfl) (Gives.fld hE rfl fl127_0) rfl (tw_sel (fun _ => hS) (fun _ => (hS.dropAt 10))) ?_; clear hE a; intro a hE
  have hT := tw_sel (A := fun w => St w s (pt b77 (.cells (MendArc.cells x0).toArray 144 (0, 0)) :: pt pb0 (.cells #[.pointer (some ⟨pb5, 0, none⟩)] 122 (0, 0)) :: pt pb1 (.cells #[.slice a_v0 y1.length c_v0] 29 (0, 0)) :: pt pb2 (.cells #[.bool y2] 4 (0, 0)) :: pt pb3 (.cells #[.slice a_v1 y3.length c_v1] 71 (0, 0)) :: pt pb4 (.cells #[.slice a_v2 y4.length c_v2] 29 (0, 0)) :: pt pb5 (.cells #[.slice a_v3 y5.times.length c_v3, .slice a_y5_1 y5.last.length c_y5_1, .slice a_v4 y5.outs.length c_v4] 127 (0, 0)) :: vecC 3 1 a_v0 c_v0 y1.length cs_v0 :: vecC 4 1 a_v1 c_v1 y3.length cs_v1 :: vecC 3 1 a_v2 c_v2 y4.length cs_v2 :: vecC 3 1 a_v3 c_v3 y5.times.length cs_v3 :: vecC 97 1 a_v4 c_v4 y5.outs.length cs_v4 :: R)) (B := fun w => St w s (pt b77 (.cells (MendArc.cells x0).toArray 144 (0, 0)) :: pt pb0 (.cells #[.pointer (some ⟨pb5, 0, none⟩)] 122 (0, 0)) :: pt pb1 (.cells #[.slice a_v0 y1.length c_v0] 29 (0, 0)) :: pt pb2 (.cells #[.bool y2] 4 (0, 0)) :: pt pb3 (.cells #[.slice a_v1 y3.length c_v1] 71 (0, 0)) :: pt pb4 (.cells #[.slice a_v2 y4.length c_v2] 29 (0, 0)) :: pt pb5 (.cells #[.slice a_v3 y5.times.length c_v3, .slice a_y5_1 y5.last.length c_y5_1, .slice a_v4 y5.outs.length c_v4] 127 (0, 0)) :: vecC 3 1 a_v0 c_v0 y1.length cs_v0 :: vecC 4 1 a_v1 c_v1 y3.length cs_v1 :: vecC 3 1 a_v2 c_v2 y4.length cs_v2 :: vecC 97 1 a_v4 c_v4 y5.outs.length cs_v4 :: R)) (w := _) (x := true) (y := true) (fun _ => hS) (fun _ => (hS.dropAt 10))
  have hF := hS; replace hS := hS
  refine Rg.take (i := 3) true rfl hE rfl (by kernel_rfl) (runs_plain rfl) (Gives.loadB hE 6 rfl rfl rfl ty29) rfl hT ?_; clear hE a; intro a hE
  replace hS := hF; clear hF hT
  refine Rg.takeP (i := 4) hE rfl (by kernel_rfl) (runs_plain rfl) (Gives.fld hE rfl fl144_1) rfl (tw_sel (fun _ => hS) (fun _ => (hS.dropAt 10))) ?_; clear hE a; intro a hE
  have hT := tw_sel (A := fun w => St w s (pt b77 (.cells (MendArc.cells x0).toArray 144 (0, 0)) :: pt pb0 (.cells #[.pointer (some ⟨pb5, 0, none⟩)] 122 (0, 0)) :: pt pb1 (.cells #[.slice a_v0 y1.length c_v0] 29 (0, 0)) :: pt pb2 (.cells #[.bool y2] 4 (0, 0)) :: pt pb3 (.cells #[.slice a_v1 y3.length c_v1] 71 (0, 0)) :: pt pb4 (.cells #[.slice a_v2 y4.length c_v2] 29 (0, 0)) :: pt pb5 (.cells #[.slice a_v3 y5.times.length c_v3, .slice a_y5_1 y5.last.length c_y5_1, .slice a_v4 y5.outs.length c_v4] 127 (0, 0)) :: vecC 3 1 a_v0 c_v0 y1.length cs_v0 :: vecC 4 1 a_v1 c_v1 y3.length cs_v1 :: vecC 3 1 a_v2 c_v2 y4.length cs_v2 :: vecC 3 1 a_v3 c_v3 y5.times.length cs_v3 :: vecC 97 1 a_v4 c_v4 y5.outs.length cs_v4 :: R)) (B := fun w => St w s (pt b77 (.cells (MendArc.cells x0).toArray 144 (0, 0)) :: pt pb0 (.cells #[.pointer (some ⟨pb5, 0, none⟩)] 122 (0, 0)) :: pt pb1 (.cells #[.slice a_v0 y1.length c_v0] 29 (0, 0)) :: pt pb2 (.cells #[.bool y2] 4 (0, 0)) :: pt pb3 (.cells #[.slice a_v1 y3.length c_v1] 71 (0, 0)) :: pt pb4 (.cells #[.slice a_v2 y4.length c_v2] 29 (0, 0)) :: pt pb5 (.cells #[.slice a_v3 y5.times.length c_v3, .slice a_y5_1 y5.last.length c_y5_1, .slice a_v4 y5.outs.length c_v4] 127 (0, 0)) :: vecC 3 1 a_v0 c_v0 y1.length cs_v0 :: vecC 4 1 a_v1 c_v1 y3.length cs_v1 :: vecC 3 1 a_v2 c_v2 y4.length cs_v2 :: vecC 97 1 a_v4 c_v4 y5.outs.length cs_v4 :: R)) (w := _) (x := true) (y := true) (fun _ => hS) (fun _ => (hS.dropAt 10))
  have hF := hS; replace hS := hS
  refine Rg.take (i := 5) true rfl hE rfl (by kernel_rfl) (runs_plain rfl) (Gives.loadB hE 0 rfl rfl rfl ty3) rfl hT ?_; clear hE a; intro a hE
  replace hS := hF; clear hF hT
  refine Rg.takeP (i := 6) hE rfl (by kernel_rfl) (runs_plain rfl) (Gives.p hE rfl) rfl (tw_sel (fun _ => hS) (fun _ => (hS.dropAt 10))) ?_; clear hE a; intro a hE
  obtain ⟨_, hx101, hr⟩ := bindS hr
  obtain ⟨h102, h103⟩ := ix_some hx101
  refine Rg.takeP (i := 7) hE rfl (by kernel_rfl) (runs_plain rfl) (Gives.idx hE ((x0.To).toNat) rfl rfl sl29 h102 (by omega) (hS.vecAok 10 rfl (by omega : (x0.To).toNat < y5.times.length))) rfl (tw_sel (fun _ => hS) (fun _ => (hS.dropAt 10))) ?_; clear hE a; intro a hE
  refine Rg.one (i := 8) false true rfl (by kernel_rfl) (by kernel_rfl) (by kernel_rfl) ?_
  obtain ⟨x105, hx106, hr⟩ := bindS hr
  refine WL.setD hE hS 10 rfl (runs_plain rfl) rfl rfl (vs := [.int .i64 (w64 (x78 + x0.Len))]) rfl ty3 rfl rfl rfl h_v3 (rfl) (sx_some hx106).1 hx106 rfl rfl ?_; clear hE hS a w; intro cs107 a w h108 hn109 hE hS
  refine WL.nil ?_
  refine ⟨⟨fun h => absurd h (by decide), fun _ => (hS.dropAt 10)⟩, ?_⟩
  refine Rg.done (by kernel_rfl) ?_
  subst hK99
  refine W.seq (W.region ?_)
  refine WL.vS hS hE (runs_plain rfl) (Gives.loadB hE 2 rfl rfl rfl ty29) rfl ?_; clear hE a; intro a hE
  refine WL.vS hS hE (runs_plain rfl) (Gives.fld hE rfl fl144_1) rfl ?_; clear hE a; intro a hE
  refine WL.vS hS hE (runs_plain rfl) (Gives.loadB hE 0 rfl rfl rfl ty3) rfl ?_; clear hE a; intro a hE
  obtain ⟨x110, hx111, hr⟩ := bindS hr
  obtain ⟨hi112, hlt113, hy114⟩ := gx_some hx111
  obtain ⟨vs115, hl116, hR117, hd118, hget119⟩ := h_v0.at hy114
  subst hR117
  refine WL.vS hS hE (runs_plain rfl) (Gives.idx hE ((x0.To).toNat) rfl rfl sl29 hi112 (by omega) (hS.vecAok 7 rfl (by omega : (x0.To).toNat < y1.length))) rfl ?_; clear hE a; intro a hE
  refine WL.vS hS hE (runs_plain rfl) (Gives.load1 hE rfl (fun w h => St.vecSees h 7 rfl ((x0.To).toNat * 1) _ hget119) ty3) rfl ?_; clear hE a; intro a hE
  refine WL.vS hS hE (runs_plain rfl) (Gives.p hE rfl) rfl ?_; clear hE a; intro a hE
  obtain ⟨_, hx121, hr⟩ := bindS hr
  obtain ⟨h122, h123⟩ := ix_some hx121
  refine WL.vS hS hE (runs_plain rfl) (Gives.idx hE ((x0.To).toNat) rfl rfl sl29 h122 (by omega) (hS.vecAok 7 rfl (by omega : (x0.To).toNat < y1.length))) rfl ?_; clear hE a; intro a hE
  obtain ⟨x125, hx126, hr⟩ := bindS hr
  refine WL.setD hE hS 7 rfl (runs_plain rfl) rfl rfl (vs := [.int .i64 (w64 (x110 + 1))]) rfl ty3 rfl rfl rfl h_v0 (rfl) (sx_some hx126).1 hx126 rfl rfl ?_; clear hE hS a w; intro cs127 a w h128 hn129 hE hS
  refine WL.nil ?_
  refine W.seq ?_
  obtain ⟨q131, hq130, hr⟩ := bindS hr
  refine W.cut (fun a w => ∃ (q134 : Bool), q134 = q131 ∧ Rep a 95 [(4, .pointer (some ⟨pb3, 0, none⟩)), (5, .pointer (some ⟨pb4, 0, none⟩)), (6, .pointer (some ⟨b77, 0, none⟩))] ∧ St w s (pt b77 (.cells (MendArc.cells x0).toArray 144 (0, 0)) :: pt pb0 (.cells #[.pointer (some ⟨pb5, 0, none⟩)] 122 (0, 0)) :: pt pb1 (.cells #[.slice a_v0 y1.length c_v0] 29 (0, 0)) :: pt pb2 (.cells #[.bool q134] 4 (0, 0)) :: pt pb3 (.cells #[.slice a_v1 y3.length c_v1] 71 (0, 0)) :: pt pb4 (.cells #[.slice a_v2 y4.length c_v2] 29 (0, 0)) :: pt pb5 (.cells #[.slice a_v3 y5.times.length c_v3, .slice a_y5_1 y5.last.length c_y5_1, .slice a_v4 y5.outs.length c_v4] 127 (0, 0)) :: vecC 3 1 a_v0 c_v0 y1.length cs127 :: vecC 4 1 a_v1 c_v1 y3.length cs_v1 :: vecC 3 1 a_v2 c_v2 y4.length cs_v2 :: vecC 3 1 a_v3 c_v3 y5.times.length cs107 :: vecC 97 1 a_v4 c_v4 y5.outs.length cs_v4 :: R)) ?_ ?_
  ·refine W.gen fun K135 hK135 => ?_
   refine W.gen fun K136 hK136 => ?_
   refine W.regionE (sel (fun w => St w s (pt b77 (.cells (MendArc.cells x0).toArray 144 (0, 0)) :: pt pb0 (.cells #[.pointer (some ⟨pb5, 0, none⟩)] 122 (0, 0)) :: pt pb1 (.cells #[.slice a_v0 y1.length c_v0] 29 (0, 0)) :: pt pb2 (.cells #[.bool y2] 4 (0, 0)) :: pt pb3 (.cells #[.slice a_v1 y3.length c_v1] 71 (0, 0)) :: pt pb4 (.cells #[.slice a_v2 y4.length c_v2] 29 (0, 0)) :: pt pb5 (.cells #[.slice a_v3 y5.times.length c_v3, .slice a_y5_1 y5.last.length c_y5_1, .slice a_v4 y5.outs.length c_v4] 127 (0, 0)) :: vecC 3 1 a_v0 c_v0 y1.length cs127 :: vecC 4 1 a_v1 c_v1 y3.length cs_v1 :: vecC 3 1 a_v2 c_v2 y4.length cs_v2 :: vecC 3 1 a_v3 c_v3 y5.times.length cs107 :: vecC 97 1 a_v4 c_v4 y5.outs.length cs_v4 :: R)) (fun w => St w s (pt b77 (.cells (MendArc.cells x0).toArray 144 (0, 0)) :: pt pb0 (.cells #[.pointer (some ⟨pb5, 0, none⟩)] 122 (0, 0)) :: pt pb1 (.cells #[.slice a_v0 y1.length c_v0] 29 (0, 0)) :: pt pb3 (.cells #[.slice a_v1 y3.length c_v1] 71 (0, 0)) :: pt pb4 (.cells #[.slice a_v2 y4.length c_v2] 29 (0, 0)) :: pt pb5 (.cells #[.slice a_v3 y5.times.length c_v3, .slice a_y5_1 y5.last.length c_y5_1, .slice a_v4 y5.outs.length c_v4] 127 (0, 0)) :: vecC 3 1 a_v0 c_v0 y1.length cs127 :: vecC 4 1 a_v1 c_v1 y3.length cs_v1 :: vecC 3 1 a_v2 c_v2 y4.length cs_v2 :: vecC 3 1 a_v3 c_v3 y5.times.length cs107 :: vecC 97 1 a_v4 c_v4 y5.outs.length cs_v4 :: R))) (fun b i => cond b ([0, 1, 2, 3, 4, 5, 6, 7, 8, 9, 10, 11, 12, 13, 14, 15, 16, 17, 18, 19, 20, 21, 22, 23, 24, 25, 26, 27, 28, 29, 30, 31, 32, 33, 34, 35].contains i) ([0, 1, 2, 3, 4, 5, 6, 7, 8, 9, 10, 11, 12, 13, 14, 15, 16, 17, 18, 19, 20, 21, 22, 23, 24, 25, 26, 27, 28, 29, 30, 31, 32, 33, 34, 35, 36].contains i)) mixed ?_
   replace hS := hS.drew
   have hT := tw_sel (A := fun w => St w s (pt b77 (.cells (MendArc.cells x0).toArray 144 (0, 0)) :: pt pb0 (.cells #[.pointer (some ⟨pb5, 0, none⟩)] 122 (0, 0)) :: pt pb1 (.cells #[.slice a_v0 y1.length c_v0] 29 (0, 0)) :: pt pb2 (.cells #[.bool y2] 4 (0, 0)) :: pt pb3 (.cells #[.slice a_v1 y3.length c_v1] 71 (0, 0)) :: pt pb4 (.cells #[.slice a_v2 y4.length c_v2] 29 (0, 0)) :: pt pb5 (.cells #[.slice a_v3 y5.times.length c_v3, .slice a_y5_1 y5.last.length c_y5_1, .slice a_v4 y5.outs.length c_v4] 127 (0, 0)) :: vecC 3 1 a_v0 c_v0 y1.length cs127 :: vecC 4 1 a_v1 c_v1 y3.length cs_v1 :: vecC 3 1 a_v2 c_v2 y4.length cs_v2 :: vecC 3 1 a_v3 c_v3 y5.times.length cs107 :: vecC 97 1 a_v4 c_v4 y5.outs.length cs_v4 :: R)) (B := fun w => St w s (pt b77 (.cells (MendArc.cells x0).toArray 144 (0, 0)) :: pt pb0 (.cells #[.pointer (some ⟨pb5, 0, none⟩)] 122 (0, 0)) :: pt pb1 (.cells #[.slice a_v0 y1.length c_v0] 29 (0, 0)) :: pt pb3 (.cells #[.slice a_v1 y3.length c_v1] 71 (0, 0)) :: pt pb4 (.cells #[.slice a_v2 y4.length c_v2] 29 (0, 0)) :: pt pb5 (.cells #[.slice a_v3 y5.times.length c_v3, .slice a_y5_1 y5.last.length c_y5_1, .slice a_v4 y5.outs.length c_v4] 127 (0, 0)) :: vecC 3 1 a_v0 c_v0 y1.length cs127 :: vecC 4 1 a_v1 c_v1 y3.length cs_v1 :: vecC 3 1 a_v2 c_v2 y4.length cs_v2 :: vecC 3 1 a_v3 c_v3 y5.times.length cs107 :: vecC 97 1 a_v4 c_v4 y5.outs.length cs_v4 :: R)) (w := _) (x := true) (y := true) (fun _ => hS) (fun _ => (hS.dropAt 3))
   have hF := hS; replace hS := hS
   refine Rg.take (i := 0) true rfl hE rfl (by kernel_rfl) (runs_plain rfl) (Gives.loadB hE 3 rfl rfl rfl ty4) rfl hT ?_; clear hE a; intro a hE
   replace hS := hF; clear hF hT
   refine Rg.takeP (i := 1) hE rfl (by kernel_rfl) (runs_plain rfl) (Gives.p hE rfl) rfl (tw_sel (fun _ => hS) (fun _ => (hS.dropAt 3))) ?_; clear hE a; intro a hE
   rcases Bool.eq_false_or_eq_true y2 with hg137 | hg137
   ·replace hq130 := iteT hg137 hq130
    have hT := tw_sel (A := fun w => St w s (pt b77 (.cells (MendArc.cells x0).toArray 144 (0, 0)) :: pt pb0 (.cells #[.pointer (some ⟨pb5, 0, none⟩)] 122 (0, 0)) :: pt pb1 (.cells #[.slice a_v0 y1.length c_v0] 29 (0, 0)) :: pt pb2 (.cells #[.bool y2] 4 (0, 0)) :: pt pb3 (.cells #[.slice a_v1 y3.length c_v1] 71 (0, 0)) :: pt pb4 (.cells #[.slice a_v2 y4.length c_v2] 29 (0, 0)) :: pt pb5 (.cells #[.slice a_v3 y5.times.length c_v3, .slice a_y5_1 y5.last.length c_y5_1, .slice a_v4 y5.outs.length c_v4] 127 (0, 0)) :: vecC 3 1 a_v0 c_v0 y1.length cs127 :: vecC 4 1 a_v1 c_v1 y3.length cs_v1 :: vecC 3 1 a_v2 c_v2 y4.length cs_v2 :: vecC 3 1 a_v3 c_v3 y5.times.length cs107 :: vecC 97 1 a_v4 c_v4 y5.outs.length cs_v4 :: R)) (B := fun w => St w s (pt b77 (.cells (MendArc.cells x0).toArray 144 (0, 0)) :: pt pb0 (.cells #[.pointer (some ⟨pb5, 0, none⟩)] 122 (0, 0)) :: pt pb1 (.cells #[.slice a_v0 y1.length c_v0] 29 (0, 0)) :: pt pb3 (.cells #[.slice a_v1 y3.length c_v1] 71 (0, 0)) :: pt pb4 (.cells #[.slice a_v2 y4.length c_v2] 29 (0, 0)) :: pt pb5 (.cells #[.slice a_v3 y5.times.length c_v3, .slice a_y5_1 y5.last.length c_y5_1, .slice a_v4 y5.outs.length c_v4] 127 (0, 0)) :: vecC 3 1 a_v0 c_v0 y1.length cs127 :: vecC 4 1 a_v1 c_v1 y3.length cs_v1 :: vecC 3 1 a_v2 c_v2 y4.length cs_v2 :: vecC 3 1 a_v3 c_v3 y5.times.length cs107 :: vecC 97 1 a_v4 c_v4 y5.outs.length cs_v4 :: R)) (w := _) (x := true) (y := true) (fun _ => hS) (fun _ => (hS.dropAt 3))
    have hF := hS; replace hS := hS
    refine Rg.take (i := 2) true rfl hE rfl (by kernel_rfl) (runs_if hE rfl rfl rfl hg137) (Gives.loadB hE 1 rfl rfl rfl ty122) rfl hT ?_; clear hE a; intro a hE
    replace hS := hF; clear hF hT
    have hT := tw_sel (A := fun w => St w s (pt b77 (.cells (MendArc.cells x0).toArray 144 (0, 0)) :: pt pb0 (.cells #[.pointer (some ⟨pb5, 0, none⟩)] 122 (0, 0)) :: pt pb1 (.cells #[.slice a_v0 y1.length c_v0] 29 (0, 0)) :: pt pb2 (.cells #[.bool y2] 4 (0, 0)) :: pt pb3 (.cells #[.slice a_v1 y3.length c_v1] 71 (0, 0)) :: pt pb4 (.cells #[.slice a_v2 y4.length c_v2] 29 (0, 0)) :: pt pb5 (.cells #[.slice a_v3 y5.times.length c_v3, .slice a_y5_1 y5.last.length c_y5_1, .slice a_v4 y5.outs.length c_v4] 127 (0, 0)) :: vecC 3 1 a_v0 c_v0 y1.length cs127 :: vecC 4 1 a_v1 c_v1 y3.length cs_v1 :: vecC 3 1 a_v2 c_v2 y4.length cs_v2 :: vecC 3 1 a_v3 c_v3 y5.times.length cs107 :: vecC 97 1 a_v4 c_v4 y5.outs.length cs_v4 :: R)) (B := fun w => St w s (pt b77 (.cells (MendArc.cells x0).toArray 144 (0, 0)) :: pt pb0 (.cells #[.pointer (some ⟨pb5, 0, none⟩)] 122 (0, 0)) :: pt pb1 (.cells #[.slice a_v0 y1.length c_v0] 29 (0, 0)) :: pt pb3 (.cells #[.slice a_v1 y3.length c_v1] 71 (0, 0)) :: pt pb4 (.cells #[.slice a_v2 y4.length c_v2] 29 (0, 0)) :: pt pb5 (.cells #[.slice a_v3 y5.times.length c_v3, .slice a_y5_1 y5.last.length c_y5_1, .slice a_v4 y5.outs.length c_v4] 127 (0, 0)) :: vecC 3 1 a_v0 c_v0 y1.length cs127 :: vecC 4 1 a_v1 c_v1 y3.length cs_v1 :: vecC 3 1 a_v2 c_v2 y4.length cs_v2 :: vecC 3 1 a_v3 c_v3 y5.times.length cs107 :: vecC 97 1 a_v4 c_v4 y5.outs.length cs_v4 :: R)) (w := _) (x := true) (y := true) (fun _ => hS) (fun _ => (hS.dropAt 3))
    have hF := hS; replace hS := hS
    refine Rg.take (i := 3) true rfl hE rfl (by kernel_rfl) (runs_if hE rfl rfl rfl hg137) (Gives.nilOk hE rfl) rfl hT ?_; clear hE a; intro a hE
    replace hS := hF; clear hF hT
    refine Rg.takeP (i := 4) hE rfl (by kernel_rfl) (runs_if hE rfl rfl rfl hg137) (Gives.fld hE rfl fl127_1) rfl (tw_sel (fun _ => hS) (fun _ => (hS.dropAt 3))) ?_; clear hE a; intro a hE
    have hT := tw_sel (A := fun w => St w s (pt b77 (.cells (MendArc.cells x0).toArray 144 (0, 0)) :: pt pb0 (.cells #[.pointer (some ⟨pb5, 0, none⟩)] 122 (0, 0)) :: pt pb1 (.cells #[.slice a_v0 y1.length c_v0] 29 (0, 0)) :: pt pb2 (.cells #[.bool y2] 4 (0, 0)) :: pt pb3 (.cells #[.slice a_v1 y3.length c_v1] 71 (0, 0)) :: pt pb4 (.cells #[.slice a_v2 y4.length c_v2] 29 (0, 0)) :: pt pb5 (.cells #[.slice a_v3 y5.times.length c_v3, .slice a_y5_1 y5.last.length c_y5_1, .slice a_v4 y5.outs.length c_v4] 127 (0, 0)) :: vecC 3 1 a_v0 c_v0 y1.length cs127 :: vecC 4 1 a_v1 c_v1 y3.length cs_v1 :: vecC 3 1 a_v2 c_v2 y4.length cs_v2 :: vecC 3 1 a_v3 c_v3 y5.times.length cs107 :: vecC 97 1 a_v4 c_v4 y5.outs.length cs_v4 :: R)) (B := fun w => St w s (pt b77 (.cells (MendArc.cells x0).toArray 144 (0, 0)) :: pt pb0 (.cells #[.pointer (some ⟨pb5, 0, none⟩)] 122 (0, 0)) :: pt pb1 (.cells #[.slice a_v0 y1.length c_v0] 29 (0, 0)) :: pt pb3 (.cells #[.slice a_v1 y3.length c_v1] 71 (0, 0)) :: pt pb4 (.cells #[.slice a_v2 y4.length c_v2] 29 (0, 0)) :: pt pb5 (.cells #[.slice a_v3 y5.times.length c_v3, .slice a_y5_1 y5.last.length c_y5_1, .slice a_v4 y5.outs.length c_v4] 127 (0, 0)) :: vecC 3 1 a_v0 c_v0 y1.length cs127 :: vecC 4 1 a_v1 c_v1 y3.length cs_v1 :: vecC 3 1 a_v2 c_v2 y4.length cs_v2 :: vecC 3 1 a_v3 c_v3 y5.times.length cs107 :: vecC 97 1 a_v4 c_v4 y5.outs.length cs_v4 :: R)) (w := _) (x := true) (y := true) (fun _ => hS) (fun _ => (hS.dropAt 3))
    have hF := hS; replace hS := hS
    refine Rg.take (i := 5) true rfl hE rfl (by kernel_rfl) (runs_if hE rfl rfl rfl hg137) (Gives.loadB hE 6 rfl rfl rfl ty29) rfl hT ?_; clear hE a; intro a hE
    replace hS := hF; clear hF hT
    refine Rg.takeP (i := 6) hE rfl (by kernel_rfl) (runs_if hE rfl rfl rfl hg137) (Gives.fld hE rfl fl144_1) rfl (tw_sel (fun _ => hS) (fun _ => (hS.dropAt 3))) ?_; clear hE a; intro a hE
    have hT := tw_sel (A := fun w => St w s (pt b77 (.cells (MendArc.cells x0).toArray 144 (0, 0)) :: pt pb0 (.cells #[.pointer (some ⟨pb5, 0, none⟩)] 122 (0, 0)) :: pt pb1 (.cells #[.slice a_v0 y1.length c_v0] 29 (0, 0)) :: pt pb2 (.cells #[.bool y2] 4 (0, 0)) :: pt pb3 (.cells #[.slice a_v1 y3.length c_v1] 71 (0, 0)) :: pt pb4 (.cells #[.slice a_v2 y4.length c_v2] 29 (0, 0)) :: pt pb5 (.cells #[.slice a_v3 y5.times.length c_v3, .slice a_y5_1 y5.last.length c_y5_1, .slice a_v4 y5.outs.length c_v4] 127 (0, 0)) :: vecC 3 1 a_v0 c_v0 y1.length cs127 :: vecC 4 1 a_v1 c_v1 y3.length cs_v1 :: vecC 3 1 a_v2 c_v2 y4.length cs_v2 :: vecC 3 1 a_v3 c_v3 y5.times.length cs107 :: vecC 97 1 a_v4 c_v4 y5.outs.length cs_v4 :: R)) (B := fun w => St w s (pt b77 (.cells (MendArc.cells x0).toArray 144 (0, 0)) :: pt pb0 (.cells #[.pointer (some ⟨pb5, 0, none⟩)] 122 (0, 0)) :: pt pb1 (.cells #[.slice a_v0 y1.length c_v0] 29 (0, 0)) :: pt pb3 (.cells #[.slice a_v1 y3.length c_v1] 71 (0, 0)) :: pt pb4 (.cells #[.slice a_v2 y4.length c_v2] 29 (0, 0)) :: pt pb5 (.cells #[.slice a_v3 y5.times.length c_v3, .slice a_y5_1 y5.last.length c_y5_1, .slice a_v4 y5.outs.length c_v4] 127 (0, 0)) :: vecC 3 1 a_v0 c_v0 y1.length cs127 :: vecC 4 1 a_v1 c_v1 y3.length cs_v1 :: vecC 3 1 a_v2 c_v2 y4.length cs_v2 :: vecC 3 1 a_v3 c_v3 y5.times.length cs107 :: vecC 97 1 a_v4 c_v4 y5.outs.length cs_v4 :: R)) (w := _) (x := true) (y := true) (fun _ => hS) (fun _ => (hS.dropAt 3))
    have hF := hS; replace hS := hS
    refine Rg.take (i := 7) true rfl hE rfl (by kernel_rfl) (runs_if hE rfl rfl rfl hg137) (Gives.loadB hE 0 rfl rfl rfl ty3) rfl hT ?_; clear hE a; intro a hE
    replace hS := hF; clear hF hT
    obtain ⟨x138, hx139, hq130⟩ := bindS hq130
    obtain ⟨hi140, hlt141, hy142⟩ := gx_some hx139
    obtain ⟨cs143, hl144, hR145, hat146⟩ := h_y5_1.at hy142
    subst hR145
    refine Rg.takeP (i := 8) hE rfl (by kernel_rfl) (runs_if hE rfl rfl rfl hg137) (Gives.idx hE (x0.To).toNat rfl rfl sl29 hi140 hlt141 (h_y5_1.aok hlt141)) rfl (tw_sel (fun _ => hS) (fun _ => (hS.dropAt 3))) ?_; clear hE a; intro a hE
    have hT := tw_sel (A := fun w => St w s (pt b77 (.cells (MendArc.cells x0).toArray 144 (0, 0)) :: pt pb0 (.cells #[.pointer (some ⟨pb5, 0, none⟩)] 122 (0, 0)) :: pt pb1 (.cells #[.slice a_v0 y1.length c_v0] 29 (0, 0)) :: pt pb2 (.cells #[.bool y2] 4 (0, 0)) :: pt pb3 (.cells #[.slice a_v1 y3.length c_v1] 71 (0, 0)) :: pt pb4 (.cells #[.slice a_v2 y4.length c_v2] 29 (0, 0)) :: pt pb5 (.cells #[.slice a_v3 y5.times.length c_v3, .slice a_y5_1 y5.last.length c_y5_1, .slice a_v4 y5.outs.length c_v4] 127 (0, 0)) :: vecC 3 1 a_v0 c_v0 y1.length cs127 :: vecC 4 1 a_v1 c_v1 y3.length cs_v1 :: vecC 3 1 a_v2 c_v2 y4.length cs_v2 :: vecC 3 1 a_v3 c_v3 y5.times.length cs107 :: vecC 97 1 a_v4 c_v4 y5.outs.length cs_v4 :: R)) (B := fun w => St w s (pt b77 (.cells (MendArc.cells x0).toArray 144 (0, 0)) :: pt pb0 (.cells #[.pointer (some ⟨pb5, 0, none⟩)] 122 (0, 0)) :: pt pb1 (.cells #[.slice a_v0 y1.length c_v0] 29 (0, 0)) :: pt pb3 (.cells #[.slice a_v1 y3.length c_v1] 71 (0, 0)) :: pt pb4 (.cells #[.slice a_v2 y4.length c_v2] 29 (0, 0)) :: pt pb5 (.cells #[.slice a_v3 y5.times.length c_v3, .slice a_y5_1 y5.last.length c_y5_1, .slice a_v4 y5.outs.length c_v4] 127 (0, 0)) :: vecC 3 1 a_v0 c_v0 y1.length cs127 :: vecC 4 1 a_v1 c_v1 y3.length cs_v1 :: vecC 3 1 a_v2 c_v2 y4.length cs_v2 :: vecC 3 1 a_v3 c_v3 y5.times.length cs107 :: vecC 97 1 a_v4 c_v4 y5.outs.length cs_v4 :: R)) (w := _) (x := true) (y := true) (fun _ => hS) (fun _ => (hS.dropAt 3))
    have hF := hS; replace hS := hS
    refine Rg.take (i := 9) true rfl hE rfl (by kernel_rfl) (runs_if hE rfl rfl rfl hg137) (Gives.load1 hE rfl (fun w h => hat146 w _ h) ty3) rfl hT ?_; clear hE a; intro a hE
    replace hS := hF; clear hF hT
    refine Rg.takeP (i := 10) hE rfl (by kernel_rfl) (runs_if hE rfl rfl rfl hg137) (Gives.p hE rfl) rfl (tw_sel (fun _ => hS) (fun _ => (hS.dropAt 3))) ?_; clear hE a; intro a hE
    refine Rg.takeP (i := 11) hE rfl (by kernel_rfl) (runs_if hE rfl rfl rfl hg137) (Gives.p hE rfl) rfl (tw_sel (fun _ => hS) (fun _ => (hS.dropAt 3))) ?_; clear hE a; intro a hE
    rcases Bool.eq_false_or_eq_true (decide (x138 < 0)) with hg147 | hg147
    ·replace hq130 := iteT hg147 hq130
     refine Rg.no (i := 12) hE rfl (by kernel_rfl) (runs_not hE rfl rfl rfl (by rw [hg147]; decide)) rfl (tw_sel (fun _ => hS) (fun _ => (hS.dropAt 3))) ?_; clear hE a; intro a hE
     refine Rg.no (i := 13) hE rfl (by kernel_rfl) (runs_not hE rfl rfl rfl (by rw [hg147]; decide)) rfl (tw_sel (fun _ => hS) (fun _ => (hS.dropAt 3))) ?_; clear hE a; intro a hE
     refine Rg.no (i := 14) hE rfl (by kernel_rfl) (runs_not hE rfl rfl rfl (by rw [hg147]; decide)) rfl (tw_sel (fun _ => hS) (fun _ => (hS.dropAt 3))) ?_; clear hE a; intro a hE
     refine Rg.no (i := 15) hE rfl (by kernel_rfl) (runs_not hE rfl rfl rfl (by rw [hg147]; decide)) rfl (tw_sel (fun _ => hS) (fun _ => (hS.dropAt 3))) ?_; clear hE a; intro a hE
     refine Rg.no (i := 16) hE rfl (by kernel_rfl) (runs_not hE rfl rfl rfl (by rw [hg147]; decide)) rfl (tw_sel (fun _ => hS) (fun _ => (hS.dropAt 3))) ?_; clear hE a; intro a hE
     refine Rg.no (i := 17) hE rfl (by kernel_rfl) (runs_not hE rfl rfl rfl (by rw [hg147]; decide)) rfl (tw_sel (fun _ => hS) (fun _ => (hS.dropAt 3))) ?_; clear hE a; intro a hE
     refine Rg.no (i := 18) hE rfl (by kernel_rfl) (runs_not hE rfl rfl rfl (by rw [hg147]; decide)) rfl (tw_sel (fun _ => hS) (fun _ => (hS.dropAt 3))) ?_; clear hE a; intro a hE
     refine Rg.no (i := 19) hE rfl (by kernel_rfl) (runs_not hE rfl rfl rfl (by rw [hg147]; decide)) rfl (tw_sel (fun _ => hS) (fun _ => (hS.dropAt 3))) ?_; clear hE a; intro a hE
     refine Rg.no (i := 20) hE rfl (by kernel_rfl) (runs_not hE rfl rfl rfl (by rw [hg147]; decide)) rfl (tw_sel (fun _ => hS) (fun _ => (hS.dropAt 3))) ?_; clear hE a; intro a hE
     refine Rg.no (i := 21) hE rfl (by kernel_rfl) (runs_not hE rfl rfl rfl (by rw [hg147]; decide)) rfl (tw_sel (fun _ => hS) (fun _ => (hS.dropAt 3))) ?_; clear hE a; intro a hE
     refine Rg.takeP (i := 22) hE rfl (by kernel_rfl) (runs_if hE rfl rfl rfl hg137) (Gives.pickT hE rfl hg147 rfl) rfl (tw_sel (fun _ => hS) (fun _ => (hS.dropAt 3))) ?_; clear hE a; intro a hE
     refine Rg.takeP (i := 23) hE rfl (by kernel_rfl) (runs_plain rfl) (Gives.pickT hE rfl hg137 rfl) rfl (tw_sel (fun _ => hS) (fun _ => (hS.dropAt 3))) ?_; clear hE a; intro a hE
     refine Rg.takeP (i := 24) hE rfl (by kernel_rfl) (runs_plain rfl) (Gives.p hE rfl) rfl (tw_sel (fun _ => hS) (fun _ => (hS.dropAt 3))) ?_; clear hE a; intro a hE
     refine Rg.takeP (i := 25) hE rfl (by kernel_rfl) (runs_if hE rfl rfl rfl rfl) (Gives.p hE rfl) rfl (tw_sel (fun _ => hS) (fun _ => (hS.dropAt 3))) ?_; clear hE a; intro a hE
     refine Rg.takeP (i := 26) hE rfl (by kernel_rfl) (runs_if hE rfl rfl rfl rfl) (Gives.p hE rfl) rfl (tw_sel (fun _ => hS) (fun _ => (hS.dropAt 3))) ?_; clear hE a; intro a hE
     refine Rg.takeP (i := 27) hE rfl (by kernel_rfl) (runs_plain rfl) (Gives.pickT hE rfl rfl rfl) rfl (tw_sel (fun _ => hS) (fun _ => (hS.dropAt 3))) ?_; clear hE a; intro a hE
     refine Rg.takeP (i := 28) hE rfl (by kernel_rfl) (runs_plain rfl) (Gives.p hE rfl) rfl (tw_sel (fun _ => hS) (fun _ => (hS.dropAt 3))) ?_; clear hE a; intro a hE
     rcases Bool.eq_false_or_eq_true (decide ((w64 (x78 + x0.Len)) ≤ 1099511627776)) with hg148 | hg148
     ·replace hq130 := iteT hg148 hq130
      have hT := tw_sel (A := fun w => St w s (pt b77 (.cells (MendArc.cells x0).toArray 144 (0, 0)) :: pt pb0 (.cells #[.pointer (some ⟨pb5, 0, none⟩)] 122 (0, 0)) :: pt pb1 (.cells #[.slice a_v0 y1.length c_v0] 29 (0, 0)) :: pt pb2 (.cells #[.bool y2] 4 (0, 0)) :: pt pb3 (.cells #[.slice a_v1 y3.length c_v1] 71 (0, 0)) :: pt pb4 (.cells #[.slice a_v2 y4.length c_v2] 29 (0, 0)) :: pt pb5 (.cells #[.slice a_v3 y5.times.length c_v3, .slice a_y5_1 y5.last.length c_y5_1, .slice a_v4 y5.outs.length c_v4] 127 (0, 0)) :: vecC 3 1 a_v0 c_v0 y1.length cs127 :: vecC 4 1 a_v1 c_v1 y3.length cs_v1 :: vecC 3 1 a_v2 c_v2 y4.length cs_v2 :: vecC 3 1 a_v3 c_v3 y5.times.length cs107 :: vecC 97 1 a_v4 c_v4 y5.outs.length cs_v4 :: R)) (B := fun w => St w s (pt b77 (.cells (MendArc.cells x0).toArray 144 (0, 0)) :: pt pb0 (.cells #[.pointer (some ⟨pb5, 0, none⟩)] 122 (0, 0)) :: pt pb1 (.cells #[.slice a_v0 y1.length c_v0] 29 (0, 0)) :: pt pb3 (.cells #[.slice a_v1 y3.length c_v1] 71 (0, 0)) :: pt pb4 (.cells #[.slice a_v2 y4.length c_v2] 29 (0, 0)) :: pt pb5 (.cells #[.slice a_v3 y5.times.length c_v3, .slice a_y5_1 y5.last.length c_y5_1, .slice a_v4 y5.outs.length c_v4] 127 (0, 0)) :: vecC 3 1 a_v0 c_v0 y1.length cs127 :: vecC 4 1 a_v1 c_v1 y3.length cs_v1 :: vecC 3 1 a_v2 c_v2 y4.length cs_v2 :: vecC 3 1 a_v3 c_v3 y5.times.length cs107 :: vecC 97 1 a_v4 c_v4 y5.outs.length cs_v4 :: R)) (w := _) (x := true) (y := true) (fun _ => hS) (fun _ => (hS.dropAt 3))
      have hF := hS; replace hS := hS
      refine Rg.take (i := 29) true rfl hE rfl (by kernel_rfl) (runs_if hE rfl rfl rfl hg148) (Gives.loadB hE 2 rfl rfl rfl ty29) rfl hT ?_; clear hE a; intro a hE
      replace hS := hF; clear hF hT
      refine Rg.takeP (i := 30) hE rfl (by kernel_rfl) (runs_if hE rfl rfl rfl hg148) (Gives.fld hE rfl fl144_1) rfl (tw_sel (fun _ => hS) (fun _ => (hS.dropAt 3))) ?_; clear hE a; intro a hE
      have hT := tw_sel (A := fun w => St w s (pt b77 (.cells (MendArc.cells x0).toArray 144 (0, 0)) :: pt pb0 (.cells #[.pointer (some ⟨pb5, 0, none⟩)] 122 (0, 0)) :: pt pb1 (.cells #[.slice a_v0 y1.length c_v0] 29 (0, 0)) :: pt pb2 (.cells #[.bool y2] 4 (0, 0)) :: pt pb3 (.cells #[.slice a_v1 y3.length c_v1] 71 (0, 0)) :: pt pb4 (.cells #[.slice a_v2 y4.length c_v2] 29 (0, 0)) :: pt pb5 (.cells #[.slice a_v3 y5.times.length c_v3, .slice a_y5_1 y5.last.length c_y5_1, .slice a_v4 y5.outs.length c_v4] 127 (0, 0)) :: vecC 3 1 a_v0 c_v0 y1.length cs127 :: vecC 4 1 a_v1 c_v1 y3.length cs_v1 :: vecC 3 1 a_v2 c_v2 y4.length cs_v2 :: vecC 3 1 a_v3 c_v3 y5.times.length cs107 :: vecC 97 1 a_v4 c_v4 y5.outs.length cs_v4 :: R)) (B := fun w => St w s (pt b77 (.cells (MendArc.cells x0).toArray 144 (0, 0)) :: pt pb0 (.cells #[.pointer (some ⟨pb5, 0, none⟩)] 122 (0, 0)) :: pt pb1 (.cells #[.slice a_v0 y1.length c_v0] 29 (0, 0)) :: pt pb3 (.cells #[.slice a_v1 y3.length c_v1] 71 (0, 0)) :: pt pb4 (.cells #[.slice a_v2 y4.length c_v2] 29 (0, 0)) :: pt pb5 (.cells #[.slice a_v3 y5.times.length c_v3, .slice a_y5_1 y5.last.length c_y5_1, .slice a_v4 y5.outs.length c_v4] 127 (0, 0)) :: vecC 3 1 a_v0 c_v0 y1.length cs127 :: vecC 4 1 a_v1 c_v1 y3.length cs_v1 :: vecC 3 1 a_v2 c_v2 y4.length cs_v2 :: vecC 3 1 a_v3 c_v3 y5.times.length cs107 :: vecC 97 1 a_v4 c_v4 y5.outs.length cs_v4 :: R)) (w := _) (x := true) (y := true) (fun _ => hS) (fun _ => (hS.dropAt 3))
      have hF := hS; replace hS := hS
      refine Rg.take (i := 31) true rfl hE rfl (by kernel_rfl) (runs_if hE rfl rfl rfl hg148) (Gives.loadB hE 0 rfl rfl rfl ty3) rfl hT ?_; clear hE a; intro a hE
      replace hS := hF; clear hF hT
      obtain ⟨x149, hx150, hq130⟩ := bindS hq130
      obtain ⟨hi151, hlt152, hy153⟩ := gx_some hx150
      obtain ⟨vs154, hl155, hR156, hd157, hget158⟩ := h128.at hy153
      subst hR156
      refine Rg.takeP (i := 32) hE rfl (by kernel_rfl) (runs_if hE rfl rfl rfl hg148) (Gives.idx hE ((x0.To).toNat) rfl rfl sl29 hi151 (by have := hn129; omega) (hS.vecAok 7 rfl (by have := hn129; omega : (x0.To).toNat < y1.length))) rfl (tw_sel (fun _ => hS) (fun _ => (hS.dropAt 3))) ?_; clear hE a; intro a hE
      have hT := tw_sel (A := fun w => St w s (pt b77 (.cells (MendArc.cells x0).toArray 144 (0, 0)) :: pt pb0 (.cells #[.pointer (some ⟨pb5, 0, none⟩)] 122 (0, 0)) :: pt pb1 (.cells #[.slice a_v0 y1.length c_v0] 29 (0, 0)) :: pt pb2 (.cells #[.bool y2] 4 (0, 0)) :: pt pb3 (.cells #[.slice a_v1 y3.length c_v1] 71 (0, 0)) :: pt pb4 (.cells #[.slice a_v2 y4.length c_v2] 29 (0, 0)) :: pt pb5 (.cells #[.slice a_v3 y5.times.length c_v3, .slice a_y5_1 y5.last.length c_y5_1, .slice a_v4 y5.outs.length c_v4] 127 (0, 0)) :: vecC 3 1 a_v0 c_v0 y1.length cs127 :: vecC 4 1 a_v1 c_v1 y3.length cs_v1 :: vecC 3 1 a_v2 c_v2 y4.length cs_v2 :: vecC 3 1 a_v3 c_v3 y5.times.length cs107 :: vecC 97 1 a_v4 c_v4 y5.outs.length cs_v4 :: R)) (B := fun w => St w s (pt b77 (.cells (MendArc.cells x0).toArray 144 (0, 0)) :: pt pb0 (.cells #[.pointer (some ⟨pb5, 0, none⟩)] 122 (0, 0)) :: pt pb1 (.cells #[.slice a_v0 y1.length c_v0] 29 (0, 0)) :: pt pb3 (.cells #[.slice a_v1 y3.length c_v1] 71 (0, 0)) :: pt pb4 (.cells #[.slice a_v2 y4.length c_v2] 29 (0, 0)) :: pt pb5 (.cells #[.slice a_v3 y5.times.length c_v3, .slice a_y5_1 y5.last.length c_y5_1, .slice a_v4 y5.outs.length c_v4] 127 (0, 0)) :: vecC 3 1 a_v0 c_v0 y1.length cs127 :: vecC 4 1 a_v1 c_v1 y3.length cs_v1 :: vecC 3 1 a_v2 c_v2 y4.length cs_v2 :: vecC 3 1 a_v3 c_v3 y5.times.length cs107 :: vecC 97 1 a_v4 c_v4 y5.outs.length cs_v4 :: R)) (w := _) (x := true) (y := true) (fun _ => hS) (fun _ => (hS.dropAt 3))
      have hF := hS; replace hS := hS
      refine Rg.take (i := 33) true rfl hE rfl (by kernel_rfl) (runs_if hE rfl rfl rfl hg148) (Gives.load1 hE rfl (fun w h => St.vecSees h 7 rfl ((x0.To).toNat * 1) _ hget158) ty3) rfl hT ?_; clear hE a; intro a hE
      replace hS := hF; clear hF hT
      refine Rg.takeP (i := 34) hE rfl (by kernel_rfl) (runs_if hE rfl rfl rfl hg148) (Gives.p hE rfl) rfl (tw_sel (fun _ => hS) (fun _ => (hS.dropAt 3))) ?_; clear hE a; intro a hE
      refine Rg.takeP (i := 35) hE rfl (by kernel_rfl) (runs_plain rfl) (Gives.pickT hE rfl hg148 rfl) rfl (tw_sel (fun _ => hS) (fun _ => (hS.dropAt 3))) ?_; clear hE a; intro a hE
      refine Rg.one (i := 36) false true rfl (by kernel_rfl) (by kernel_rfl) (by kernel_rfl) ?_
      refine WL.storeI hE hS 3 rfl [.bool (decide (x149 ≤ 65536))] (runs_plain rfl) rfl rfl rfl ty4 rfl rfl rfl rfl ?_; clear hE hS a w; intro a w hE hS
      refine WL.nil ?_
      refine ⟨⟨fun h => absurd h (by decide), fun _ => (hS.dropAt 3)⟩, ?_⟩
      refine Rg.done (by kernel_rfl) ?_
      subst hK136
      subst hK135
      exact ⟨decide (x149 ≤ 65536), Option.some.inj hq130, hE.pick _ ⟨rfl, rfl, rfl, trivial⟩, hS⟩
     ·replace hq130 := iteF hg148 hq130
      refine Rg.no (i := 29) hE rfl (by kernel_rfl) (runs_not hE rfl rfl rfl (by rw [hg148]; decide)) rfl (tw_sel (fun _ => hS) (fun _ => (hS.dropAt 3))) ?_; clear hE a; intro a hE
      refine Rg.no (i := 30) hE rfl (by kernel_rfl) (runs_not hE rfl rfl rfl (by rw [hg148]; decide)) rfl (tw_sel (fun _ => hS) (fun _ => (hS.dropAt 3))) ?_; clear hE a; intro a hE
      refine Rg.no (i := 31) hE rfl (by kernel_rfl) (runs_not hE rfl rfl rfl (by rw [hg148]; decide)) rfl (tw_sel (fun _ => hS) (fun _ => (hS.dropAt 3))) ?_; clear hE a; intro a hE
      refine Rg.no (i := 32) hE rfl (by kernel_rfl) (runs_not hE rfl rfl rfl (by rw [hg148]; decide)) rfl (tw_sel (fun _ => hS) (fun _ => (hS.dropAt 3))) ?_; clear hE a; intro a hE
      refine Rg.no (i := 33) hE rfl (by kernel_rfl) (runs_not hE rfl rfl rfl (by rw [hg148]; decide)) rfl (tw_sel (fun _ => hS) (fun _ => (hS.dropAt 3))) ?_; clear hE a; intro a hE
      refine Rg.no (i := 34) hE rfl (by kernel_rfl) (runs_not hE rfl rfl rfl (by rw [hg148]; decide)) rfl (tw_sel (fun _ => hS) (fun _ => (hS.dropAt 3))) ?_; clear hE a; intro a hE
      refine Rg.takeP (i := 35) hE rfl (by kernel_rfl) (runs_plain rfl) (Gives.pickF hE rfl hg148 rfl) rfl (tw_sel (fun _ => hS) (fun _ => (hS.dropAt 3))) ?_; clear hE a; intro a hE
      refine Rg.one (i := 36) false true rfl (by kernel_rfl) (by kernel_rfl) (by kernel_rfl) ?_
      refine WL.storeI hE hS 3 rfl [.bool false] (runs_plain rfl) rfl rfl rfl ty4 rfl rfl rfl rfl ?_; clear hE hS a w; intro a w hE hS
      refine WL.nil ?_
      refine ⟨⟨fun h => absurd h (by decide), fun _ => (hS.dropAt 3)⟩, ?_⟩
      refine Rg.done (by kernel_rfl) ?_
      subst hK136
      subst hK135
      exact ⟨false, Option.some.inj hq130, hE.pick _ ⟨rfl, rfl, rfl, trivial⟩, hS⟩
    ·replace hq130 := iteF hg147 hq130
     refine Rg.takeP (i := 12) hE rfl (by kernel_rfl) (runs_if hE rfl rfl rfl hg147) (Gives.p hE rfl) rfl (tw_sel (fun _ => hS) (fun _ => (hS.dropAt 3))) ?_; clear hE a; intro a hE
     have hT := tw_sel (A := fun w => St w s (pt b77 (.cells (MendArc.cells x0).toArray 144 (0, 0)) :: pt pb0 (.cells #[.pointer (some ⟨pb5, 0, none⟩)] 122 (0, 0)) :: pt pb1 (.cells #[.slice a_v0 y1.length c_v0] 29 (0, 0)) :: pt pb2 (.cells #[.bool y2] 4 (0, 0)) :: pt pb3 (.cells #[.slice a_v1 y3.length c_v1] 71 (0, 0)) :: pt pb4 (.cells #[.slice a_v2 y4.length c_v2] 29 (0, 0)) :: pt pb5 (.cells #[.slice a_v3 y5.times.length c_v3, .slice a_y5_1 y5.last.length c_y5_1, .slice a_v4 y5.outs.length c_v4] 127 (0, 0)) :: vecC 3 1 a_v0 c_v0 y1.length cs127 :: vecC 4 1 a_v1 c_v1 y3.length cs_v1 :: vecC 3 1 a_v2 c_v2 y4.length cs_v2 :: vecC 3 1 a_v3 c_v3 y5.times.length cs107 :: vecC 97 1 a_v4 c_v4 y5.outs.length cs_v4 :: R)) (B := fun w => St w s (pt b77 (.cells (MendArc.cells x0).toArray 144 (0, 0)) :: pt pb0 (.cells #[.pointer (some ⟨pb5, 0, none⟩)] 122 (0, 0)) :: pt pb1 (.cells #[.slice a_v0 y1.length c_v0] 29 (0, 0)) :: pt pb3 (.cells #[.slice a_v1 y3.length c_v1] 71 (0, 0)) :: pt pb4 (.cells #[.slice a_v2 y4.length c_v2] 29 (0, 0)) :: pt pb5 (.cells #[.slice a_v3 y5.times.length c_v3, .slice a_y5_1 y5.last.length c_y5_1, .slice a_v4 y5.outs.length c_v4] 127 (0, 0)) :: vecC 3 1 a_v0 c_v0 y1.length cs127 :: vecC 4 1 a_v1 c_v1 y3.length cs_v1 :: vecC 3 1 a_v2 c_v2 y4.length cs_v2 :: vecC 3 1 a_v3 c_v3 y5.times.length cs107 :: vecC 97 1 a_v4 c_v4 y5.outs.length cs_v4 :: R)) (w := _) (x := true) (y := true) (fun _ => hS) (fun _ => (hS.dropAt 3))
     have hF := hS; replace hS := hS
     refine Rg.take (i := 13) true rfl hE rfl (by kernel_rfl) (runs_if hE rfl rfl rfl hg147) (Gives.loadB hE 1 rfl rfl rfl ty122) rfl hT ?_; clear hE a; intro a hE
     replace hS := hF; clear hF hT
     have hT := tw_sel (A := fun w => St w s (pt b77 (.cells (MendArc.cells x0).toArray 144 (0, 0)) :: pt pb0 (.cells #[.pointer (some ⟨pb5, 0, none⟩)] 122 (0, 0)) :: pt pb1 (.cells #[.slice a_v0 y1.length c_v0] 29 (0, 0)) :: pt pb2 (.cells #[.bool y2] 4 (0, 0)) :: pt pb3 (.cells #[.slice a_v1 y3.length c_v1] 71 (0, 0)) :: pt pb4 (.cells #[.slice a_v2 y4.length c_v2] 29 (0, 0)) :: pt pb5 (.cells #[.slice a_v3 y5.times.length c_v3, .slice a_y5_1 y5.last.length c_y5_1, .slice a_v4 y5.outs.length c_v4] 127 (0, 0)) :: vecC 3 1 a_v0 c_v0 y1.length cs127 :: vecC 4 1 a_v1 c_v1 y3.length cs_v1 :: vecC 3 1 a_v2 c_v2 y4.length cs_v2 :: vecC 3 1 a_v3 c_v3 y5.times.length cs107 :: vecC 97 1 a_v4 c_v4 y5.outs.length cs_v4 :: R)) (B := fun w => St w s (pt b77 (.cells (MendArc.cells x0).toArray 144 (0, 0)) :: pt pb0 (.cells #[.pointer (some ⟨pb5, 0, none⟩)] 122 (0, 0)) :: pt pb1 (.cells #[.slice a_v0 y1.length c_v0] 29 (0, 0)) :: pt pb3 (.cells #[.slice a_v1 y3.length c_v1] 71 (0, 0)) :: pt pb4 (.cells #[.slice a_v2 y4.length c_v2] 29 (0, 0)) :: pt pb5 (.cells #[.slice a_v3 y5.times.length c_v3, .slice a_y5_1 y5.last.length c_y5_1, .slice a_v4 y5.outs.length c_v4] 127 (0, 0)) :: vecC 3 1 a_v0 c_v0 y1.length cs127 :: vecC 4 1 a_v1 c_v1 y3.length cs_v1 :: vecC 3 1 a_v2 c_v2 y4.length cs_v2 :: vecC 3 1 a_v3 c_v3 y5.times.length cs107 :: vecC 97 1 a_v4 c_v4 y5.outs.length cs_v4 :: R)) (w := _) (x := true) (y := true) (fun _ => hS) (fun _ => (hS.dropAt 3))
     have hF := hS; replace hS := hS
     refine Rg.take (i := 14) true rfl hE rfl (by kernel_rfl) (runs_if hE rfl rfl rfl hg147) (Gives.nilOk hE rfl) rfl hT ?_; clear hE a; intro a hE
     replace hS := hF; clear hF hT
     refine Rg.takeP (i := 15) hE rfl (by kernel_rfl) (runs_if hE rfl rfl rfl hg147) (Gives.fld hE rfl fl127_1) rfl (tw_sel (fun _ => hS) (fun _ => (hS.dropAt 3))) ?_; clear hE a; intro a hE
     have hT := tw_sel (A := fun w => St w s (pt b77 (.cells (MendArc.cells x0).toArray 144 (0, 0)) :: pt pb0 (.cells #[.pointer (some ⟨pb5, 0, none⟩)] 122 (0, 0)) :: pt pb1 (.cells #[.slice a_v0 y1.length c_v0] 29 (0, 0)) :: pt pb2 (.cells #[.bool y2] 4 (0, 0)) :: pt pb3 (.cells #[.slice a_v1 y3.length c_v1] 71 (0, 0)) :: pt pb4 (.cells #[.slice a_v2 y4.length c_v2] 29 (0, 0)) :: pt pb5 (.cells #[.slice a_v3 y5.times.length c_v3, .slice a_y5_1 y5.last.length c_y5_1, .slice a_v4 y5.outs.length c_v4] 127 (0, 0)) :: vecC 3 1 a_v0 c_v0 y1.length cs127 :: vecC 4 1 a_v1 c_v1 y3.length cs_v1 :: vecC 3 1 a_v2 c_v2 y4.length cs_v2 :: vecC 3 1 a_v3 c_v3 y5.times.length cs107 :: vecC 97 1 a_v4 c_v4 y5.outs.length cs_v4 :: R)) (B := fun w => St w s (pt b77 (.cells (MendArc.cells x0).toArray 144 (0, 0)) :: pt pb0 (.cells #[.pointer (some ⟨pb5, 0, none⟩)] 122 (0, 0)) :: pt pb1 (.cells #[.slice a_v0 y1.length c_v0] 29 (0, 0)) :: pt pb3 (.cells #[.slice a_v1 y3.length c_v1] 71 (0, 0)) :: pt pb4 (.cells #[.slice a_v2 y4.length c_v2] 29 (0, 0)) :: pt pb5 (.cells #[.slice a_v3 y5.times.length c_v3, .slice a_y5_1 y5.last.length c_y5_1, .slice a_v4 y5.outs.length c_v4] 127 (0, 0)) :: vecC 3 1 a_v0 c_v0 y1.length cs127 :: vecC 4 1 a_v1 c_v1 y3.length cs_v1 :: vecC 3 1 a_v2 c_v2 y4.length cs_v2 :: vecC 3 1 a_v3 c_v3 y5.times.length cs107 :: vecC 97 1 a_v4 c_v4 y5.outs.length cs_v4 :: R)) (w := _) (x := true) (y := true) (fun _ => hS) (fun _ => (hS.dropAt 3))
     have hF := hS; replace hS := hS
     refine Rg.take (i := 16) true rfl hE rfl (by kernel_rfl) (runs_if hE rfl rfl rfl hg147) (Gives.loadB hE 6 rfl rfl rfl ty29) rfl hT ?_; clear hE a; intro a hE
     replace hS := hF; clear hF hT
     refine Rg.takeP (i := 17) hE rfl (by kernel_rfl) (runs_if hE rfl rfl rfl hg147) (Gives.fld hE rfl fl144_1) rfl (tw_sel (fun _ => hS) (fun _ => (hS.dropAt 3))) ?_; clear hE a; intro a hE
     have hT := tw_sel (A := fun w => St w s (pt b77 (.cells (MendArc.cells x0).toArray 144 (0, 0)) :: pt pb0 (.cells #[.pointer (some ⟨pb5, 0, none⟩)] 122 (0, 0)) :: pt pb1 (.cells #[.slice a_v0 y1.length c_v0] 29 (0, 0)) :: pt pb2 (.cells #[.bool y2] 4 (0, 0)) :: pt pb3 (.cells #[.slice a_v1 y3.length c_v1] 71 (0, 0)) :: pt pb4 (.cells #[.slice a_v2 y4.length c_v2] 29 (0, 0)) :: pt pb5 (.cells #[.slice a_v3 y5.times.length c_v3, .slice a_y5_1 y5.last.length c_y5_1, .slice a_v4 y5.outs.length c_v4] 127 (0, 0)) :: vecC 3 1 a_v0 c_v0 y1.length cs127 :: vecC 4 1 a_v1 c_v1 y3.length cs_v1 :: vecC 3 1 a_v2 c_v2 y4.length cs_v2 :: vecC 3 1 a_v3 c_v3 y5.times.length cs107 :: vecC 97 1 a_v4 c_v4 y5.outs.length cs_v4 :: R)) (B := fun w => St w s (pt b77 (.cells (MendArc.cells x0).toArray 144 (0, 0)) :: pt pb0 (.cells #[.pointer (some ⟨pb5, 0, none⟩)] 122 (0, 0)) :: pt pb1 (.cells #[.slice a_v0 y1.length c_v0] 29 (0, 0)) :: pt pb3 (.cells #[.slice a_v1 y3.length c_v1] 71 (0, 0)) :: pt pb4 (.cells #[.slice a_v2 y4.length c_v2] 29 (0, 0)) :: pt pb5 (.cells #[.slice a_v3 y5.times.length c_v3, .slice a_y5_1 y5.last.length c_y5_1, .slice a_v4 y5.outs.length c_v4] 127 (0, 0)) :: vecC 3 1 a_v0 c_v0 y1.length cs127 :: vecC 4 1 a_v1 c_v1 y3.length cs_v1 :: vecC 3 1 a_v2 c_v2 y4.length cs_v2 :: vecC 3 1 a_v3 c_v3 y5.times.length cs107 :: vecC 97 1 a_v4 c_v4 y5.outs.length cs_v4 :: R)) (w := _) (x := true) (y := true) (fun _ => hS) (fun _ => (hS.dropAt 3))
     have hF := hS; replace hS := hS
     refine Rg.take (i := 18) true rfl hE rfl (by kernel_rfl) (runs_if hE rfl rfl rfl hg147) (Gives.loadB hE 0 rfl rfl rfl ty3) rfl hT ?_; clear hE a; intro a hE
     replace hS := hF; clear hF hT
     obtain ⟨x159, hx160, hq130⟩ := bindS hq130
     obtain ⟨hi161, hlt162, hy163⟩ := gx_some hx160
     obtain ⟨cs164, hl165, hR166, hat167⟩ := h_y5_1.at hy163
     subst hR166
     refine Rg.takeP (i := 19) hE rfl (by kernel_rfl) (runs_if hE rfl rfl rfl hg147) (Gives.idx hE (x0.To).toNat rfl rfl sl29 hi161 hlt162 (h_y5_1.aok hlt162)) rfl (tw_sel (fun _ => hS) (fun _ => (hS.dropAt 3))) ?_; clear hE a; intro a hE
     have hT := tw_sel (A := fun w => St w s (pt b77 (.cells (MendArc.cells x0).toArray 144 (0, 0)) :: pt pb0 (.cells #[.pointer (some ⟨pb5, 0, none⟩)] 122 (0, 0)) :: pt pb1 (.cells #[.slice a_v0 y1.length c_v0] 29 (0, 0)) :: pt pb2 (.cells #[.bool y2] 4 (0, 0)) :: pt pb3 (.cells #[.slice a_v1 y3.length c_v1] 71 (0, 0)) :: pt pb4 (.cells #[.slice a_v2 y4.length c_v2] 29 (0, 0)) :: pt pb5 (.cells #[.slice a_v3 y5.times.length c_v3, .slice a_y5_1 y5.last.length c_y5_1, .slice a_v4 y5.outs.length c_v4] 127 (0, 0)) :: vecC 3 1 a_v0 c_v0 y1.length cs127 :: vecC 4 1 a_v1 c_v1 y3.length cs_v1 :: vecC 3 1 a_v2 c_v2 y4.length cs_v2 :: vecC 3 1 a_v3 c_v3 y5.times.length cs107 :: vecC 97 1 a_v4 c_v4 y5.outs.length cs_v4 :: R)) (B := fun w => St w s (pt b77 (.cells (MendArc.cells x0).toArray 144 (0, 0)) :: pt pb0 (.cells #[.pointer (some ⟨pb5, 0, none⟩)] 122 (0, 0)) :: pt pb1 (.cells #[.slice a_v0 y1.length c_v0] 29 (0, 0)) :: pt pb3 (.cells #[.slice a_v1 y3.length c_v1] 71 (0, 0)) :: pt pb4 (.cells #[.slice a_v2 y4.length c_v2] 29 (0, 0)) :: pt pb5 (.cells #[.slice a_v3 y5.times.length c_v3, .slice a_y5_1 y5.last.length c_y5_1, .slice a_v4 y5.outs.length c_v4] 127 (0, 0)) :: vecC 3 1 a_v0 c_v0 y1.length cs127 :: vecC 4 1 a_v1 c_v1 y3.length cs_v1 :: vecC 3 1 a_v2 c_v2 y4.length cs_v2 :: vecC 3 1 a_v3 c_v3 y5.times.length cs107 :: vecC 97 1 a_v4 c_v4 y5.outs.length cs_v4 :: R)) (w := _) (x := true) (y := true) (fun _ => hS) (fun _ => (hS.dropAt 3))
     have hF := hS; replace hS := hS
     refine Rg.take (i := 20) true rfl hE rfl (by kernel_rfl) (runs_if hE rfl rfl rfl hg147) (Gives.load1 hE rfl (fun w h => hat167 w _ h) ty3) rfl hT ?_; clear hE a; intro a hE
     replace hS := hF; clear hF hT
     refine Rg.takeP (i := 21) hE rfl (by kernel_rfl) (runs_if hE rfl rfl rfl hg147) (Gives.p hE rfl) rfl (tw_sel (fun _ => hS) (fun _ => (hS.dropAt 3))) ?_; clear hE a; intro a hE
     refine Rg.takeP (i := 22) hE rfl (by kernel_rfl) (runs_if hE rfl rfl rfl hg137) (Gives.pickF hE rfl hg147 rfl) rfl (tw_sel (fun _ => hS) (fun _ => (hS.dropAt 3))) ?_; clear hE a; intro a hE
     refine Rg.takeP (i := 23) hE rfl (by kernel_rfl) (runs_plain rfl) (Gives.pickT hE rfl hg137 rfl) rfl (tw_sel (fun _ => hS) (fun _ => (hS.dropAt 3))) ?_; clear hE a; intro a hE
     refine Rg.takeP (i := 24) hE rfl (by kernel_rfl) (runs_plain rfl) (Gives.p hE rfl) rfl (tw_sel (fun _ => hS) (fun _ => (hS.dropAt 3))) ?_; clear hE a; intro a hE
     rcases Bool.eq_false_or_eq_true (decide ((w64 (x78 + x0.Len)) ≤ x159)) with hg168 | hg168
     ·replace hq130 := iteT hg168 hq130
      refine Rg.takeP (i := 25) hE rfl (by kernel_rfl) (runs_if hE rfl rfl rfl hg168) (Gives.p hE rfl) rfl (tw_sel (fun _ => hS) (fun _ => (hS.dropAt 3))) ?_; clear hE a; intro a hE
      refine Rg.takeP (i := 26) hE rfl (by kernel_rfl) (runs_if hE rfl rfl rfl hg168) (Gives.p hE rfl) rfl (tw_sel (fun _ => hS) (fun _ => (hS.dropAt 3))) ?_; clear hE a; intro a hE
      refine Rg.takeP (i := 27) hE rfl (by kernel_rfl) (runs_plain rfl) (Gives.pickT hE rfl hg168 rfl) rfl (tw_sel (fun _ => hS) (fun _ => (hS.dropAt 3))) ?_; clear hE a; intro a hE
      refine Rg.takeP (i := 28) hE rfl (by kernel_rfl) (runs_plain rfl) (Gives.p hE rfl) rfl (tw_sel (fun _ => hS) (fun _ => (hS.dropAt 3))) ?_; clear hE a; intro a hE
      rcases Bool.eq_false_or_eq_true (decide ((w64 (x78 + x0.Len)) ≤ 1099511627776)) with hg169 | hg169
      ·replace hq130 := iteT hg169 hq130
       have hT := tw_sel (A := fun w => St w s (pt b77 (.cells (MendArc.cells x0).toArray 144 (0, 0)) :: pt pb0 (.cells #[.pointer (some ⟨pb5, 0, none⟩)] 122 (0, 0)) :: pt pb1 (.cells #[.slice a_v0 y1.length c_v0] 29 (0, 0)) :: pt pb2 (.cells #[.bool y2] 4 (0, 0)) :: pt pb3 (.cells #[.slice a_v1 y3.length c_v1] 71 (0, 0)) :: pt pb4 (.cells #[.slice a_v2 y4.length c_v2] 29 (0, 0)) :: pt pb5 (.cells #[.slice a_v3 y5.times.length c_v3, .slice a_y5_1 y5.last.length c_y5_1, .slice a_v4 y5.outs.length c_v4] 127 (0, 0)) :: vecC 3 1 a_v0 c_v0 y1.length cs127 :: vecC 4 1 a_v1 c_v1 y3.length cs_v1 :: vecC 3 1 a_v2 c_v2 y4.length cs_v2 :: vecC 3 1 a_v3 c_v3 y5.times.length cs107 :: vecC 97 1 a_v4 c_v4 y5.outs.length cs_v4 :: R)) (B := fun w => St w s (pt b77 (.cells (MendArc.cells x0).toArray 144 (0, 0)) :: pt pb0 (.cells #[.pointer (some ⟨pb5, 0, none⟩)] 122 (0, 0)) :: pt pb1 (.cells #[.slice a_v0 y1.length c_v0] 29 (0, 0)) :: pt pb3 (.cells #[.slice a_v1 y3.length c_v1] 71 (0, 0)) :: pt pb4 (.cells #[.slice a_v2 y4.length c_v2] 29 (0, 0)) :: pt pb5 (.cells #[.slice a_v3 y5.times.length c_v3, .slice a_y5_1 y5.last.length c_y5_1, .slice a_v4 y5.outs.length c_v4] 127 (0, 0)) :: vecC 3 1 a_v0 c_v0 y1.length cs127 :: vecC 4 1 a_v1 c_v1 y3.length cs_v1 :: vecC 3 1 a_v2 c_v2 y4.length cs_v2 :: vecC 3 1 a_v3 c_v3 y5.times.length cs107 :: vecC 97 1 a_v4 c_v4 y5.outs.length cs_v4 :: R)) (w := _) (x := true) (y := true) (fun _ => hS) (fun _ => (hS.dropAt 3))
       have hF := hS; replace hS := hS
       refine Rg.take (i := 29) true rfl hE rfl (by kernel_rfl) (runs_if hE rfl rfl rfl hg169) (Gives.loadB hE 2 rfl rfl rfl ty29) rfl hT ?_; clear hE a; intro a hE
       replace hS := hF; clear hF hT
       refine Rg.takeP (i := 30) hE rfl (by kernel_rfl) (runs_if hE rfl rfl rfl hg169) (Gives.fld hE rfl fl144_1) rfl (tw_sel (fun _ => hS) (fun _ => (hS.dropAt 3))) ?_; clear hE a; intro a hE
       have hT := tw_sel (A := fun w => St w s (pt b77 (.cells (MendArc.cells x0).toArray 144 (0, 0)) :: pt pb0 (.cells #[.pointer (some ⟨pb5, 0, none⟩)] 122 (0, 0)) :: pt pb1 (.cells #[.slice a_v0 y1.length c_v0] 29 (0, 0)) :: pt pb2 (.cells #[.bool y2] 4 (0, 0)) :: pt pb3 (.cells #[.slice a_v1 y3.length c_v1] 71 (0, 0)) :: pt pb4 (.cells #[.slice a_v2 y4.length c_v2] 29 (0, 0)) :: pt pb5 (.cells #[.slice a_v3 y5.times.length c_v3, .slice a_y5_1 y5.last.length c_y5_1, .slice a_v4 y5.outs.length c_v4] 127 (0, 0)) :: vecC 3 1 a_v0 c_v0 y1.length cs127 :: vecC 4 1 a_v1 c_v1 y3.length cs_v1 :: vecC 3 1 a_v2 c_v2 y4.length cs_v2 :: vecC 3 1 a_v3 c_v3 y5.times.length cs107 :: vecC 97 1 a_v4 c_v4 y5.outs.length cs_v4 :: R)) (B := fun w => St w s (pt b77 (.cells (MendArc.cells x0).toArray 144 (0, 0)) :: pt pb0 (.cells #[.pointer (some ⟨pb5, 0, none⟩)] 122 (0, 0)) :: pt pb1 (.cells #[.slice a_v0 y1.length c_v0] 29 (0, 0)) :: pt pb3 (.cells #[.slice a_v1 y3.length c_v1] 71 (0, 0)) :: pt pb4 (.cells #[.slice a_v2 y4.length c_v2] 29 (0, 0)) :: pt pb5 (.cells #[.slice a_v3 y5.times.length c_v3, .slice a_y5_1 y5.last.length c_y5_1, .slice a_v4 y5.outs.length c_v4] 127 (0, 0)) :: vecC 3 1 a_v0 c_v0 y1.length cs127 :: vecC 4 1 a_v1 c_v1 y3.length cs_v1 :: vecC 3 1 a_v2 c_v2 y4.length cs_v2 :: vecC 3 1 a_v3 c_v3 y5.times.length cs107 :: vecC 97 1 a_v4 c_v4 y5.outs.length cs_v4 :: R)) (w := _) (x := true) (y := true) (fun _ => hS) (fun _ => (hS.dropAt 3))
       have hF := hS; replace hS := hS
       refine Rg.take (i := 31) true rfl hE rfl (by kernel_rfl) (runs_if hE rfl rfl rfl hg169) (Gives.loadB hE 0 rfl rfl rfl ty3) rfl hT ?_; clear hE a; intro a hE
       replace hS := hF; clear hF hT
       obtain ⟨x170, hx171, hq130⟩ := bindS hq130
       obtain ⟨hi172, hlt173, hy174⟩ := gx_some hx171
       obtain ⟨vs175, hl176, hR177, hd178, hget179⟩ := h128.at hy174
       subst hR177
       refine Rg.takeP (i := 32) hE rfl (by kernel_rfl) (runs_if hE rfl rfl rfl hg169) (Gives.idx hE ((x0.To).toNat) rfl rfl sl29 hi172 (by have := hn129; omega) (hS.vecAok 7 rfl (by have := hn129; omega : (x0.To).toNat < y1.length))) rfl (tw_sel (fun _ => hS) (fun _ => (hS.dropAt 3))) ?_; clear hE a; intro a hE
       have hT := tw_sel (A := fun w => St w s (pt b77 (.cells (MendArc.cells x0).toArray 144 (0, 0)) :: pt pb0 (.cells #[.pointer (some ⟨pb5, 0, none⟩)] 122 (0, 0)) :: pt pb1 (.cells #[.slice a_v0 y1.length c_v0] 29 (0, 0)) :: pt pb2 (.cells #[.bool y2] 4 (0, 0)) :: pt pb3 (.cells #[.slice a_v1 y3.length c_v1] 71 (0, 0)) :: pt pb4 (.cells #[.slice a_v2 y4.length c_v2] 29 (0, 0)) :: pt pb5 (.cells #[.slice a_v3 y5.times.length c_v3, .slice a_y5_1 y5.last.length c_y5_1, .slice a_v4 y5.outs.length c_v4] 127 (0, 0)) :: vecC 3 1 a_v0 c_v0 y1.length cs127 :: vecC 4 1 a_v1 c_v1 y3.length cs_v1 :: vecC 3 1 a_v2 c_v2 y4.length cs_v2 :: vecC 3 1 a_v3 c_v3 y5.times.length cs107 :: vecC 97 1 a_v4 c_v4 y5.outs.length cs_v4 :: R)) (B := fun w => St w s (pt b77 (.cells (MendArc.cells x0).toArray 144 (0, 0)) :: pt pb0 (.cells #[.pointer (some ⟨pb5, 0, none⟩)] 122 (0, 0)) :: pt pb1 (.cells #[.slice a_v0 y1.length c_v0] 29 (0, 0)) :: pt pb3 (.cells #[.slice a_v1 y3.length c_v1] 71 (0, 0)) :: pt pb4 (.cells #[.slice a_v2 y4.length c_v2] 29 (0, 0)) :: pt pb5 (.cells #[.slice a_v3 y5.times.length c_v3, .slice a_y5_1 y5.last.length c_y5_1, .slice a_v4 y5.outs.length c_v4] 127 (0, 0)) :: vecC 3 1 a_v0 c_v0 y1.length cs127 :: vecC 4 1 a_v1 c_v1 y3.length cs_v1 :: vecC 3 1 a_v2 c_v2 y4.length cs_v2 :: vecC 3 1 a_v3 c_v3 y5.times.length cs107 :: vecC 97 1 a_v4 c_v4 y5.outs.length cs_v4 :: R)) (w := _) (x := true) (y := true) (fun _ => hS) (fun _ => (hS.dropAt 3))
       have hF := hS; replace hS := hS
       refine Rg.take (i := 33) true rfl hE rfl (by kernel_rfl) (runs_if hE rfl rfl rfl hg169) (Gives.load1 hE rfl (fun w h => St.vecSees h 7 rfl ((x0.To).toNat * 1) _ hget179) ty3) rfl hT ?_; clear hE a; intro a hE
       replace hS := hF; clear hF hT
       refine Rg.takeP (i := 34) hE rfl (by kernel_rfl) (runs_if hE rfl rfl rfl hg169) (Gives.p hE rfl) rfl (tw_sel (fun _ => hS) (fun _ => (hS.dropAt 3))) ?_; clear hE a; intro a hE
       refine Rg.takeP (i := 35) hE rfl (by kernel_rfl) (runs_plain rfl) (Gives.pickT hE rfl hg169 rfl) rfl (tw_sel (fun _ => hS) (fun _ => (hS.dropAt 3))) ?_; clear hE a; intro a hE
       refine Rg.one (i := 36) false true rfl (by kernel_rfl) (by kernel_rfl) (by kernel_rfl) ?_
       refine WL.storeI hE hS 3 rfl [.bool (decide (x170 ≤ 65536))] (runs_plain rfl) rfl rfl rfl ty4 rfl rfl rfl rfl ?_; clear hE hS a w; intro a w hE hS
       refine WL.nil ?_
       refine ⟨⟨fun h => absurd h (by decide), fun _ => (hS.dropAt 3)⟩, ?_⟩
       refine Rg.done (by kernel_rfl) ?_
       subst hK136
       subst hK135
       exact ⟨decide (x170 ≤ 65536), Option.some.inj hq130, hE.pick _ ⟨rfl, rfl, rfl, trivial⟩, hS⟩
      ·replace hq130 := iteF hg169 hq130
       refine Rg.no (i := 29) hE rfl (by kernel_rfl) (runs_not hE rfl rfl rfl (by rw [hg169]; decide)) rfl (tw_sel (fun _ => hS) (fun _ => (hS.dropAt 3))) ?_; clear hE a; intro a hE
       refine Rg.no (i := 30) hE rfl (by kernel_rfl) (runs_not hE rfl rfl rfl (by rw [hg169]; decide)) rfl (tw_sel (fun _ => hS) (fun _ => (hS.dropAt 3))) ?_; clear hE a; intro a hE
       refine Rg.no (i := 31) hE rfl (by kernel_rfl) (runs_not hE rfl rfl rfl (by rw [hg169]; decide)) rfl (tw_sel (fun _ => hS) (fun _ => (hS.dropAt 3))) ?_; clear hE a; intro a hE
       refine Rg.no (i := 32) hE rfl (by kernel_rfl) (runs_not hE rfl rfl rfl (by rw [hg169]; decide)) rfl (tw_sel (fun _ => hS) (fun _ => (hS.dropAt 3))) ?_; clear hE a; intro a hE
       refine Rg.no (i := 33) hE rfl (by kernel_rfl) (runs_not hE rfl rfl rfl (by rw [hg169]; decide)) rfl (tw_sel (fun _ => hS) (fun _ => (hS.dropAt 3))) ?_; clear hE a; intro a hE
       refine Rg.no (i := 34) hE rfl (by kernel_rfl) (runs_not hE rfl rfl rfl (by rw [hg169]; decide)) rfl (tw_sel (fun _ => hS) (fun _ => (hS.dropAt 3))) ?_; clear hE a; intro a hE
       refine Rg.takeP (i := 35) hE rfl (by kernel_rfl) (runs_plain rfl) (Gives.pickF hE rfl hg169 rfl) rfl (tw_sel (fun _ => hS) (fun _ => (hS.dropAt 3))) ?_; clear hE a; intro a hE
       refine Rg.one (i := 36) false true rfl (by kernel_rfl) (by kernel_rfl) (by kernel_rfl) ?_
       refine WL.storeI hE hS 3 rfl [.bool false] (runs_plain rfl) rfl rfl rfl ty4 rfl rfl rfl rfl ?_; clear hE hS a w; intro a w hE hS
       refine WL.nil ?_
       refine ⟨⟨fun h => absurd h (by decide), fun _ => (hS.dropAt 3)⟩, ?_⟩
       refine Rg.done (by kernel_rfl) ?_
       subst hK136
       subst hK135
       exact ⟨false, Option.some.inj hq130, hE.pick _ ⟨rfl, rfl, rfl, trivial⟩, hS⟩
     ·replace hq130 := iteF hg168 hq130
      refine Rg.no (i := 25) hE rfl (by kernel_rfl) (runs_not hE rfl rfl rfl (by rw [hg168]; decide)) rfl (tw_sel (fun _ => hS) (fun _ => (hS.dropAt 3))) ?_; clear hE a; intro a hE
      refine Rg.no (i := 26) hE rfl (by kernel_rfl) (runs_not hE rfl rfl rfl (by rw [hg168]; decide)) rfl (tw_sel (fun _ => hS) (fun _ => (hS.dropAt 3))) ?_; clear hE a; intro a hE
      refine Rg.takeP (i := 27) hE rfl (by kernel_rfl) (runs_plain rfl) (Gives.pickF hE rfl hg168 rfl) rfl (tw_sel (fun _ => hS) (fun _ => (hS.dropAt 3))) ?_; clear hE a; intro a hE
      refine Rg.takeP (i := 28) hE rfl (by kernel_rfl) (runs_plain rfl) (Gives.p hE rfl) rfl (tw_sel (fun _ => hS) (fun _ => (hS.dropAt 3))) ?_; clear hE a; intro a hE
      refine Rg.no (i := 29) hE rfl (by kernel_rfl) (runs_not hE rfl rfl rfl (by decide)) rfl (tw_sel (fun _ => hS) (fun _ => (hS.dropAt 3))) ?_; clear hE a; intro a hE
      refine Rg.no (i := 30) hE rfl (by kernel_rfl) (runs_not hE rfl rfl rfl (by decide)) rfl (tw_sel (fun _ => hS) (fun _ => (hS.dropAt 3))) ?_; clear hE a; intro a hE
      refine Rg.no (i := 31) hE rfl (by kernel_rfl) (runs_not hE rfl rfl rfl (by decide)) rfl (tw_sel (fun _ => hS) (fun _ => (hS.dropAt 3))) ?_; clear hE a; intro a hE
      refine Rg.no (i := 32) hE rfl (by kernel_rfl) (runs_not hE rfl rfl rfl (by decide)) rfl (tw_sel (fun _ => hS) (fun _ => (hS.dropAt 3))) ?_; clear hE a; intro a hE
      refine Rg.no (i := 33) hE rfl (by kernel_rfl) (runs_not hE rfl rfl rfl (by decide)) rfl (tw_sel (fun _ => hS) (fun _ => (hS.dropAt 3))) ?_; clear hE a; intro a hE
      refine Rg.no (i := 34) hE rfl (by kernel_rfl) (runs_not hE rfl rfl rfl (by decide)) rfl (tw_sel (fun _ => hS) (fun _ => (hS.dropAt 3))) ?_; clear hE a; intro a hE
      refine Rg.takeP (i := 35) hE rfl (by kernel_rfl) (runs_plain rfl) (Gives.pickF hE rfl rfl rfl) rfl (tw_sel (fun _ => hS) (fun _ => (hS.dropAt 3))) ?_; clear hE a; intro a hE
      refine Rg.one (i := 36) false true rfl (by kernel_rfl) (by kernel_rfl) (by kernel_rfl) ?_
      refine WL.storeI hE hS 3 rfl [.bool false] (runs_plain rfl) rfl rfl rfl ty4 rfl rfl rfl rfl ?_; clear hE hS a w; intro a w hE hS
      refine WL.nil ?_
      refine ⟨⟨fun h => absurd h (by decide), fun _ => (hS.dropAt 3)⟩, ?_⟩
      refine Rg.done (by kernel_rfl) ?_
      subst hK136
      subst hK135
      exact ⟨false, Option.some.inj hq130, hE.pick _ ⟨rfl, rfl, rfl, trivial⟩, hS⟩
   ·replace hq130 := iteF hg137 hq130
    refine Rg.no (i := 2) hE rfl (by kernel_rfl) (runs_not hE rfl rfl rfl (by rw [hg137]; decide)) rfl (tw_sel (fun _ => hS) (fun _ => (hS.dropAt 3))) ?_; clear hE a; intro a hE
    refine Rg.no (i := 3) hE rfl (by kernel_rfl) (runs_not hE rfl rfl rfl (by rw [hg137]; decide)) rfl (tw_sel (fun _ => hS) (fun _ => (hS.dropAt 3))) ?_; clear hE a; intro a hE
    refine Rg.no (i := 4) hE rfl (by kernel_rfl) (runs_not hE rfl rfl rfl (by rw [hg137]; decide)) rfl (tw_sel (fun _ => hS) (fun _ => (hS.dropAt 3))) ?_; clear hE a; intro a hE
    refine Rg.no (i := 5) hE rfl (by kernel_rfl) (runs_not hE rfl rfl rfl (by rw [hg137]; decide)) rfl (tw_sel (fun _ => hS) (fun _ => (hS.dropAt 3))) ?_; clear hE a; intro a hE
    refine Rg.no (i := 6) hE rfl (by kernel_rfl) (runs_not hE rfl rfl rfl (by rw [hg137]; decide)) rfl (tw_sel (fun _ => hS) (fun _ => (hS.dropAt 3))) ?_; clear hE a; intro a hE
    refine Rg.no (i := 7) hE rfl (by kernel_rfl) (runs_not hE rfl rfl rfl (by rw [hg137]; decide)) rfl (tw_sel (fun _ => hS) (fun _ => (hS.dropAt 3))) ?_; clear hE a; intro a hE
    refine Rg.no (i := 8) hE rfl (by kernel_rfl) (runs_not hE rfl rfl rfl (by rw [hg137]; decide)) rfl (tw_sel (fun _ => hS) (fun _ => (hS.dropAt 3))) ?_; clear hE a; intro a hE
    refine Rg.no (i := 9) hE rfl (by kernel_rfl) (runs_not hE rfl rfl rfl (by rw [hg137]; decide)) rfl (tw_sel (fun _ => hS) (fun _ => (hS.dropAt 3))) ?_; clear hE a; intro a hE
    refine Rg.no (i := 10) hE rfl (by kernel_rfl) (runs_not hE rfl rfl rfl (by rw [hg137]; decide)) rfl (tw_sel (fun _ => hS) (fun _ => (hS.dropAt 3))) ?_; clear hE a; intro a hE
    refine Rg.no (i := 11) hE rfl (by kernel_rfl) (runs_not hE rfl rfl rfl (by rw [hg137]; decide)) rfl (tw_sel (fun _ => hS) (fun _ => (hS.dropAt 3))) ?_; clear hE a; intro a hE
    refine Rg.no (i := 12) hE rfl (by kernel_rfl) (runs_undef hE rfl rfl rfl) rfl (tw_sel (fun _ => hS) (fun _ => (hS.dropAt 3))) ?_; clear hE a; intro a hE
    refine Rg.no (i := 13) hE rfl (by kernel_rfl) (runs_undef hE rfl rfl rfl) rfl (tw_sel (fun _ => hS) (fun _ => (hS.dropAt 3))) ?_; clear hE a; intro a hE
    refine Rg.no (i := 14) hE rfl (by kernel_rfl) (runs_undef hE rfl rfl rfl) rfl (tw_sel (fun _ => hS) (fun _ => (hS.dropAt 3))) ?_; clear hE a; intro a hE
    refine Rg.no (i := 15) hE rfl (by kernel_rfl) (runs_undef hE rfl rfl rfl) rfl (tw_sel (fun _ => hS) (fun _ => (hS.dropAt 3))) ?_; clear hE a; intro a hE
    refine Rg.no (i := 16) hE rfl (by kernel_rfl) (runs_undef hE rfl rfl rfl) rfl (tw_sel (fun _ => hS) (fun _ => (hS.dropAt 3))) ?_; clear hE a; intro a hE
    refine Rg.no (i := 17) hE rfl (by kernel_rfl) (runs_undef hE rfl rfl rfl) rfl (tw_sel (fun _ => hS) (fun _ => (hS.dropAt 3))) ?_; clear hE a; intro a hE
    refine Rg.no (i := 18) hE rfl (by kernel_rfl) (runs_undef hE rfl rfl rfl) rfl (tw_sel (fun _ => hS) (fun _ => (hS.dropAt 3))) ?_; clear hE a; intro a hE
    refine Rg.no (i := 19) hE rfl (by kernel_rfl) (runs_undef hE rfl rfl rfl) rfl (tw_sel (fun _ => hS) (fun _ => (hS.dropAt 3))) ?_; clear hE a; intro a hE
    refine Rg.no (i := 20) hE rfl (by kernel_rfl) (runs_undef hE rfl rfl rfl) rfl (tw_sel (fun _ => hS) (fun _ => (hS.dropAt 3))) ?_; clear hE a; intro a hE
    refine Rg.no (i := 21) hE rfl (by kernel_rfl) (runs_undef hE rfl rfl rfl) rfl (tw_sel (fun _ => hS) (fun _ => (hS.dropAt 3))) ?_; clear hE a; intro a hE
    refine Rg.no (i := 22) hE rfl (by kernel_rfl) (runs_not hE rfl rfl rfl (by rw [hg137]; decide)) rfl (tw_sel (fun _ => hS) (fun _ => (hS.dropAt 3))) ?_; clear hE a; intro a hE
    refine Rg.takeP (i := 23) hE rfl (by kernel_rfl) (runs_plain rfl) (Gives.pickF hE rfl hg137 rfl) rfl (tw_sel (fun _ => hS) (fun _ => (hS.dropAt 3))) ?_; clear hE a; intro a hE
    refine Rg.takeP (i := 24) hE rfl (by kernel_rfl) (runs_plain rfl) (Gives.p hE rfl) rfl (tw_sel (fun _ => hS) (fun _ => (hS.dropAt 3))) ?_; clear hE a; intro a hE
    refine Rg.no (i := 25) hE rfl (by kernel_rfl) (runs_not hE rfl rfl rfl (by decide)) rfl (tw_sel (fun _ => hS) (fun _ => (hS.dropAt 3))) ?_; clear hE a; intro a hE
    refine Rg.no (i := 26) hE rfl (by kernel_rfl) (runs_not hE rfl rfl rfl (by decide)) rfl (tw_sel (fun _ => hS) (fun _ => (hS.dropAt 3))) ?_; clear hE a; intro a hE
    refine Rg.takeP (i := 27) hE rfl (by kernel_rfl) (runs_plain rfl) (Gives.pickF hE rfl rfl rfl) rfl (tw_sel (fun _ => hS) (fun _ => (hS.dropAt 3))) ?_; clear hE a; intro a hE
    refine Rg.takeP (i := 28) hE rfl (by kernel_rfl) (runs_plain rfl) (Gives.p hE rfl) rfl (tw_sel (fun _ => hS) (fun _ => (hS.dropAt 3))) ?_; clear hE a; intro a hE
    refine Rg.no (i := 29) hE rfl (by kernel_rfl) (runs_not hE rfl rfl rfl (by decide)) rfl (tw_sel (fun _ => hS) (fun _ => (hS.dropAt 3))) ?_; clear hE a; intro a hE
    refine Rg.no (i := 30) hE rfl (by kernel_rfl) (runs_not hE rfl rfl rfl (by decide)) rfl (tw_sel (fun _ => hS) (fun _ => (hS.dropAt 3))) ?_; clear hE a; intro a hE
    refine Rg.no (i := 31) hE rfl (by kernel_rfl) (runs_not hE rfl rfl rfl (by decide)) rfl (tw_sel (fun _ => hS) (fun _ => (hS.dropAt 3))) ?_; clear hE a; intro a hE
    refine Rg.no (i := 32) hE rfl (by kernel_rfl) (runs_not hE rfl rfl rfl (by decide)) rfl (tw_sel (fun _ => hS) (fun _ => (hS.dropAt 3))) ?_; clear hE a; intro a hE
    refine Rg.no (i := 33) hE rfl (by kernel_rfl) (runs_not hE rfl rfl rfl (by decide)) rfl (tw_sel (fun _ => hS) (fun _ => (hS.dropAt 3))) ?_; clear hE a; intro a hE
    refine Rg.no (i := 34) hE rfl (by kernel_rfl) (runs_not hE rfl rfl rfl (by decide)) rfl (tw_sel (fun _ => hS) (fun _ => (hS.dropAt 3))) ?_; clear hE a; intro a hE
    refine Rg.takeP (i := 35) hE rfl (by kernel_rfl) (runs_plain rfl) (Gives.pickF hE rfl rfl rfl) rfl (tw_sel (fun _ => hS) (fun _ => (hS.dropAt 3))) ?_; clear hE a; intro a hE
    refine Rg.one (i := 36) false true rfl (by kernel_rfl) (by kernel_rfl) (by kernel_rfl) ?_
    refine WL.storeI hE hS 3 rfl [.bool false] (runs_plain rfl) rfl rfl rfl ty4 rfl rfl rfl rfl ?_; clear hE hS a w; intro a w hE hS
    refine WL.nil ?_
    refine ⟨⟨fun h => absurd h (by decide), fun _ => (hS.dropAt 3)⟩, ?_⟩
    refine Rg.done (by kernel_rfl) ?_
    subst hK136
    subst hK135
    exact ⟨false, Option.some.inj hq130, hE.pick _ ⟨rfl, rfl, rfl, trivial⟩, hS⟩
  ·clear hE hS a w; rintro a w ⟨q134, rfl, hE, hS⟩
   refine W.seq (W.region ?_)
   refine WL.vS hS hE (runs_plain rfl) (Gives.loadB hE 4 rfl rfl rfl ty71) rfl ?_; clear hE a; intro a hE
   refine WL.vS hS hE (runs_plain rfl) (Gives.fld hE rfl fl144_1) rfl ?_; clear hE a; intro a hE
   refine WL.vS hS hE (runs_plain rfl) (Gives.loadB hE 0 rfl rfl rfl ty3) rfl ?_; clear hE a; intro a hE
   obtain ⟨x180, hx181, hr⟩ := bindS hr
   obtain ⟨hi182, hlt183, hy184⟩ := gx_some hx181
   obtain ⟨vs185, hl186, hR187, hd188, hget189⟩ := h_v1.at hy184
   subst hR187
   refine WL.vS hS hE (runs_plain rfl) (Gives.idx hE ((x0.To).toNat) rfl rfl sl71 hi182 (by omega) (hS.vecAok 8 rfl (by omega : (x0.To).toNat < y3.length))) rfl ?_; clear hE a; intro a hE
   refine WL.vS hS hE (runs_plain rfl) (Gives.load1 hE rfl (fun w h => St.vecSees h 8 rfl ((x0.To).toNat * 1) _ hget189) ty4) rfl ?_; clear hE a; intro a hE
   refine WL.vS hS hE (runs_plain rfl) (Gives.p hE rfl) rfl ?_; clear hE a; intro a hE
   refine WL.nil ?_
   obtain ⟨q191, hq190, hr⟩ := bindS hr
   refine W.cut (fun a w => ∃ (q194 : List Bool), ∃ (q200 : List Int), ∃ (cs198 : List Value), ∃ (a201 : Option Addr), ∃ (c202 : Nat), ∃ (n204 : Nat), ∃ (cs205 : List Value), (q194, q200) = q191 ∧ Ev 1 RB s cs198 q194 ∧ q194.length = y3.length ∧ Ev 1 (RI .i64) s cs205 q200 ∧ q200.length = n204 ∧ Rep a 95 [] ∧ St w s (pt b77 (.cells (MendArc.cells x0).toArray 144 (0, 0)) :: pt pb0 (.cells #[.pointer (some ⟨pb5, 0, none⟩)] 122 (0, 0)) :: pt pb1 (.cells #[.slice a_v0 y1.length c_v0] 29 (0, 0)) :: pt pb2 (.cells #[.bool q134] 4 (0, 0)) :: pt pb3 (.cells #[.slice a_v1 y3.length c_v1] 71 (0, 0)) :: pt pb4 (.cells #[.slice a201 n204 c202] 29 (0, 0)) :: pt pb5 (.cells #[.slice a_v3 y5.times.length c_v3, .slice a_y5_1 y5.last.length c_y5_1, .slice a_v4 y5.outs.length c_v4] 127 (0, 0)) :: vecC 3 1 a_v0 c_v0 y1.length cs127 :: vecC 4 1 a_v1 c_v1 y3.length cs198 :: vecC 3 1 a201 c202 n204 cs205 :: vecC 3 1 a_v3 c_v3 y5.times.length cs107 :: vecC 97 1 a_v4 c_v4 y5.outs.length cs_v4 :: R)) ?_ ?_
   ·refine W.gen fun K207 hK207 => ?_
    refine W.cond hE rfl (fun hc208 => ?_) (fun hc208 => ?_)
    ·replace hq190 := iteT hc208 hq190
     refine W.seq (W.region ?_)
     refine WL.vS hS hE (runs_plain rfl) (Gives.loadB hE 4 rfl rfl rfl ty71) rfl ?_; clear hE a; intro a hE
     refine WL.vS hS hE (runs_plain rfl) (Gives.fld hE rfl fl144_1) rfl ?_; clear hE a; intro a hE
     refine WL.vS hS hE (runs_plain rfl) (Gives.loadB hE 0 rfl rfl rfl ty3) rfl ?_; clear hE a; intro a hE
     obtain ⟨_, hx210, hq190⟩ := bindS hq190
     obtain ⟨h211, h212⟩ := ix_some hx210
     refine WL.vS hS hE (runs_plain rfl) (Gives.idx hE ((x0.To).toNat) rfl rfl sl71 h211 (by omega) (hS.vecAok 8 rfl (by omega : (x0.To).toNat < y3.length))) rfl ?_; clear hE a; intro a hE
     obtain ⟨x214, hx215, hq190⟩ := bindS hq190
     refine WL.setD hE hS 8 rfl (runs_plain rfl) rfl rfl (vs := [.bool true]) rfl ty4 rfl rfl rfl h_v1 (rfl) (sx_some hx215).1 hx215 rfl rfl ?_; clear hE hS a w; intro cs216 a w h217 hn218 hE hS
     refine WL.nil ?_
     refine W.region ?_
     refine WL.vS hS hE (runs_plain rfl) (Gives.loadB hE 5 rfl rfl rfl ty29) rfl ?_; clear hE a; intro a hE
     refine WL.vS hS hE (runs_plain rfl) (Gives.fld hE rfl fl144_1) rfl ?_; clear hE a; intro a hE
     refine WL.vS hS hE (runs_plain rfl) (Gives.loadB hE 0 rfl rfl rfl ty3) rfl ?_; clear hE a; intro a hE
     refine WL.lit hE hS (e := 3) (es := 1) (vs := [(0, .int .i64 x0.To)]) (cs := [.int .i64 x0.To]) (runs_plain rfl) rfl (by kernel_rfl) rfl ?_; clear hE hS a w; intro b219 a w hE hS
     obtain ⟨x220, hx221, hq190⟩ := bindS hq190
     refine WL.appD hE hS 9 (m := 1) (runs_plain rfl) rfl rfl rfl ap29 rfl h_v2 (rfl) (xs := [x0.To]) (Ev.cons (c1 := [.int .i64 x0.To]) rfl rfl (Ev.nil)) rfl rfl hx221 rfl ?_; clear hE hS a w; intro a222 c223 cs224 a w h225 hE hS
     refine WL.storeI hE hS 5 rfl [.slice a222 x220.length c223] (runs_plain rfl) rfl rfl rfl ty29 rfl rfl rfl rfl ?_; clear hE hS a w; intro a w hE hS
     refine WL.nil ?_
     subst hK207
     exact ⟨x214, x220, cs216, a222, c223, x220.length, cs224, Option.some.inj hq190, h217, hn218, h225, (rfl), hE.pick _ trivial, hS⟩
    ·replace hq190 := iteF hc208 hq190
     refine W.skip ?_
     subst hK207
     exact ⟨y3, y4, cs_v1, a_v2, c_v2, y4.length, cs_v2, Option.some.inj hq190, h_v1, (rfl), h_v2, (rfl), hE.pick _ trivial, hS⟩
   ·clear hE hS a w; rintro a w ⟨q194, q200, cs198, a201, c202, n204, cs205, rfl, h197, hn199, h203, rfl, hE, hS⟩
    dsimp only at hr
    refine finG (fn := Try.f98) (rs := []) (vs := []) hE rfl trivial ?_
    obtain rfl := Option.some.inj hr
    replace hS := hS.tail
    exact ⟨cs127, cs198, cs107, a201, c202, q200.length, cs205, rfl, h128, hn129, h197, hn199, h108, hn109, h203, rfl, hS⟩
set_option maxHeartbeats 8000000 in
theorem Mendgreatestint_ok  {w : World} {s : Sg} {R : List HP} {x0 : Int} {x1 : List Int} {a1 : Option Addr} {c1 : Nat} (hS : St w s (R)) (h1 : Sl 1 (RI .i64) s a1 c1 x1) {r : Int} (hr : Mendgreatestint x0 x1 = r) :
  Calls Try.prog 100 [.int .i64 x0, .slice a1 x1.length c1].toArray w (fun e w => e = .returned (.int .i64 r) ∧ St w s (R)) := by
 refine enter Try.func100 rfl rfl rfl fun a hE => ?_
 rw [Mendgreatestint] at hr
 refine W.seq (W.region ?_)
 refine WL.vS hS hE (runs_plain rfl) (Gives.p hE rfl) rfl ?_; clear hE a; intro a hE
 refine WL.nil ?_
 refine W.seq ?_
 refine W.seq (W.region ?_)
 refine WL.vS hS hE (runs_plain rfl) (Gives.p hE rfl) rfl ?_; clear hE a; intro a hE
 refine WL.vS hS hE (runs_plain rfl) (Gives.len hE rfl sl29) rfl ?_; clear hE a; intro a hE
 refine WL.vS hS hE (runs_plain rfl) (Gives.p hE rfl) rfl ?_; clear hE a; intro a hE
 refine WL.nil ?_
 obtain ⟨q52, hq51, hr⟩ := bndS hr
 refine W.cut (fun a w => ∃ (q62 : Int), q62 = q52 ∧ Rep a 18 [(0, .int .i64 q62)] ∧ St w s (R)) ?_ ?_
 ·refine W.block ?_
  refine W.loop (fun m a w => ∃ (rest55 : List Int) (k53 : Nat), ∃ (q62 : Int), rest55.length = m ∧ x1.drop k53 = rest55 ∧ Mendgreatestint.loop1 rest55 q62 = q52 ∧ Rep a 18 [(0, .int .i64 q62), (7, .slice a1 x1.length c1), (8, .int .i64 ((x1).length : Int)), (9, .int .i64 ((k53 : Nat) : Int))] ∧ St w s (R)) (m := x1.length) ⟨x1, 0, x0, rfl, rfl, hq51, hE.pick _ ⟨rfl, rfl, rfl, rfl, trivial⟩, hS⟩ ?_
  clear hE hS a w hq51; rintro m59 a w ⟨rest55, k53, q62, rfl, hd56, hq51, hE, hS⟩
  refine W.gen fun K63 hK63 => ?_
  rcases rest55 with _ | ⟨x54, rest55⟩
  ·have hlt57 := drop_nil hd56
   refine W.seq (W.region ?_)
   refine WL.vS hS hE (runs_plain rfl) (Gives.p hE rfl) rfl ?_; clear hE a; intro a hE
   refine WL.nil ?_
   refine W.seq ?_
   refine W.condF hE rfl (decide_eq_false (by omega)) ?_
   subst hK63
   refine W.exit rfl ?_
   exact ⟨q62, hq51, hE.pick _ ⟨rfl, trivial⟩, hS⟩
  ·obtain ⟨hlt57, hx58, hd56⟩ := drop_cons hd56
   rw [Mendgreatestint.loop1] at hq51
   refine W.seq (W.region ?_)
   refine WL.vS hS hE (runs_plain rfl) (Gives.p hE rfl) rfl ?_; clear hE a; intro a hE
   refine WL.nil ?_
   refine W.seq ?_
   refine W.condT hE rfl (decide_eq_true (by omega)) ?_
   refine W.skip ?_
   refine W.seq ?_
   refine W.block ?_
   refine W.seq (W.region ?_)
   obtain ⟨cs64, hl65, hR66, hat67⟩ := h1.at hx58
   subst hR66
   refine WL.vS hS hE (runs_plain rfl) (Gives.idx hE k53 rfl rfl sl29 rfl hlt57 (h1.aok hlt57)) rfl ?_; clear hE a; intro a hE
   refine WL.vS hS hE (runs_plain rfl) (Gives.load1 hE rfl (fun w h => hat67 w _ h) ty3) rfl ?_; clear hE a; intro a hE
   refine WL.vS hS hE (runs_plain rfl) (Gives.p hE rfl) rfl ?_; clear hE a; intro a hE
   refine WL.nil ?_
   refine W.region ?_
   refine WL.vS hS hE (runs_plain rfl) (Gives.p hE rfl) rfl ?_; clear hE a; intro a hE
   refine WL.vS hS hE (runs_plain rfl) (Gives.p hE rfl) rfl ?_; clear hE a; intro a hE
   refine WL.vS hS hE (runs_plain rfl) (Gives.max2 hE rfl rfl) rfl ?_; clear hE a; intro a hE
   refine WL.vS hS hE (runs_plain rfl) (Gives.p hE rfl) rfl ?_; clear hE a; intro a hE
   refine WL.nil ?_
   refine W.region ?_
   refine WL.vS hS hE (runs_plain rfl) (Gives.inc hE rfl (by have := h1.small; omega)) rfl ?_; clear hE a; intro a hE
   refine WL.vS hS hE (runs_plain rfl) (Gives.p hE rfl) rfl ?_; clear hE a; intro a hE
   refine WL.nil ?_
   subst hK63
   exact ⟨rest55.length, Nat.lt_succ_self _, rest55, k53 + 1, (mx q62 x54), rfl, hd56, hq51, hE.pick _ ⟨rfl, rfl, rfl, rfl, trivial⟩, hS⟩
 ·clear hE hS a w; rintro a w ⟨q62, rfl, hE, hS⟩
  refine W.seq (W.region ?_)
  refine WL.vS hS hE (runs_plain rfl) (Gives.p hE rfl) rfl ?_; clear hE a; intro a hE
  refine WL.vS hS hE (runs_plain rfl) (Gives.p hE rfl) rfl ?_; clear hE a; intro a hE
  refine WL.nil ?_
  refine W.ret ?_
  refine finG (fn := Try.f100) (rs := [.tmp 4]) (vs := [_]) hE rfl ⟨rfl, trivial⟩ ?_
  subst hr
  exact ⟨rfl, hS⟩
set_option maxHeartbeats 8000000 in
theorem MendSolverbound_v1_ok  {w : World} {s : Sg} {R : List HP} {pb0 : Nat} {y0 : MendSolver} {a_v0 : Option Addr} {c_v0 n_v0 : Nat} {cs_v0 : List Value} {a_y0_1 : Option Addr} {c_y0_1 : Nat} {a_v1 : Option Addr} {c_v1 n_v1 : Nat} {cs_v1 : List Value} (hS : St w s (pt pb0 (.cells #[.slice a_v0 n_v0 c_v0, .slice a_y0_1 y0.last.length c_y0_1, .slice a_v1 n_v1 c_v1] 127 (0, 0)) :: vecC 3 1 a_v0 c_v0 n_v0 cs_v0 :: vecC 97 1 a_v1 c_v1 n_v1 cs_v1 :: R)) (h_v0 : Ev 1 (RI .i64) s cs_v0 y0.times) (hn_v0 : y0.times.length = n_v0) (_h_y0_1 : Sl 1 (RI .i64) s a_y0_1 c_y0_1 y0.last) (h_v1 : Ev 1 (RL 3 RMendArc) s cs_v1 y0.outs) (hn_v1 : y0.outs.length = n_v1) {r : Int} (hr : MendSolverbound_v1 y0 = some r) :
  Calls Try.prog 99 [.pointer (some ⟨pb0, 0, none⟩)].toArray w (fun e w => e = .returned (.int .i64 r) ∧ St w s (pt pb0 (.cells #[.slice a_v0 n_v0 c_v0, .slice a_y0_1 y0.last.length c_y0_1, .slice a_v1 n_v1 c_v1] 127 (0, 0)) :: vecC 3 1 a_v0 c_v0 n_v0 cs_v0 :: vecC 97 1 a_v1 c_v1 n_v1 cs_v1 :: R)) := by
 refine enter Try.func99 rfl rfl rfl fun a hE => ?_
 rw [MendSolverbound_v1] at hr
 subst hn_v0
 subst hn_v1
 refine W.seq (W.region ?_)
 refine WL.vS hS hE (runs_plain rfl) (Gives.p hE rfl) rfl ?_; clear hE a; intro a hE
 refine WL.nil ?_
 refine W.seq (W.region ?_)
 refine WL.vS hS hE (runs_plain rfl) (Gives.p hE rfl) rfl ?_; clear hE a; intro a hE
 refine WL.vS hS hE (runs_plain rfl) (Gives.nilOk hE rfl) rfl ?_; clear hE a; intro a hE
 refine WL.vS hS hE (runs_plain rfl) (Gives.fld hE rfl fl127_0) rfl ?_; clear hE a; intro a hE
 refine WL.vS hS hE (runs_plain rfl) (Gives.loadB hE 0 rfl rfl rfl ty29) rfl ?_; clear hE a; intro a hE
 have hF := hS.lendV RI.mono 1 rfl h_v0 (rfl); clear hS; obtain ⟨t51, hle52, hS, hs53, bk54⟩ := hF
 refine WL.fnq hE (Mendgreatestint_ok hS hs53 rfl (r := Mendgreatestint 0 y0.times)) (runs_plain rfl) bd100 rfl rfl rfl ?_
 clear hE hS; rintro e w ⟨rfl, hS⟩; refine ⟨_, rfl, ?_⟩; clear a; intro a hE
 replace hS := bk54 _ _ hS
 refine WL.vS hS hE (runs_plain rfl) (Gives.p hE rfl) rfl ?_; clear hE a; intro a hE
 refine WL.nil ?_
 refine W.seq ?_
 refine W.seq (W.region ?_)
 refine WL.vS hS hE (runs_plain rfl) (Gives.p hE rfl) rfl ?_; clear hE a; intro a hE
 refine WL.vS hS hE (runs_plain rfl) (Gives.nilOk hE rfl) rfl ?_; clear hE a; intro a hE
 refine WL.vS hS hE (runs_plain rfl) (Gives.fld hE rfl fl127_2) rfl ?_; clear hE a; intro a hE
 refine WL.vS hS hE (runs_plain rfl) (Gives.loadB hE 1 rfl rfl rfl ty125) rfl ?_; clear hE a; intro a hE
 refine WL.vS hS hE (runs_plain rfl) (Gives.len hE rfl sl125) rfl ?_; clear hE a; intro a hE
 refine WL.vS hS hE (runs_plain rfl) (Gives.p hE rfl) rfl ?_; clear hE a; intro a hE
 refine WL.nil ?_
 have hb66 : y0.outs.length ≤ 9223372036854775807 := by have := hS.vecCap 2 rfl; unfold maxLen at this; omega
 obtain ⟨q56, hq55, hr⟩ := bindS hr
 refine W.cut (fun a w => ∃ (q67 : Int), q67 = q56 ∧ Rep a 39 [(3, .int .i64 q67)] ∧ St w s (vecC 3 1 a_v0 c_v0 y0.times.length cs_v0 :: pt pb0 (.cells #[.slice a_v0 y0.times.length c_v0, .slice a_y0_1 y0.last.length c_y0_1, .slice a_v1 y0.outs.length c_v1] 127 (0, 0)) :: vecC 97 1 a_v1 c_v1 y0.outs.length cs_v1 :: R)) ?_ ?_
 ·refine W.block ?_
  refine W.loop (fun m a w => ∃ (rest59 : Nat) (k57 : Nat), ∃ (q67 : Int), rest59 = m ∧ k57 + rest59 = y0.outs.length ∧ MendSolverbound_v1.loop1 y0 rest59 k57 q67 = some q56 ∧ Rep a 39 [(3, .int .i64 q67), (17, .slice a_v1 y0.outs.length c_v1), (18, .int .i64 ((y0.outs.length : Nat) : Int)), (19, .int .i64 ((k57 : Nat) : Int))] ∧ St w s (vecC 3 1 a_v0 c_v0 y0.times.length cs_v0 :: pt pb0 (.cells #[.slice a_v0 y0.times.length c_v0, .slice a_y0_1 y0.last.length c_y0_1, .slice a_v1 y0.outs.length c_v1] 127 (0, 0)) :: vecC 97 1 a_v1 c_v1 y0.outs.length cs_v1 :: R)) (m := y0.outs.length) ⟨y0.outs.length, 0, (Mendgreatestint 0 y0.times), rfl, by omega, hq55, hE.pick _ ⟨rfl, rfl, rfl, rfl, trivial⟩, hS⟩ ?_
  clear hE hS a w hq55; rintro m63 a w ⟨rest59, k57, q67, rfl, hd60, hq55, hE, hS⟩
  refine W.gen fun K68 hK68 => ?_
  rcases rest59 with _ | rest59
  ·skip
   refine W.seq (W.region ?_)
   refine WL.vS hS hE (runs_plain rfl) (Gives.p hE rfl) rfl ?_; clear hE a; intro a hE
   refine WL.nil ?_
   refine W.seq ?_
   refine W.condF hE rfl (decide_eq_false (by omega)) ?_
   subst hK68
   refine W.exit rfl ?_
   exact ⟨q67, Option.some.inj hq55, hE.pick _ ⟨rfl, trivial⟩, hS⟩
  ·have hlt61 : k57 < y0.outs.length := by omega
   rw [MendSolverbound_v1.loop1] at hq55
   refine W.seq (W.region ?_)
   refine WL.vS hS hE (runs_plain rfl) (Gives.p hE rfl) rfl ?_; clear hE a; intro a hE
   refine WL.nil ?_
   refine W.seq ?_
   refine W.condT hE rfl (decide_eq_true (by omega)) ?_
   refine W.skip ?_
   refine W.seq ?_
   refine W.block ?_
   refine W.seq (W.region ?_)
   obtain ⟨x69, hx70, hq55⟩ := bindS hq55
   obtain ⟨hi71, hlt72, hy73⟩ := gx_some hx70
   obtain ⟨vs74, hl75, hR76, hd77, hget78⟩ := h_v1.at hy73
   obtain ⟨a79, c80, rfl, h81⟩ := hR76
   refine WL.vS hS hE (runs_plain rfl) (Gives.idx hE ((((k57 : Nat) : Int)).toNat) rfl rfl sl125 hi71 (by omega) (hS.vecAok 2 rfl (by omega : (((k57 : Nat) : Int)).toNat < y0.outs.length))) rfl ?_; clear hE a; intro a hE
   refine WL.vS hS hE (runs_plain rfl) (Gives.load1 hE rfl (fun w h => St.vecSees h 2 rfl ((((k57 : Nat) : Int)).toNat * 1) _ hget78) ty97) rfl ?_; clear hE a; intro a hE
   refine WL.vS hS hE (runs_plain rfl) (Gives.p hE rfl) rfl ?_; clear hE a; intro a hE
   refine WL.nil ?_
   refine W.seq (W.region ?_)
   refine WL.vS hS hE (runs_plain rfl) (Gives.p hE rfl) rfl ?_; clear hE a; intro a hE
   refine WL.nil ?_
   refine W.seq ?_
   refine W.seq (W.region ?_)
   refine WL.vS hS hE (runs_plain rfl) (Gives.p hE rfl) rfl ?_; clear hE a; intro a hE
   refine WL.vS hS hE (runs_plain rfl) (Gives.len hE rfl sl97) rfl ?_; clear hE a; intro a hE
   refine WL.vS hS hE (runs_plain rfl) (Gives.p hE rfl) rfl ?_; clear hE a; intro a hE
   refine WL.nil ?_
   obtain ⟨q83, hq82, hq55⟩ := bndS hq55
   refine W.cut (fun a w => ∃ (q93 : Int), q93 = q83 ∧ Rep a 39 [(3, .int .i64 q67), (6, .int .i64 q93), (17, .slice a_v1 y0.outs.length c_v1), (18, .int .i64 ((y0.outs.length : Nat) : Int)), (19, .int .i64 ((k57 : Nat) : Int))] ∧ St w s (vecC 3 1 a_v0 c_v0 y0.times.length cs_v0 :: pt pb0 (.cells #[.slice a_v0 y0.times.length c_v0, .slice a_y0_1 y0.last.length c_y0_1, .slice a_v1 y0.outs.length c_v1] 127 (0, 0)) :: vecC 97 1 a_v1 c_v1 y0.outs.length cs_v1 :: R)) ?_ ?_
   ·refine W.block ?_
    refine W.loop (fun m a w => ∃ (rest86 : List MendArc) (k84 : Nat), ∃ (q93 : Int), rest86.length = m ∧ x69.drop k84 = rest86 ∧ MendSolverbound_v1.loop2 rest86 q93 = q83 ∧ Rep a 39 [(3, .int .i64 q67), (6, .int .i64 q93), (17, .slice a_v1 y0.outs.length c_v1), (18, .int .i64 ((y0.outs.length : Nat) : Int)), (19, .int .i64 ((k57 : Nat) : Int)), (23, .slice a79 x69.length c80), (24, .int .i64 ((x69).length : Int)), (25, .int .i64 ((k84 : Nat) : Int))] ∧ St w s (vecC 3 1 a_v0 c_v0 y0.times.length cs_v0 :: pt pb0 (.cells #[.slice a_v0 y0.times.length c_v0, .slice a_y0_1 y0.last.length c_y0_1, .slice a_v1 y0.outs.length c_v1] 127 (0, 0)) :: vecC 97 1 a_v1 c_v1 y0.outs.length cs_v1 :: R)) (m := x69.length) ⟨x69, 0, 0, rfl, rfl, hq82, hE.pick _ ⟨rfl, rfl, rfl, rfl, rfl, rfl, rfl, rfl, trivial⟩, hS⟩ ?_
    clear hE hS a w hq82; rintro m90 a w ⟨rest86, k84, q93, rfl, hd87, hq82, hE, hS⟩
    refine W.gen fun K94 hK94 => ?_
    rcases rest86 with _ | ⟨x85, rest86⟩
    ·have hlt88 := drop_nil hd87
     refine W.seq (W.region ?_)
     refine WL.vS hS hE (runs_plain rfl) (Gives.p hE rfl) rfl ?_; clear hE a; intro a hE
     refine WL.nil ?_
     refine W.seq ?_
     refine W.condF hE rfl (decide_eq_false (by omega)) ?_
     subst hK94
     refine W.exit rfl ?_
     exact ⟨q93, hq82, hE.pick _ ⟨rfl, rfl, rfl, rfl, rfl, trivial⟩, hS⟩
    ·obtain ⟨hlt88, hx89, hd87⟩ := drop_cons hd87
     rw [MendSolverbound_v1.loop2] at hq82
     refine W.seq (W.region ?_)
     refine WL.vS hS hE (runs_plain rfl) (Gives.p hE rfl) rfl ?_; clear hE a; intro a hE
     refine WL.nil ?_
     refine W.seq ?_
     refine W.condT hE rfl (decide_eq_true (by omega)) ?_
     refine W.skip ?_
     refine W.seq ?_
     refine W.block ?_
     refine W.seq (W.region ?_)
     obtain ⟨cs95, hl96, hR97, hat98⟩ := h81.at hx89
     subst hR97
     refine WL.vS hS hE (runs_plain rfl) (Gives.idx hE k84 rfl rfl sl97 rfl hlt88 (h81.aok hlt88)) rfl ?_; clear hE a; intro a hE
     refine WL.vS hS hE (runs_plain rfl) (Gives.loadA hE rfl (fun w h => hat98 w _ h) ty144) rfl ?_; clear hE a; intro a hE
     refine WL.alloc hE hS (runs_plain rfl) zr144 rfl ?_; clear hE hS a w; intro b99 a w hE hS
     refine WL.storeI hE hS 0 rfl (MendArc.cells x85) (runs_plain rfl) rfl rfl rfl ty144 rfl rfl rfl rfl ?_; clear hE hS a w; intro a w hE hS
     refine WL.nil ?_
     refine W.region ?_
     refine WL.vS hS hE (runs_plain rfl) (Gives.p hE rfl) rfl ?_; clear hE a; intro a hE
     refine WL.vS hS hE (runs_plain rfl) (Gives.fld hE rfl fl144_2) rfl ?_; clear hE a; intro a hE
     refine WL.vS hS hE (runs_plain rfl) (Gives.loadB hE 0 rfl rfl rfl ty3) rfl ?_; clear hE a; intro a hE
     refine WL.vS hS hE (runs_plain rfl) (Gives.max2 hE rfl rfl) rfl ?_; clear hE a; intro a hE
     refine WL.vS hS hE (runs_plain rfl) (Gives.p hE rfl) rfl ?_; clear hE a; intro a hE
     refine WL.nil ?_
     refine W.region ?_
     refine WL.vS hS hE (runs_plain rfl) (Gives.inc hE rfl (by have := h81.small; omega)) rfl ?_; clear hE a; intro a hE
     refine WL.vS hS hE (runs_plain rfl) (Gives.p hE rfl) rfl ?_; clear hE a; intro a hE
     refine WL.nil ?_
     replace hS := hS.tail
     subst hK94
     exact ⟨rest86.length, Nat.lt_succ_self _, rest86, k84 + 1, (mx q93 x85.Len), rfl, hd87, hq82, hE.pick _ ⟨rfl, rfl, rfl, rfl, rfl, rfl, rfl, rfl, trivial⟩, hS⟩
   ·clear hE hS a w; rintro a w ⟨q93, rfl, hE, hS⟩
    refine W.region ?_
    refine WL.vS hS hE (runs_plain rfl) (Gives.p hE rfl) rfl ?_; clear hE a; intro a hE
    refine WL.vS hS hE (runs_plain rfl) (Gives.p hE rfl) rfl ?_; clear hE a; intro a hE
    refine WL.vS hS hE (runs_plain rfl) (Gives.p hE rfl) rfl ?_; clear hE a; intro a hE
    refine WL.vS hS hE (runs_plain rfl) (Gives.p hE rfl) rfl ?_; clear hE a; intro a hE
    refine WL.nil ?_
    refine W.region ?_
    refine WL.vS hS hE (runs_plain rfl) (Gives.inc hE rfl (by omega)) rfl ?_; clear hE a; intro a hE
    refine WL.vS hS hE (runs_plain rfl) (Gives.p hE rfl) rfl ?_; clear hE a; intro a hE
    refine WL.nil ?_
    subst hK68
    exact ⟨rest59, Nat.lt_succ_self _, rest59, k57 + 1, (w64 (q67 + q93)), rfl, (by omega), hq55, hE.pick _ ⟨rfl, rfl, rfl, rfl, trivial⟩, hS⟩
 ·clear hE hS a w; rintro a w ⟨q67, rfl, hE, hS⟩
  refine W.seq (W.region ?_)
  refine WL.vS hS hE (runs_plain rfl) (Gives.p hE rfl) rfl ?_; clear hE a; intro a hE
  refine WL.vS hS hE (runs_plain rfl) (Gives.p hE rfl) rfl ?_; clear hE a; intro a hE
  refine WL.nil ?_
  refine W.ret ?_
  refine finG (fn := Try.f99) (rs := [.tmp 2]) (vs := [_]) hE rfl ⟨rfl, trivial⟩ ?_
  obtain rfl := Option.some.inj hr
  replace hS := hS.front 2 rfl
  replace hS := hS.front 1 rfl
  replace hS := hS.front 2 rfl
  exact ⟨rfl, hS⟩
end Go.Proofs.Ytffleanbfkjfiaa
