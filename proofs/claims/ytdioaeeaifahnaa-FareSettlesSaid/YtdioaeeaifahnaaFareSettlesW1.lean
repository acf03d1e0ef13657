/- The walks of the functions that FareSettles reaches: each call comes to what its mirror says. The conditions are those of each contract. -/
import Derived.Test.YtdioaeeaifahnaaProg
import Derived.Test.YtdioaeeaifahnaaFareSettlesM
import Derived.Test.YtdioaeeaifahnaaFpMore
namespace Go.Proofs.Ytdioaeeaifahnaa
open Go Go.Fp
theorem ap41 : apOk Try.prog 41 3 1 = true := by kernel_rfl
theorem ap57 : apOk Try.prog 57 41 1 = true := by kernel_rfl
theorem ap58 : apOk Try.prog 58 65 3 = true := by kernel_rfl
theorem bd103 : bodied Try.prog 103 = true := by kernel_rfl
theorem bd104 : bodied Try.prog 104 = true := by kernel_rfl
theorem bd105 : bodied Try.prog 105 = true := by kernel_rfl
theorem bd114 : bodied Try.prog 114 = true := by kernel_rfl
theorem bd115 : bodied Try.prog 115 = true := by kernel_rfl
theorem bd116 : bodied Try.prog 116 = true := by kernel_rfl
theorem bd117 : bodied Try.prog 117 = true := by kernel_rfl
theorem bd118 : bodied Try.prog 118 = true := by kernel_rfl
theorem bd119 : bodied Try.prog 119 = true := by kernel_rfl
theorem bd12 : bodied Try.prog 12 = true := by kernel_rfl
theorem bd120 : bodied Try.prog 120 = true := by kernel_rfl
theorem bd128 : bodied Try.prog 128 = true := by kernel_rfl
theorem bd137 : bodied Try.prog 137 = true := by kernel_rfl
theorem bd141 : bodied Try.prog 141 = true := by kernel_rfl
theorem bd142 : bodied Try.prog 142 = true := by kernel_rfl
theorem bd21 : bodied Try.prog 21 = true := by kernel_rfl
theorem bd25 : bodied Try.prog 25 = true := by kernel_rfl
theorem bd26 : bodied Try.prog 26 = true := by kernel_rfl
theorem bd27 : bodied Try.prog 27 = true := by kernel_rfl
theorem bd28 : bodied Try.prog 28 = true := by kernel_rfl
theorem bd29 : bodied Try.prog 29 = true := by kernel_rfl
theorem bd30 : bodied Try.prog 30 = true := by kernel_rfl
theorem bd31 : bodied Try.prog 31 = true := by kernel_rfl
theorem bd47 : bodied Try.prog 47 = true := by kernel_rfl
theorem bd48 : bodied Try.prog 48 = true := by kernel_rfl
theorem bd49 : bodied Try.prog 49 = true := by kernel_rfl
theorem bd50 : bodied Try.prog 50 = true := by kernel_rfl
theorem bd51 : bodied Try.prog 51 = true := by kernel_rfl
theorem bd55 : bodied Try.prog 55 = true := by kernel_rfl
theorem bd56 : bodied Try.prog 56 = true := by kernel_rfl
theorem bd61 : bodied Try.prog 61 = true := by kernel_rfl
theorem bd62 : bodied Try.prog 62 = true := by kernel_rfl
theorem bd73 : bodied Try.prog 73 = true := by kernel_rfl
theorem bd76 : bodied Try.prog 76 = true := by kernel_rfl
theorem bd77 : bodied Try.prog 77 = true := by kernel_rfl
theorem bd78 : bodied Try.prog 78 = true := by kernel_rfl
theorem bd79 : bodied Try.prog 79 = true := by kernel_rfl
theorem bd80 : bodied Try.prog 80 = true := by kernel_rfl
theorem bd89 : bodied Try.prog 89 = true := by kernel_rfl
theorem bd90 : bodied Try.prog 90 = true := by kernel_rfl
theorem bd91 : bodied Try.prog 91 = true := by kernel_rfl
theorem bd92 : bodied Try.prog 92 = true := by kernel_rfl
theorem bd93 : bodied Try.prog 93 = true := by kernel_rfl
theorem bd96 : bodied Try.prog 96 = true := by kernel_rfl
theorem bd97 : bodied Try.prog 97 = true := by kernel_rfl
theorem fl108_0 : fldOk Try.prog 108 0 0 = true := by kernel_rfl
theorem fl108_1 : fldOk Try.prog 108 1 1 = true := by kernel_rfl
theorem fl111_0 : fldOk Try.prog 111 0 0 = true := by kernel_rfl
theorem fl111_1 : fldOk Try.prog 111 1 1 = true := by kernel_rfl
theorem fl111_2 : fldOk Try.prog 111 2 2 = true := by kernel_rfl
theorem fl111_3 : fldOk Try.prog 111 3 3 = true := by kernel_rfl
theorem fl113_0 : fldOk Try.prog 113 0 0 = true := by kernel_rfl
theorem fl113_1 : fldOk Try.prog 113 1 4 = true := by kernel_rfl
theorem fl113_2 : fldOk Try.prog 113 2 5 = true := by kernel_rfl
theorem fl113_3 : fldOk Try.prog 113 3 6 = true := by kernel_rfl
theorem fl25_0 : fldOk Try.prog 25 0 0 = true := by kernel_rfl
theorem fl25_1 : fldOk Try.prog 25 1 1 = true := by kernel_rfl
theorem fl25_2 : fldOk Try.prog 25 2 2 = true := by kernel_rfl
theorem fl25_3 : fldOk Try.prog 25 3 3 = true := by kernel_rfl
theorem fl65_0 : fldOk Try.prog 65 0 0 = true := by kernel_rfl
theorem fl65_1 : fldOk Try.prog 65 1 1 = true := by kernel_rfl
theorem fl65_2 : fldOk Try.prog 65 2 2 = true := by kernel_rfl
theorem fl93_0 : fldOk Try.prog 93 0 0 = true := by kernel_rfl
theorem fl93_1 : fldOk Try.prog 93 1 1 = true := by kernel_rfl
theorem fl93_2 : fldOk Try.prog 93 2 2 = true := by kernel_rfl
theorem fl93_3 : fldOk Try.prog 93 3 3 = true := by kernel_rfl
theorem fl93_4 : fldOk Try.prog 93 4 4 = true := by kernel_rfl
theorem fl93_5 : fldOk Try.prog 93 5 5 = true := by kernel_rfl
theorem hu176 : (Try.prog.underlying 176).isSome = true := by kernel_rfl
theorem hu3 : (Try.prog.underlying 3).isSome = true := by kernel_rfl
theorem hu5 : (Try.prog.underlying 5).isSome = true := by kernel_rfl
theorem mixed : Try.prog.follows .mixedOrders = true := by kernel_rfl
theorem sl109 : slOk Try.prog 109 111 4 = true := by kernel_rfl
theorem sl22 : slOk Try.prog 22 108 2 = true := by kernel_rfl
theorem sl23 : slOk Try.prog 23 113 7 = true := by kernel_rfl
theorem sl41 : slOk Try.prog 41 3 1 = true := by kernel_rfl
theorem sl57 : slOk Try.prog 57 41 1 = true := by kernel_rfl
theorem sl58 : slOk Try.prog 58 65 3 = true := by kernel_rfl
theorem st9 : stOk Try.prog 9 = true := by kernel_rfl
theorem ty108 : tyOk Try.prog 108 true 2 = true := by kernel_rfl
theorem ty109 : tyOk Try.prog 109 false 1 = true := by kernel_rfl
theorem ty111 : tyOk Try.prog 111 true 4 = true := by kernel_rfl
theorem ty113 : tyOk Try.prog 113 true 7 = true := by kernel_rfl
theorem ty22 : tyOk Try.prog 22 false 1 = true := by kernel_rfl
theorem ty23 : tyOk Try.prog 23 false 1 = true := by kernel_rfl
theorem ty25 : tyOk Try.prog 25 true 4 = true := by kernel_rfl
theorem ty3 : tyOk Try.prog 3 false 1 = true := by kernel_rfl
theorem ty4 : tyOk Try.prog 4 false 1 = true := by kernel_rfl
theorem ty41 : tyOk Try.prog 41 false 1 = true := by kernel_rfl
theorem ty65 : tyOk Try.prog 65 true 3 = true := by kernel_rfl
theorem ty93 : tyOk Try.prog 93 true 6 = true := by kernel_rfl
theorem ui153 : Try.prog.underlying 153 = some (.int .u64) := by kernel_rfl
theorem ui3 : Try.prog.underlying 3 = some (.int .i64) := by kernel_rfl
theorem ui5 : Try.prog.underlying 5 = some (.int .u8) := by kernel_rfl
theorem zr108 : (Try.prog.info? 108).bind (fun i => i.zero.map fun z => z.cells.toList) = some [.int .i64 0, .int .i64 0] := by kernel_rfl
theorem zr111 : (Try.prog.info? 111).bind (fun i => i.zero.map fun z => z.cells.toList) = some [.int .i64 0, .int .i64 0, .int .i64 0, .slice none 0 0] := by kernel_rfl
theorem zr113 : (Try.prog.info? 113).bind (fun i => i.zero.map fun z => z.cells.toList) = some [.int .i64 0, .int .i64 0, .int .i64 0, .slice none 0 0, .int .i64 0, .int .i64 0, .bool false] := by kernel_rfl
theorem zr25 : (Try.prog.info? 25).bind (fun i => i.zero.map fun z => z.cells.toList) = some [.bool false, .slice none 0 0, .int .i64 0, .slice none 0 0] := by kernel_rfl
theorem zr3 : (Try.prog.info? 3).bind (fun i => i.zero.map fun z => z.cells.toList) = some [.int .i64 0] := by kernel_rfl
theorem zr65 : (Try.prog.info? 65).bind (fun i => i.zero.map fun z => z.cells.toList) = some [.int .i64 0, .int .i64 0, .int .i64 0] := by kernel_rfl
set_option maxHeartbeats 8000000 in
theorem FareSettle_1_v1_ok  {w : World} {s : Sg} {R : List HP} {pb0 : Nat} {x0 : List Int} {a0 : Option Addr} {c0 : Nat} {y0 : Int} (hS : St w s (pt pb0 (.cells #[.int .i64 y0] 3 (0, 0)) :: R)) (_h0 : Sl 1 (RI .i64) s a0 c0 x0) {r : Bool} (hr : FareSettle_1_v1 x0 y0 = r) :
    Calls Try.prog 77 [.slice a0 x0.length c0, .pointer (some ⟨pb0, 0, none⟩)].toArray w (fun e w => e = .returned (.bool r) ∧ St w s (pt pb0 (.cells #[.int .i64 y0] 3 (0, 0)) :: R)) := by
  refine enter Try.func77 rfl rfl rfl fun a hE => ?_
  rw [FareSettle_1_v1] at hr
  refine W.seq ?_
  refine W.region ?_
  refine WL.vS hS hE (runs_plain rfl) (Gives.p hE rfl) rfl ?_; clear hE a; intro a hE
  refine WL.nil ?_
  refine W.seq ?_
  refine W.region ?_
  refine WL.vS hS hE (runs_plain rfl) (Gives.p hE rfl) rfl ?_; clear hE a; intro a hE
  refine WL.vS hS hE (runs_plain rfl) (Gives.len hE rfl sl41) rfl ?_; clear hE a; intro a hE
  refine WL.vS hS hE (runs_plain rfl) (Gives.loadB hE 0 rfl rfl rfl ty3) rfl ?_; clear hE a; intro a hE
  refine WL.vS hS hE (runs_plain rfl) (Gives.p hE rfl) rfl ?_; clear hE a; intro a hE
  refine WL.vS hS hE (runs_plain rfl) (Gives.p hE rfl) rfl ?_; clear hE a; intro a hE
  refine WL.nil ?_
  refine W.ret ?_
  refine finG (fn := Try.f77) (rs := [.tmp 3]) (vs := [_]) hE rfl ⟨rfl, trivial⟩ ?_
  subst hr
  exact ⟨rfl, hS⟩
set_option maxHeartbeats 8000000 in
theorem SlicesIndexFuncLLint_v1_ok  {w : World} {s : Sg} {R : List HP} {pb0 : Nat} {x0 : List (List Int)} {a0 : Option Addr} {c0 : Nat} {y0 : Int} (hS : St w s (pt pb0 (.cells #[.int .i64 y0] 3 (0, 0)) :: R)) (h0 : Sl 1 (RL 1 (RI .i64)) s a0 c0 x0) {r : Int} (hr : SlicesIndexFuncLLint_v1 x0 y0 = r) :
    Calls Try.prog 103 [.slice a0 x0.length c0, .func (.func 77) #[] #[.pointer (some ⟨pb0, 0, none⟩)]].toArray w (fun e w => e = .returned (.int .i64 r) ∧ St w s (pt pb0 (.cells #[.int .i64 y0] 3 (0, 0)) :: R)) := by
  refine enter Try.func103 rfl rfl rfl fun a hE => ?_
  rw [SlicesIndexFuncLLint_v1] at hr
  refine W.seq ?_
  refine W.region ?_
  refine WL.vS hS hE (runs_plain rfl) (Gives.p hE rfl) rfl ?_; clear hE a; intro a hE
  refine WL.nil ?_
  refine W.seq ?_
  refine W.seq ?_
  refine W.region ?_
  refine WL.vS hS hE (runs_plain rfl) (Gives.p hE rfl) rfl ?_; clear hE a; intro a hE
  refine WL.vS hS hE (runs_plain rfl) (Gives.len hE rfl sl57) rfl ?_; clear hE a; intro a hE
  refine WL.vS hS hE (runs_plain rfl) (Gives.p hE rfl) rfl ?_; clear hE a; intro a hE
  refine WL.nil ?_
  obtain ⟨q52, hq51, hr⟩ := bndS hr
  refine W.cut (fun a w => (.next ()) = q52 ∧ Rep a 19 [] ∧ St w s (pt pb0 (.cells #[.int .i64 y0] 3 (0, 0)) :: R)) ?_ ?_
  · refine W.block ?_
    refine W.loop (fun m a w => ∃ (rest55 : List (List Int)) (k53 : Nat), rest55.length = m ∧ x0.drop k53 = rest55 ∧ SlicesIndexFuncLLint_v1.loop1 y0 rest55 k53 = q52 ∧ Rep a 19 [(0, .slice a0 x0.length c0), (1, .func (.func 77) #[] #[.pointer (some ⟨pb0, 0, none⟩)]), (7, .int .i64 ((x0).length : Int)), (8, .int .i64 ((k53 : Nat) : Int))] ∧ St w s (pt pb0 (.cells #[.int .i64 y0] 3 (0, 0)) :: R)) (m := x0.length) ⟨x0, 0, rfl, rfl, hq51, hE.pick _ ⟨rfl, rfl, rfl, rfl, trivial⟩, hS⟩ ?_
    clear hE hS a w hq51; rintro m59 a w ⟨rest55, k53, rfl, hd56, hq51, hE, hS⟩
    refine W.gen fun K62 hK62 => ?_
    rcases rest55 with _ | ⟨x54, rest55⟩
    · have hlt57 := drop_nil hd56
      refine W.seq ?_
      refine W.region ?_
      refine WL.vS hS hE (runs_plain rfl) (Gives.p hE rfl) rfl ?_; clear hE a; intro a hE
      refine WL.nil ?_
      refine W.seq ?_
      refine W.condF hE rfl (decide_eq_false (by omega)) ?_
      subst hK62
      refine W.exit rfl ?_
      exact ⟨hq51, hE.pick _ trivial, hS⟩
    · obtain ⟨hlt57, hx58, hd56⟩ := drop_cons hd56
      rw [SlicesIndexFuncLLint_v1.loop1] at hq51
      refine W.seq ?_
      refine W.region ?_
      refine WL.vS hS hE (runs_plain rfl) (Gives.p hE rfl) rfl ?_; clear hE a; intro a hE
      refine WL.nil ?_
      refine W.seq ?_
      refine W.condT hE rfl (decide_eq_true (by omega)) ?_
      refine W.skip ?_
      refine W.seq ?_
      refine W.block ?_
      refine W.seq ?_
      refine W.region ?_
      refine WL.vS hS hE (runs_plain rfl) (Gives.p hE rfl) rfl ?_; clear hE a; intro a hE
      refine WL.vS hS hE (runs_plain rfl) (Gives.p hE rfl) rfl ?_; clear hE a; intro a hE
      refine WL.nil ?_
      refine W.seq ?_
      refine W.region ?_
      refine WL.vS hS hE (runs_plain rfl) (Gives.p hE rfl) rfl ?_; clear hE a; intro a hE
      refine WL.vS hS hE (runs_plain rfl) (Gives.p hE rfl) rfl ?_; clear hE a; intro a hE
      refine WL.vS hS hE (runs_plain rfl) (Gives.p hE rfl) rfl ?_; clear hE a; intro a hE
      obtain ⟨cs63, hl64, hR65, hat66⟩ := h0.at hx58
      obtain ⟨a67, c68, rfl, h69⟩ := hR65
      refine WL.vS hS hE (runs_plain rfl) (Gives.idx hE k53 rfl rfl sl57 rfl hlt57 (h0.aok hlt57)) rfl ?_; clear hE a; intro a hE
      refine WL.vS hS hE (runs_plain rfl) (Gives.load1 hE rfl (fun w h => hat66 w _ h) ty41) rfl ?_; clear hE a; intro a hE
      refine WL.fnw hE (FareSettle_1_v1_ok hS h69 rfl (r := FareSettle_1_v1 x54 y0)) rfl (runs_plain rfl) bd77 rfl rfl rfl ?_
      clear hE hS; rintro e w ⟨rfl, hS⟩; refine ⟨_, rfl, ?_⟩; clear a; intro a hE
      refine WL.nil ?_
      refine W.cond hE rfl (fun hc70 => ?_) (fun hc70 => ?_)
      · replace hq51 := iteT hc70 hq51
        refine W.seq ?_
        refine W.region ?_
        refine WL.vS hS hE (runs_plain rfl) (Gives.p hE rfl) rfl ?_; clear hE a; intro a hE
        refine WL.vS hS hE (runs_plain rfl) (Gives.p hE rfl) rfl ?_; clear hE a; intro a hE
        refine WL.nil ?_
        refine W.ret ?_
        subst hK62
        rw [← hq51] at hr
        dsimp only at hr
        refine finG (fn := Try.f103) (rs := [.tmp 4]) (vs := [_]) hE rfl ⟨rfl, trivial⟩ ?_
        subst hr
        exact ⟨rfl, hS⟩
      · replace hq51 := iteF hc70 hq51
        refine W.skip ?_
        refine W.region ?_
        refine WL.vS hS hE (runs_plain rfl) (Gives.inc hE rfl (by have := h0.small; omega)) rfl ?_; clear hE a; intro a hE
        refine WL.vS hS hE (runs_plain rfl) (Gives.p hE rfl) rfl ?_; clear hE a; intro a hE
        refine WL.nil ?_
        subst hK62
        exact ⟨rest55.length, Nat.lt_succ_self _, rest55, k53 + 1, rfl, hd56, hq51, hE.pick _ ⟨rfl, rfl, rfl, rfl, trivial⟩, hS⟩
  · clear hE hS a w; rintro a w ⟨rfl, hE, hS⟩
    dsimp only at hr
    refine W.seq ?_
    refine W.region ?_
    refine WL.vS hS hE (runs_plain rfl) (Gives.p hE rfl) rfl ?_; clear hE a; intro a hE
    refine WL.nil ?_
    refine W.ret ?_
    refine finG (fn := Try.f103) (rs := [.tmp 4]) (vs := [_]) hE rfl ⟨rfl, trivial⟩ ?_
    subst hr
    exact ⟨rfl, hS⟩
set_option maxHeartbeats 8000000 in
theorem SlicesContainsFuncLLint_v1_ok  {w : World} {s : Sg} {R : List HP} {pb0 : Nat} {x0 : List (List Int)} {a0 : Option Addr} {c0 : Nat} {y0 : Int} (hS : St w s (pt pb0 (.cells #[.int .i64 y0] 3 (0, 0)) :: R)) (h0 : Sl 1 (RL 1 (RI .i64)) s a0 c0 x0) {r : Bool} (hr : SlicesContainsFuncLLint_v1 x0 y0 = r) :
    Calls Try.prog 76 [.slice a0 x0.length c0, .func (.func 77) #[] #[.pointer (some ⟨pb0, 0, none⟩)]].toArray w (fun e w => e = .returned (.bool r) ∧ St w s (pt pb0 (.cells #[.int .i64 y0] 3 (0, 0)) :: R)) := by
  refine enter Try.func76 rfl rfl rfl fun a hE => ?_
  rw [SlicesContainsFuncLLint_v1] at hr
  refine W.seq ?_
  refine W.region ?_
  refine WL.vS hS hE (runs_plain rfl) (Gives.p hE rfl) rfl ?_; clear hE a; intro a hE
  refine WL.nil ?_
  refine W.seq ?_
  refine W.region ?_
  refine WL.vS hS hE (runs_plain rfl) (Gives.p hE rfl) rfl ?_; clear hE a; intro a hE
  refine WL.vS hS hE (runs_plain rfl) (Gives.p hE rfl) rfl ?_; clear hE a; intro a hE
  refine WL.fnq hE (SlicesIndexFuncLLint_v1_ok hS h0 rfl (r := SlicesIndexFuncLLint_v1 x0 y0)) (runs_plain rfl) bd103 rfl rfl rfl ?_
  clear hE hS; rintro e w ⟨rfl, hS⟩; refine ⟨_, rfl, ?_⟩; clear a; intro a hE
  refine WL.vS hS hE (runs_plain rfl) (Gives.p hE rfl) rfl ?_; clear hE a; intro a hE
  refine WL.vS hS hE (runs_plain rfl) (Gives.p hE rfl) rfl ?_; clear hE a; intro a hE
  refine WL.nil ?_
  refine W.ret ?_
  refine finG (fn := Try.f76) (rs := [.tmp 4]) (vs := [_]) hE rfl ⟨rfl, trivial⟩ ?_
  subst hr
  exact ⟨rfl, hS⟩
set_option maxHeartbeats 8000000 in
theorem Farewithin_ok  {w : World} {s : Sg} {R : List HP} {x0 : Int} {x1 : Int} {x2 : Int} (hS : St w s (R))  {r : Bool} (hr : Farewithin x0 x1 x2 = r) :
    Calls Try.prog 50 [.int .i64 x0, .int .i64 x1, .int .i64 x2].toArray w (fun e w => e = .returned (.bool r) ∧ St w s (R)) := by
  refine enter Try.func50 rfl rfl rfl fun a hE => ?_
  rw [Farewithin] at hr
  refine W.seq ?_
  refine W.region ?_
  refine WL.vS hS hE (runs_plain rfl) (Gives.p hE rfl) rfl ?_; clear hE a; intro a hE
  refine WL.nil ?_
  refine W.seq ?_
  obtain ⟨q52, hq51, hr⟩ := bndS hr
  refine W.cut (fun a w => ∃ (q55 : Bool), q55 = q52 ∧ Rep a 15 [(6, .bool q55)] ∧ St w s (R)) ?_ ?_
  · refine W.gen fun K56 hK56 => ?_
    refine W.region ?_
    refine WL.vS hS hE (runs_plain rfl) (Gives.p hE rfl) rfl ?_; clear hE a; intro a hE
    refine WL.vS hS hE (runs_plain rfl) (Gives.p hE rfl) rfl ?_; clear hE a; intro a hE
    refine WL.vS hS hE (runs_plain rfl) (Gives.p hE rfl) rfl ?_; clear hE a; intro a hE
    refine WL.vS hS hE (runs_plain rfl) (Gives.p hE rfl) rfl ?_; clear hE a; intro a hE
    rcases Bool.eq_false_or_eq_true (decide (x0 ≥ x1)) with hg57 | hg57
    · replace hq51 := iteT hg57 hq51
      refine WL.vS hS hE (runs_if hE rfl rfl rfl hg57) (Gives.p hE rfl) rfl ?_; clear hE a; intro a hE
      refine WL.vS hS hE (runs_if hE rfl rfl rfl hg57) (Gives.p hE rfl) rfl ?_; clear hE a; intro a hE
      refine WL.vS hS hE (runs_if hE rfl rfl rfl hg57) (Gives.p hE rfl) rfl ?_; clear hE a; intro a hE
      refine WL.vS hS hE (runs_plain rfl) (Gives.pickT hE rfl hg57 rfl) rfl ?_; clear hE a; intro a hE
      refine WL.vS hS hE (runs_plain rfl) (Gives.p hE rfl) rfl ?_; clear hE a; intro a hE
      refine WL.nil ?_
      subst hK56
      exact ⟨decide (x0 ≤ x2), hq51, hE.pick _ ⟨rfl, trivial⟩, hS⟩
    · replace hq51 := iteF hg57 hq51
      refine WL.no hE (runs_not hE rfl rfl rfl (by rw [hg57]; decide)) rfl ?_; clear hE a; intro a hE
      refine WL.no hE (runs_not hE rfl rfl rfl (by rw [hg57]; decide)) rfl ?_; clear hE a; intro a hE
      refine WL.no hE (runs_not hE rfl rfl rfl (by rw [hg57]; decide)) rfl ?_; clear hE a; intro a hE
      refine WL.vS hS hE (runs_plain rfl) (Gives.pickF hE rfl hg57 rfl) rfl ?_; clear hE a; intro a hE
      refine WL.vS hS hE (runs_plain rfl) (Gives.p hE rfl) rfl ?_; clear hE a; intro a hE
      refine WL.nil ?_
      subst hK56
      exact ⟨false, hq51, hE.pick _ ⟨rfl, trivial⟩, hS⟩
  · clear hE hS a w; rintro a w ⟨q55, rfl, hE, hS⟩
    refine W.ret ?_
    refine finG (fn := Try.f50) (rs := [.tmp 6]) (vs := [_]) hE rfl ⟨rfl, trivial⟩ ?_
    subst hr
    exact ⟨rfl, hS⟩
set_option maxHeartbeats 8000000 in
theorem Faregroups_ok {fu : Nat}  {w : World} {s : Sg} {R : List HP} {x0 : List Int} {a0 : Option Addr} {c0 : Nat} (hS : St w s (R)) (h0 : Sl 1 (RI .i64) s a0 c0 x0) {r : (List (List Int))} (hr : Faregroups fu x0 = some r) :
    Calls Try.prog 78 [.slice a0 x0.length c0].toArray w (fun e w => ∃ (a0 : Option Addr) (c0 n0 : Nat) (cs0 : List Value) (t : Sg), e = .returned (.slice a0 n0 c0) ∧ s.Le t ∧ Ev 1 (RL 1 (RI .i64)) t cs0 r ∧ r.length = n0 ∧ St w t (vecC 41 1 a0 c0 n0 cs0 :: R)) := by
  refine enter Try.func78 rfl rfl rfl fun a hE => ?_
  rw [Faregroups] at hr
  refine W.seq ?_
  refine W.region ?_
  refine WL.vS hS hE (runs_plain rfl) (Gives.p hE rfl) rfl ?_; clear hE a; intro a hE
  refine WL.nil ?_
  refine W.seq ?_
  refine W.region ?_
  refine WL.vS hS hE (runs_plain rfl) (Gives.p hE rfl) rfl ?_; clear hE a; intro a hE
  refine WL.vS hS hE (runs_plain rfl) (Gives.len hE rfl sl41) rfl ?_; clear hE a; intro a hE
  refine WL.vS hS hE (runs_plain rfl) (Gives.shl hE rfl rfl (by omega)) rfl ?_; clear hE a; intro a hE
  refine WL.vS hS hE (runs_plain rfl) (Gives.p hE rfl) rfl ?_; clear hE a; intro a hE
  refine WL.vS hS hE (runs_plain rfl) (Gives.p hE rfl) rfl ?_; clear hE a; intro a hE
  refine WL.nil ?_
  refine W.seq ?_
  refine W.region ?_
  refine WL.vS hS hE (runs_plain rfl) (Gives.p hE rfl) rfl ?_; clear hE a; intro a hE
  refine WL.vS hS hE (runs_plain rfl) (Gives.p hE rfl) rfl ?_; clear hE a; intro a hE
  obtain ⟨x51, hx52, hr⟩ := bindS hr
  refine WL.mkD (Rr := RI .i64) hE hS (runs_plain rfl) rfl rfl ap41 zr3 rfl hx52 rfl ?_; clear hE hS a w; intro b53 cs54 a w h55 hE hS
  refine WL.vS hS hE (runs_plain rfl) (Gives.p hE rfl) rfl ?_; clear hE a; intro a hE
  refine WL.nil ?_
  refine W.seq ?_
  refine W.region ?_
  refine WL.vS hS hE (runs_plain rfl) (Gives.p hE rfl) rfl ?_; clear hE a; intro a hE
  refine WL.vS hS hE (runs_plain rfl) (Gives.p hE rfl) rfl ?_; clear hE a; intro a hE
  obtain ⟨x57, hx58, hr⟩ := bindS hr
  refine WL.mkD (Rr := RI .i64) hE hS (runs_plain rfl) rfl rfl ap41 zr3 rfl hx58 rfl ?_; clear hE hS a w; intro b59 cs60 a w h61 hE hS
  refine WL.vS hS hE (runs_plain rfl) (Gives.p hE rfl) rfl ?_; clear hE a; intro a hE
  refine WL.nil ?_
  refine W.seq ?_
  refine W.region ?_
  refine WL.vS hS hE (runs_plain rfl) (Gives.p hE rfl) rfl ?_; clear hE a; intro a hE
  refine WL.vS hS hE (runs_plain rfl) (Gives.p hE rfl) rfl ?_; clear hE a; intro a hE
  obtain ⟨x63, hx64, hr⟩ := bindS hr
  refine WL.mkD (Rr := RI .i64) hE hS (runs_plain rfl) rfl rfl ap41 zr3 rfl hx64 rfl ?_; clear hE hS a w; intro b65 cs66 a w h67 hE hS
  refine WL.vS hS hE (runs_plain rfl) (Gives.p hE rfl) rfl ?_; clear hE a; intro a hE
  refine WL.nil ?_
  refine W.seq ?_
  refine W.seq ?_
  refine W.region ?_
  refine WL.vS hS hE (runs_plain rfl) (Gives.p hE rfl) rfl ?_; clear hE a; intro a hE
  refine WL.nil ?_
  obtain ⟨q70, hq69, hr⟩ := bindS hr
  refine W.cut (fun a w => ∃ (q75 : Int), ∃ (q76 : List Int), ∃ (q82 : List Int), ∃ (q88 : List Int), ∃ (cs80 : List Value), ∃ (cs86 : List Value), ∃ (cs92 : List Value), (q75, q76, q82, q88) = q70 ∧ Ev 1 (RI .i64) s cs80 q76 ∧ q76.length = x51.length ∧ Ev 1 (RI .i64) s cs86 q82 ∧ q82.length = x57.length ∧ Ev 1 (RI .i64) s cs92 q88 ∧ q88.length = x63.length ∧ Rep a 140 [(0, .slice a0 x0.length c0), (3, .int .i64 (w64 ((IntKind.wrap .i64 (1 * (2 ^ (min (Int.toNat ((x0).length : Int)) (IntKind.bits .i64))))) - 1))), (6, .slice (some ⟨b65, 0, none⟩) x63.length x63.length)] ∧ St w s (vecC 3 1 (some ⟨b65, 0, none⟩) x63.length x63.length cs92 :: vecC 3 1 (some ⟨b59, 0, none⟩) x57.length x57.length cs86 :: vecC 3 1 (some ⟨b53, 0, none⟩) x51.length x51.length cs80 :: R)) ?_ ?_
  · refine W.block ?_
    refine W.loop (fun m a w => ∃ (n71 : Nat), ∃ (q75 : Int), ∃ (q76 : List Int), ∃ (q82 : List Int), ∃ (q88 : List Int), ∃ (cs80 : List Value), ∃ (cs86 : List Value), ∃ (cs92 : List Value), n71 = m ∧ Faregroups.loop1 x0 fu n71 q75 q76 q82 q88 = some q70 ∧ Ev 1 (RI .i64) s cs80 q76 ∧ q76.length = x51.length ∧ Ev 1 (RI .i64) s cs86 q82 ∧ q82.length = x57.length ∧ Ev 1 (RI .i64) s cs92 q88 ∧ q88.length = x63.length ∧ Rep a 140 [(0, .slice a0 x0.length c0), (3, .int .i64 (w64 ((IntKind.wrap .i64 (1 * (2 ^ (min (Int.toNat ((x0).length : Int)) (IntKind.bits .i64))))) - 1))), (4, .slice (some ⟨b53, 0, none⟩) x51.length x51.length), (5, .slice (some ⟨b59, 0, none⟩) x57.length x57.length), (6, .slice (some ⟨b65, 0, none⟩) x63.length x63.length), (7, .int .i64 q75)] ∧ St w s (vecC 3 1 (some ⟨b65, 0, none⟩) x63.length x63.length cs92 :: vecC 3 1 (some ⟨b59, 0, none⟩) x57.length x57.length cs86 :: vecC 3 1 (some ⟨b53, 0, none⟩) x51.length x51.length cs80 :: R)) (m := fu) ⟨fu, 1, x51, x57, x63, cs54, cs60, cs66, rfl, hq69, h55, (rfl), h61, (rfl), h67, (rfl), hE.pick _ ⟨rfl, rfl, rfl, rfl, rfl, rfl, trivial⟩, hS⟩ ?_
    clear hE hS a w hq69; rintro m72 a w ⟨n71, q75, q76, q82, q88, cs80, cs86, cs92, rfl, hq69, h79, hn81, h85, hn87, h91, hn93, hE, hS⟩
    refine W.gen fun K94 hK94 => ?_
    rcases n71 with _ | n71
    · rw [Faregroups.loop1] at hq69; exact absurd hq69 (by simp)
    rw [Faregroups.loop1] at hq69
    refine W.seq ?_
    refine W.seq ?_
    refine W.region ?_
    refine WL.vS hS hE (runs_plain rfl) (Gives.p hE rfl) rfl ?_; clear hE a; intro a hE
    refine WL.vS hS hE (runs_plain rfl) (Gives.p hE rfl) rfl ?_; clear hE a; intro a hE
    refine WL.vS hS hE (runs_plain rfl) (Gives.p hE rfl) rfl ?_; clear hE a; intro a hE
    refine WL.nil ?_
    refine W.cond hE rfl (fun hc95 => ?_) (fun hc95 => ?_)
    · replace hq69 := iteT hc95 hq69
      refine W.skip ?_
      refine W.seq ?_
      refine W.block ?_
      refine W.seq ?_
      refine W.seq ?_
      refine W.region ?_
      refine WL.vS hS hE (runs_plain rfl) (Gives.p hE rfl) rfl ?_; clear hE a; intro a hE
      refine WL.vS hS hE (runs_plain rfl) (Gives.len hE rfl sl41) rfl ?_; clear hE a; intro a hE
      refine WL.vS hS hE (runs_plain rfl) (Gives.p hE rfl) rfl ?_; clear hE a; intro a hE
      refine WL.nil ?_
      obtain ⟨q97, hq96, hq69⟩ := bindS hq69
      refine W.cut (fun a w => ∃ (q107 : List Int), ∃ (cs111 : List Value), q107 = q97 ∧ Ev 1 (RI .i64) s cs111 q107 ∧ q107.length = x51.length ∧ Rep a 140 [(0, .slice a0 x0.length c0), (3, .int .i64 (w64 ((IntKind.wrap .i64 (1 * (2 ^ (min (Int.toNat ((x0).length : Int)) (IntKind.bits .i64))))) - 1))), (4, .slice (some ⟨b53, 0, none⟩) x51.length x51.length), (5, .slice (some ⟨b59, 0, none⟩) x57.length x57.length), (6, .slice (some ⟨b65, 0, none⟩) x63.length x63.length), (7, .int .i64 q75)] ∧ St w s (vecC 3 1 (some ⟨b65, 0, none⟩) x63.length x63.length cs92 :: vecC 3 1 (some ⟨b59, 0, none⟩) x57.length x57.length cs86 :: vecC 3 1 (some ⟨b53, 0, none⟩) x51.length x51.length cs111 :: R)) ?_ ?_
      · refine W.block ?_
        refine W.loop (fun m a w => ∃ (rest100 : List Int) (k98 : Nat), ∃ (q107 : List Int), ∃ (cs111 : List Value), rest100.length = m ∧ x0.drop k98 = rest100 ∧ Faregroups.loop2 q75 rest100 k98 q107 = some q97 ∧ Ev 1 (RI .i64) s cs111 q107 ∧ q107.length = x51.length ∧ Rep a 140 [(0, .slice a0 x0.length c0), (3, .int .i64 (w64 ((IntKind.wrap .i64 (1 * (2 ^ (min (Int.toNat ((x0).length : Int)) (IntKind.bits .i64))))) - 1))), (4, .slice (some ⟨b53, 0, none⟩) x51.length x51.length), (5, .slice (some ⟨b59, 0, none⟩) x57.length x57.length), (6, .slice (some ⟨b65, 0, none⟩) x63.length x63.length), (7, .int .i64 q75), (33, .slice a0 x0.length c0), (34, .int .i64 ((x0).length : Int)), (35, .int .i64 ((k98 : Nat) : Int))] ∧ St w s (vecC 3 1 (some ⟨b65, 0, none⟩) x63.length x63.length cs92 :: vecC 3 1 (some ⟨b59, 0, none⟩) x57.length x57.length cs86 :: vecC 3 1 (some ⟨b53, 0, none⟩) x51.length x51.length cs111 :: R)) (m := x0.length) ⟨x0, 0, q76, cs80, rfl, rfl, hq96, h79, hn81, hE.pick _ ⟨rfl, rfl, rfl, rfl, rfl, rfl, rfl, rfl, rfl, trivial⟩, hS⟩ ?_
        clear hE hS a w hq96; rintro m104 a w ⟨rest100, k98, q107, cs111, rfl, hd101, hq96, h110, hn112, hE, hS⟩
        refine W.gen fun K113 hK113 => ?_
        rcases rest100 with _ | ⟨x99, rest100⟩
        · have hlt102 := drop_nil hd101
          refine W.seq ?_
          refine W.region ?_
          refine WL.vS hS hE (runs_plain rfl) (Gives.p hE rfl) rfl ?_; clear hE a; intro a hE
          refine WL.nil ?_
          refine W.seq ?_
          refine W.condF hE rfl (decide_eq_false (by omega)) ?_
          subst hK113
          refine W.exit rfl ?_
          exact ⟨q107, cs111, Option.some.inj hq96, h110, hn112, hE.pick _ ⟨rfl, rfl, rfl, rfl, rfl, rfl, trivial⟩, hS⟩
        · obtain ⟨hlt102, hx103, hd101⟩ := drop_cons hd101
          rw [Faregroups.loop2] at hq96
          refine W.seq ?_
          refine W.region ?_
          refine WL.vS hS hE (runs_plain rfl) (Gives.p hE rfl) rfl ?_; clear hE a; intro a hE
          refine WL.nil ?_
          refine W.seq ?_
          refine W.condT hE rfl (decide_eq_true (by omega)) ?_
          refine W.skip ?_
          refine W.seq ?_
          refine W.block ?_
          refine W.seq ?_
          refine W.region ?_
          refine WL.vS hS hE (runs_plain rfl) (Gives.p hE rfl) rfl ?_; clear hE a; intro a hE
          obtain ⟨cs114, hl115, hR116, hat117⟩ := h0.at hx103
          subst hR116
          refine WL.vS hS hE (runs_plain rfl) (Gives.idx hE k98 rfl rfl sl41 rfl hlt102 (h0.aok hlt102)) rfl ?_; clear hE a; intro a hE
          refine WL.vS hS hE (runs_plain rfl) (Gives.load1 hE rfl (fun w h => hat117 w _ h) ty3) rfl ?_; clear hE a; intro a hE
          refine WL.vS hS hE (runs_plain rfl) (Gives.p hE rfl) rfl ?_; clear hE a; intro a hE
          refine WL.vS hS hE (runs_plain rfl) (Gives.p hE rfl) rfl ?_; clear hE a; intro a hE
          refine WL.nil ?_
          refine W.seq ?_
          refine W.region ?_
          refine WL.vS hS hE (runs_plain rfl) (Gives.p hE rfl) rfl ?_; clear hE a; intro a hE
          refine WL.vS hS hE (runs_plain rfl) (Gives.p hE rfl) rfl ?_; clear hE a; intro a hE
          refine WL.vS hS hE (runs_plain rfl) (Gives.shr hE rfl rfl (by omega)) rfl ?_; clear hE a; intro a hE
          refine WL.vS hS hE (runs_plain rfl) (Gives.p hE rfl) rfl ?_; clear hE a; intro a hE
          refine WL.vS hS hE (runs_plain rfl) (Gives.p hE rfl) rfl ?_; clear hE a; intro a hE
          refine WL.nil ?_
          obtain ⟨q119, hq118, hq96⟩ := bindS hq96
          refine W.cut (fun a w => ∃ (q122 : List Int), ∃ (cs126 : List Value), q122 = q119 ∧ Ev 1 (RI .i64) s cs126 q122 ∧ q122.length = x51.length ∧ Rep a 140 [(0, .slice a0 x0.length c0), (3, .int .i64 (w64 ((IntKind.wrap .i64 (1 * (2 ^ (min (Int.toNat ((x0).length : Int)) (IntKind.bits .i64))))) - 1))), (4, .slice (some ⟨b53, 0, none⟩) x51.length x51.length), (5, .slice (some ⟨b59, 0, none⟩) x57.length x57.length), (6, .slice (some ⟨b65, 0, none⟩) x63.length x63.length), (7, .int .i64 q75), (33, .slice a0 x0.length c0), (34, .int .i64 ((x0).length : Int)), (35, .int .i64 ((k98 : Nat) : Int))] ∧ St w s (vecC 3 1 (some ⟨b65, 0, none⟩) x63.length x63.length cs92 :: vecC 3 1 (some ⟨b59, 0, none⟩) x57.length x57.length cs86 :: vecC 3 1 (some ⟨b53, 0, none⟩) x51.length x51.length cs126 :: R)) ?_ ?_
          · refine W.gen fun K128 hK128 => ?_
            refine W.cond hE rfl (fun hc129 => ?_) (fun hc129 => ?_)
            · replace hq118 := iteT hc129 hq118
              refine W.region ?_
              refine WL.vS hS hE (runs_plain rfl) (Gives.p hE rfl) rfl ?_; clear hE a; intro a hE
              refine WL.vS hS hE (runs_plain rfl) (Gives.p hE rfl) rfl ?_; clear hE a; intro a hE
              obtain ⟨x130, hx131, hq118⟩ := bindS hq118
              obtain ⟨hi132, hlt133, hy134⟩ := gx_some hx131
              obtain ⟨vs135, hl136, hR137, hd138, hget139⟩ := h110.at hy134
              subst hR137
              refine WL.vS hS hE (runs_plain rfl) (Gives.idx hE ((q75).toNat) rfl rfl sl41 hi132 (by have := hn112; omega) (hS.vecAok 2 rfl (by have := hn112; omega : (q75).toNat < x51.length))) rfl ?_; clear hE a; intro a hE
              refine WL.vS hS hE (runs_plain rfl) (Gives.load1 hE rfl (fun w h => St.vecSees h 2 rfl ((q75).toNat * 1) _ hget139) ty3) rfl ?_; clear hE a; intro a hE
              refine WL.vS hS hE (runs_plain rfl) (Gives.p hE rfl) rfl ?_; clear hE a; intro a hE
              refine WL.vS hS hE (runs_plain rfl) (Gives.p hE rfl) rfl ?_; clear hE a; intro a hE
              obtain ⟨_, hx141, hq118⟩ := bindS hq118
              obtain ⟨h142, h143⟩ := ix_some hx141
              refine WL.vS hS hE (runs_plain rfl) (Gives.idx hE ((q75).toNat) rfl rfl sl41 h142 (by have := hn112; omega) (hS.vecAok 2 rfl (by have := hn112; omega : (q75).toNat < x51.length))) rfl ?_; clear hE a; intro a hE
              obtain ⟨x145, hx146, hq118⟩ := bindS hq118
              refine WL.setD hE hS 2 rfl (runs_plain rfl) rfl rfl (vs := [.int .i64 (w64 (x130 + x99))]) rfl ty3 rfl rfl rfl h110 hn112 (sx_some hx146).1 hx146 rfl rfl ?_; clear hE hS a w; intro cs147 a w h148 hn149 hE hS
              refine WL.nil ?_
              subst hK128
              exact ⟨x145, cs147, Option.some.inj hq118, h148, hn149, hE.pick _ ⟨rfl, rfl, rfl, rfl, rfl, rfl, rfl, rfl, rfl, trivial⟩, hS⟩
            · replace hq118 := iteF hc129 hq118
              refine W.skip ?_
              subst hK128
              exact ⟨q107, cs111, Option.some.inj hq118, h110, hn112, hE.pick _ ⟨rfl, rfl, rfl, rfl, rfl, rfl, rfl, rfl, rfl, trivial⟩, hS⟩
          · clear hE hS a w; rintro a w ⟨q122, cs126, rfl, h125, hn127, hE, hS⟩
            refine W.region ?_
            refine WL.vS hS hE (runs_plain rfl) (Gives.inc hE rfl (by have := h0.small; omega)) rfl ?_; clear hE a; intro a hE
            refine WL.vS hS hE (runs_plain rfl) (Gives.p hE rfl) rfl ?_; clear hE a; intro a hE
            refine WL.nil ?_
            subst hK113
            exact ⟨rest100.length, Nat.lt_succ_self _, rest100, k98 + 1, q122, cs126, rfl, hd101, hq96, h125, hn127, hE.pick _ ⟨rfl, rfl, rfl, rfl, rfl, rfl, rfl, rfl, rfl, trivial⟩, hS⟩
      · clear hE hS a w; rintro a w ⟨q107, cs111, rfl, h110, hn112, hE, hS⟩
        refine W.seq ?_
        refine W.seq ?_
        refine W.region ?_
        refine WL.vS hS hE (runs_plain rfl) (Gives.p hE rfl) rfl ?_; clear hE a; intro a hE
        refine WL.vS hS hE (runs_plain rfl) (Gives.p hE rfl) rfl ?_; clear hE a; intro a hE
        obtain ⟨x150, hx151, hq69⟩ := bindS hq69
        obtain ⟨hi152, hlt153, hy154⟩ := gx_some hx151
        obtain ⟨vs155, hl156, hR157, hd158, hget159⟩ := h110.at hy154
        subst hR157
        refine WL.vS hS hE (runs_plain rfl) (Gives.idx hE ((q75).toNat) rfl rfl sl41 hi152 (by have := hn112; omega) (hS.vecAok 2 rfl (by have := hn112; omega : (q75).toNat < x51.length))) rfl ?_; clear hE a; intro a hE
        refine WL.vS hS hE (runs_plain rfl) (Gives.load1 hE rfl (fun w h => St.vecSees h 2 rfl ((q75).toNat * 1) _ hget159) ty3) rfl ?_; clear hE a; intro a hE
        refine WL.vS hS hE (runs_plain rfl) (Gives.p hE rfl) rfl ?_; clear hE a; intro a hE
        refine WL.nil ?_
        refine W.cond hE rfl (fun hc160 => ?_) (fun hc160 => ?_)
        · replace hq69 := iteT hc160 hq69
          refine W.exit rfl ?_
          refine W.region ?_
          refine WL.vS hS hE (runs_plain rfl) (Gives.p hE rfl) rfl ?_; clear hE a; intro a hE
          refine WL.vS hS hE (runs_plain rfl) (Gives.p hE rfl) rfl ?_; clear hE a; intro a hE
          refine WL.vS hS hE (runs_plain rfl) (Gives.p hE rfl) rfl ?_; clear hE a; intro a hE
          refine WL.nil ?_
          subst hK94
          exact ⟨n71, Nat.lt_succ_self _, n71, (w64 (q75 + 1)), q107, q82, q88, cs111, cs86, cs92, rfl, hq69, h110, hn112, h85, hn87, h91, hn93, hE.pick _ ⟨rfl, rfl, rfl, rfl, rfl, rfl, trivial⟩, hS⟩
        · replace hq69 := iteF hc160 hq69
          refine W.skip ?_
          refine W.seq ?_
          refine W.region ?_
          refine WL.vS hS hE (runs_plain rfl) (Gives.p hE rfl) rfl ?_; clear hE a; intro a hE
          refine WL.vS hS hE (runs_plain rfl) (Gives.p hE rfl) rfl ?_; clear hE a; intro a hE
          refine WL.vS hS hE (runs_plain rfl) (Gives.p hE rfl) rfl ?_; clear hE a; intro a hE
          refine WL.vS hS hE (runs_plain rfl) (Gives.p hE rfl) rfl ?_; clear hE a; intro a hE
          refine WL.vS hS hE (runs_plain rfl) (Gives.p hE rfl) rfl ?_; clear hE a; intro a hE
          obtain ⟨_, hx162, hq69⟩ := bindS hq69
          obtain ⟨h163, h164⟩ := ix_some hx162
          refine WL.vS hS hE (runs_plain rfl) (Gives.idx hE ((q75).toNat) rfl rfl sl41 h163 (by have := hn87; omega) (hS.vecAok 1 rfl (by have := hn87; omega : (q75).toNat < x57.length))) rfl ?_; clear hE a; intro a hE
          obtain ⟨x166, hx167, hq69⟩ := bindS hq69
          refine WL.setD hE hS 1 rfl (runs_plain rfl) rfl rfl (vs := [.int .i64 1]) rfl ty3 rfl rfl rfl h85 hn87 (sx_some hx167).1 hx167 rfl rfl ?_; clear hE hS a w; intro cs168 a w h169 hn170 hE hS
          obtain ⟨_, hx172, hq69⟩ := bindS hq69
          obtain ⟨h173, h174⟩ := ix_some hx172
          refine WL.vS hS hE (runs_plain rfl) (Gives.idx hE ((q75).toNat) rfl rfl sl41 h173 (by have := hn93; omega) (hS.vecAok 0 rfl (by have := hn93; omega : (q75).toNat < x63.length))) rfl ?_; clear hE a; intro a hE
          obtain ⟨x176, hx177, hq69⟩ := bindS hq69
          refine WL.setD hE hS 0 rfl (runs_plain rfl) rfl rfl (vs := [.int .i64 q75]) rfl ty3 rfl rfl rfl h91 hn93 (sx_some hx177).1 hx177 rfl rfl ?_; clear hE hS a w; intro cs178 a w h179 hn180 hE hS
          refine WL.nil ?_
          refine W.seq ?_
          refine W.region ?_
          refine WL.vS hS hE (runs_plain rfl) (Gives.p hE rfl) rfl ?_; clear hE a; intro a hE
          refine WL.vS hS hE (runs_plain rfl) (Gives.p hE rfl) rfl ?_; clear hE a; intro a hE
          refine WL.vS hS hE (runs_plain rfl) (Gives.p hE rfl) rfl ?_; clear hE a; intro a hE
          refine WL.vS hS hE (runs_plain rfl) (Gives.p hE rfl) rfl ?_; clear hE a; intro a hE
          refine WL.vS hS hE (runs_plain rfl) (Gives.p hE rfl) rfl ?_; clear hE a; intro a hE
          refine WL.nil ?_
          obtain ⟨q182, hq181, hq69⟩ := bindS hq69
          refine W.cut (fun a w => ∃ (q187 : Int), ∃ (q188 : List Int), ∃ (q194 : List Int), ∃ (cs192 : List Value), ∃ (cs198 : List Value), (q187, q188, q194) = q182 ∧ Ev 1 (RI .i64) s cs192 q188 ∧ q188.length = x57.length ∧ Ev 1 (RI .i64) s cs198 q194 ∧ q194.length = x63.length ∧ Rep a 140 [(0, .slice a0 x0.length c0), (3, .int .i64 (w64 ((IntKind.wrap .i64 (1 * (2 ^ (min (Int.toNat ((x0).length : Int)) (IntKind.bits .i64))))) - 1))), (4, .slice (some ⟨b53, 0, none⟩) x51.length x51.length), (5, .slice (some ⟨b59, 0, none⟩) x57.length x57.length), (6, .slice (some ⟨b65, 0, none⟩) x63.length x63.length), (7, .int .i64 q75)] ∧ St w s (vecC 3 1 (some ⟨b65, 0, none⟩) x63.length x63.length cs198 :: vecC 3 1 (some ⟨b59, 0, none⟩) x57.length x57.length cs192 :: vecC 3 1 (some ⟨b53, 0, none⟩) x51.length x51.length cs111 :: R)) ?_ ?_
          · refine W.block ?_
            refine W.loop (fun m a w => ∃ (n183 : Nat), ∃ (q187 : Int), ∃ (q188 : List Int), ∃ (q194 : List Int), ∃ (cs192 : List Value), ∃ (cs198 : List Value), n183 = m ∧ Faregroups.loop3 q75 q107 n183 q187 q188 q194 = some q182 ∧ Ev 1 (RI .i64) s cs192 q188 ∧ q188.length = x57.length ∧ Ev 1 (RI .i64) s cs198 q194 ∧ q194.length = x63.length ∧ Rep a 140 [(0, .slice a0 x0.length c0), (3, .int .i64 (w64 ((IntKind.wrap .i64 (1 * (2 ^ (min (Int.toNat ((x0).length : Int)) (IntKind.bits .i64))))) - 1))), (4, .slice (some ⟨b53, 0, none⟩) x51.length x51.length), (5, .slice (some ⟨b59, 0, none⟩) x57.length x57.length), (6, .slice (some ⟨b65, 0, none⟩) x63.length x63.length), (7, .int .i64 q75), (10, .int .i64 q187)] ∧ St w s (vecC 3 1 (some ⟨b65, 0, none⟩) x63.length x63.length cs198 :: vecC 3 1 (some ⟨b59, 0, none⟩) x57.length x57.length cs192 :: vecC 3 1 (some ⟨b53, 0, none⟩) x51.length x51.length cs111 :: R)) (m := fu) ⟨fu, (IntKind.wrap .i64 ((BitVec.ofInt (IntKind.bits .i64) (w64 (q75 - 1)) &&& BitVec.ofInt (IntKind.bits .i64) q75).toNat : Int)), x166, x176, cs168, cs178, rfl, hq181, h169, hn170, h179, hn180, hE.pick _ ⟨rfl, rfl, rfl, rfl, rfl, rfl, rfl, trivial⟩, hS⟩ ?_
            clear hE hS a w hq181; rintro m184 a w ⟨n183, q187, q188, q194, cs192, cs198, rfl, hq181, h191, hn193, h197, hn199, hE, hS⟩
            refine W.gen fun K200 hK200 => ?_
            rcases n183 with _ | n183
            · rw [Faregroups.loop3] at hq181; exact absurd hq181 (by simp)
            rw [Faregroups.loop3] at hq181
            refine W.seq ?_
            refine W.seq ?_
            refine W.region ?_
            refine WL.vS hS hE (runs_plain rfl) (Gives.p hE rfl) rfl ?_; clear hE a; intro a hE
            refine WL.vS hS hE (runs_plain rfl) (Gives.p hE rfl) rfl ?_; clear hE a; intro a hE
            refine WL.nil ?_
            refine W.cond hE rfl (fun hc201 => ?_) (fun hc201 => ?_)
            · replace hq181 := iteT hc201 hq181
              refine W.skip ?_
              refine W.seq ?_
              refine W.block ?_
              refine W.seq ?_
              obtain ⟨q203, hq202, hq181⟩ := bindS hq181
              refine W.cut (fun a w => ∃ (q206 : Bool), q206 = q203 ∧ Rep a 140 [(0, .slice a0 x0.length c0), (3, .int .i64 (w64 ((IntKind.wrap .i64 (1 * (2 ^ (min (Int.toNat ((x0).length : Int)) (IntKind.bits .i64))))) - 1))), (4, .slice (some ⟨b53, 0, none⟩) x51.length x51.length), (5, .slice (some ⟨b59, 0, none⟩) x57.length x57.length), (6, .slice (some ⟨b65, 0, none⟩) x63.length x63.length), (7, .int .i64 q75), (10, .int .i64 q187), (93, .bool q206)] ∧ St w s (vecC 3 1 (some ⟨b65, 0, none⟩) x63.length x63.length cs198 :: vecC 3 1 (some ⟨b59, 0, none⟩) x57.length x57.length cs192 :: vecC 3 1 (some ⟨b53, 0, none⟩) x51.length x51.length cs111 :: R)) ?_ ?_
              · refine W.gen fun K207 hK207 => ?_
                refine W.regionQ (C := fun w => St w s (vecC 3 1 (some ⟨b65, 0, none⟩) x63.length x63.length cs198 :: vecC 3 1 (some ⟨b59, 0, none⟩) x57.length x57.length cs192 :: vecC 3 1 (some ⟨b53, 0, none⟩) x51.length x51.length cs111 :: R)) mixed (by kernel_rfl) hS.drew ?_
                refine QL.v hE (runs_plain rfl) (Gives.p hE rfl) rfl ?_; clear hE a; intro a hE
                refine QL.v hE (runs_plain rfl) (Gives.p hE rfl) rfl ?_; clear hE a; intro a hE
                obtain ⟨x208, hx209, hq202⟩ := bindS hq202
                obtain ⟨hi210, hlt211, hy212⟩ := gx_some hx209
                obtain ⟨vs213, hl214, hR215, hd216, hget217⟩ := h110.at hy212
                subst hR215
                refine QL.v hE (runs_plain rfl) (Gives.idx hE ((q187).toNat) rfl rfl sl41 hi210 (by have := hn112; omega) (hS.vecAok 2 rfl (by have := hn112; omega : (q187).toNat < x51.length))) rfl ?_; clear hE a; intro a hE
                refine QL.v hE (runs_plain rfl) (Gives.load1 hE rfl (fun w h => St.vecSees h 2 rfl ((q187).toNat * 1) _ hget217) ty3) rfl ?_; clear hE a; intro a hE
                refine QL.v hE (runs_plain rfl) (Gives.p hE rfl) rfl ?_; clear hE a; intro a hE
                refine QL.v hE (runs_plain rfl) (Gives.p hE rfl) rfl ?_; clear hE a; intro a hE
                rcases Bool.eq_false_or_eq_true (x208 == 0) with hg218 | hg218
                · replace hq202 := iteT hg218 hq202
                  refine QL.v hE (runs_if hE rfl rfl rfl hg218) (Gives.p hE rfl) rfl ?_; clear hE a; intro a hE
                  refine QL.v hE (runs_if hE rfl rfl rfl hg218) (Gives.p hE rfl) rfl ?_; clear hE a; intro a hE
                  refine QL.v hE (runs_if hE rfl rfl rfl hg218) (Gives.p hE rfl) rfl ?_; clear hE a; intro a hE
                  refine QL.v hE (runs_if hE rfl rfl rfl hg218) (Gives.p hE rfl) rfl ?_; clear hE a; intro a hE
                  obtain ⟨x219, hx220, hq202⟩ := bindS hq202
                  obtain ⟨hi221, hlt222, hy223⟩ := gx_some hx220
                  obtain ⟨vs224, hl225, hR226, hd227, hget228⟩ := h191.at hy223
                  subst hR226
                  refine QL.v hE (runs_if hE rfl rfl rfl hg218) (Gives.idx hE ((IntKind.wrap .i64 ((BitVec.ofInt (IntKind.bits .i64) q75 ^^^ BitVec.ofInt (IntKind.bits .i64) q187).toNat : Int)).toNat) rfl rfl sl41 hi221 (by have := hn193; omega) (hS.vecAok 1 rfl (by have := hn193; omega : (IntKind.wrap .i64 ((BitVec.ofInt (IntKind.bits .i64) q75 ^^^ BitVec.ofInt (IntKind.bits .i64) q187).toNat : Int)).toNat < x57.length))) rfl ?_; clear hE a; intro a hE
                  refine QL.v hE (runs_if hE rfl rfl rfl hg218) (Gives.load1 hE rfl (fun w h => St.vecSees h 1 rfl ((IntKind.wrap .i64 ((BitVec.ofInt (IntKind.bits .i64) q75 ^^^ BitVec.ofInt (IntKind.bits .i64) q187).toNat : Int)).toNat * 1) _ hget228) ty3) rfl ?_; clear hE a; intro a hE
                  refine QL.v hE (runs_if hE rfl rfl rfl hg218) (Gives.p hE rfl) rfl ?_; clear hE a; intro a hE
                  refine QL.v hE (runs_if hE rfl rfl rfl hg218) (Gives.p hE rfl) rfl ?_; clear hE a; intro a hE
                  refine QL.v hE (runs_if hE rfl rfl rfl hg218) (Gives.p hE rfl) rfl ?_; clear hE a; intro a hE
                  obtain ⟨x229, hx230, hq202⟩ := bindS hq202
                  obtain ⟨hi231, hlt232, hy233⟩ := gx_some hx230
                  obtain ⟨vs234, hl235, hR236, hd237, hget238⟩ := h191.at hy233
                  subst hR236
                  refine QL.v hE (runs_if hE rfl rfl rfl hg218) (Gives.idx hE ((q75).toNat) rfl rfl sl41 hi231 (by have := hn193; omega) (hS.vecAok 1 rfl (by have := hn193; omega : (q75).toNat < x57.length))) rfl ?_; clear hE a; intro a hE
                  refine QL.v hE (runs_if hE rfl rfl rfl hg218) (Gives.load1 hE rfl (fun w h => St.vecSees h 1 rfl ((q75).toNat * 1) _ hget238) ty3) rfl ?_; clear hE a; intro a hE
                  refine QL.v hE (runs_if hE rfl rfl rfl hg218) (Gives.p hE rfl) rfl ?_; clear hE a; intro a hE
                  refine QL.v hE (runs_plain rfl) (Gives.pickT hE rfl hg218 rfl) rfl ?_; clear hE a; intro a hE
                  refine QL.nil ?_; clear hS w; intro w hS
                  subst hK207
                  exact ⟨decide ((w64 (x219 + 1)) > x229), Option.some.inj hq202, hE.pick _ ⟨rfl, rfl, rfl, rfl, rfl, rfl, rfl, rfl, trivial⟩, hS⟩
                · replace hq202 := iteF hg218 hq202
                  refine QL.no hE (runs_not hE rfl rfl rfl (by rw [hg218]; decide)) rfl ?_; clear hE a; intro a hE
                  refine QL.no hE (runs_not hE rfl rfl rfl (by rw [hg218]; decide)) rfl ?_; clear hE a; intro a hE
                  refine QL.no hE (runs_not hE rfl rfl rfl (by rw [hg218]; decide)) rfl ?_; clear hE a; intro a hE
                  refine QL.no hE (runs_not hE rfl rfl rfl (by rw [hg218]; decide)) rfl ?_; clear hE a; intro a hE
                  refine QL.no hE (runs_not hE rfl rfl rfl (by rw [hg218]; decide)) rfl ?_; clear hE a; intro a hE
                  refine QL.no hE (runs_not hE rfl rfl rfl (by rw [hg218]; decide)) rfl ?_; clear hE a; intro a hE
                  refine QL.no hE (runs_not hE rfl rfl rfl (by rw [hg218]; decide)) rfl ?_; clear hE a; intro a hE
                  refine QL.no hE (runs_not hE rfl rfl rfl (by rw [hg218]; decide)) rfl ?_; clear hE a; intro a hE
                  refine QL.no hE (runs_not hE rfl rfl rfl (by rw [hg218]; decide)) rfl ?_; clear hE a; intro a hE
                  refine QL.no hE (runs_not hE rfl rfl rfl (by rw [hg218]; decide)) rfl ?_; clear hE a; intro a hE
                  refine QL.no hE (runs_not hE rfl rfl rfl (by rw [hg218]; decide)) rfl ?_; clear hE a; intro a hE
                  refine QL.no hE (runs_not hE rfl rfl rfl (by rw [hg218]; decide)) rfl ?_; clear hE a; intro a hE
                  refine QL.v hE (runs_plain rfl) (Gives.pickF hE rfl hg218 rfl) rfl ?_; clear hE a; intro a hE
                  refine QL.nil ?_; clear hS w; intro w hS
                  subst hK207
                  exact ⟨false, Option.some.inj hq202, hE.pick _ ⟨rfl, rfl, rfl, rfl, rfl, rfl, rfl, rfl, trivial⟩, hS⟩
              · clear hE hS a w; rintro a w ⟨q206, rfl, hE, hS⟩
                obtain ⟨q240, hq239, hq181⟩ := bindS hq181
                refine W.cut (fun a w => ∃ (q243 : List Int), ∃ (q249 : List Int), ∃ (cs247 : List Value), ∃ (cs253 : List Value), (q243, q249) = q240 ∧ Ev 1 (RI .i64) s cs247 q243 ∧ q243.length = x57.length ∧ Ev 1 (RI .i64) s cs253 q249 ∧ q249.length = x63.length ∧ Rep a 140 [(0, .slice a0 x0.length c0), (3, .int .i64 (w64 ((IntKind.wrap .i64 (1 * (2 ^ (min (Int.toNat ((x0).length : Int)) (IntKind.bits .i64))))) - 1))), (4, .slice (some ⟨b53, 0, none⟩) x51.length x51.length), (5, .slice (some ⟨b59, 0, none⟩) x57.length x57.length), (6, .slice (some ⟨b65, 0, none⟩) x63.length x63.length), (7, .int .i64 q75), (10, .int .i64 q187)] ∧ St w s (vecC 3 1 (some ⟨b65, 0, none⟩) x63.length x63.length cs253 :: vecC 3 1 (some ⟨b59, 0, none⟩) x57.length x57.length cs247 :: vecC 3 1 (some ⟨b53, 0, none⟩) x51.length x51.length cs111 :: R)) ?_ ?_
                · refine W.gen fun K255 hK255 => ?_
                  refine W.cond hE rfl (fun hc256 => ?_) (fun hc256 => ?_)
                  · replace hq239 := iteT hc256 hq239
                    refine W.region ?_
                    refine WL.vS hS hE (runs_plain rfl) (Gives.p hE rfl) rfl ?_; clear hE a; intro a hE
                    refine WL.vS hS hE (runs_plain rfl) (Gives.p hE rfl) rfl ?_; clear hE a; intro a hE
                    refine WL.vS hS hE (runs_plain rfl) (Gives.p hE rfl) rfl ?_; clear hE a; intro a hE
                    refine WL.vS hS hE (runs_plain rfl) (Gives.p hE rfl) rfl ?_; clear hE a; intro a hE
                    refine WL.vS hS hE (runs_plain rfl) (Gives.p hE rfl) rfl ?_; clear hE a; intro a hE
                    refine WL.vS hS hE (runs_plain rfl) (Gives.p hE rfl) rfl ?_; clear hE a; intro a hE
                    refine WL.vS hS hE (runs_plain rfl) (Gives.p hE rfl) rfl ?_; clear hE a; intro a hE
                    refine WL.vS hS hE (runs_plain rfl) (Gives.p hE rfl) rfl ?_; clear hE a; intro a hE
                    obtain ⟨x257, hx258, hq239⟩ := bindS hq239
                    obtain ⟨hi259, hlt260, hy261⟩ := gx_some hx258
                    obtain ⟨vs262, hl263, hR264, hd265, hget266⟩ := h191.at hy261
                    subst hR264
                    refine WL.vS hS hE (runs_plain rfl) (Gives.idx hE ((IntKind.wrap .i64 ((BitVec.ofInt (IntKind.bits .i64) q75 ^^^ BitVec.ofInt (IntKind.bits .i64) q187).toNat : Int)).toNat) rfl rfl sl41 hi259 (by have := hn193; omega) (hS.vecAok 1 rfl (by have := hn193; omega : (IntKind.wrap .i64 ((BitVec.ofInt (IntKind.bits .i64) q75 ^^^ BitVec.ofInt (IntKind.bits .i64) q187).toNat : Int)).toNat < x57.length))) rfl ?_; clear hE a; intro a hE
                    refine WL.vS hS hE (runs_plain rfl) (Gives.load1 hE rfl (fun w h => St.vecSees h 1 rfl ((IntKind.wrap .i64 ((BitVec.ofInt (IntKind.bits .i64) q75 ^^^ BitVec.ofInt (IntKind.bits .i64) q187).toNat : Int)).toNat * 1) _ hget266) ty3) rfl ?_; clear hE a; intro a hE
                    refine WL.vS hS hE (runs_plain rfl) (Gives.p hE rfl) rfl ?_; clear hE a; intro a hE
                    refine WL.vS hS hE (runs_plain rfl) (Gives.p hE rfl) rfl ?_; clear hE a; intro a hE
                    obtain ⟨_, hx268, hq239⟩ := bindS hq239
                    obtain ⟨h269, h270⟩ := ix_some hx268
                    refine WL.vS hS hE (runs_plain rfl) (Gives.idx hE ((q75).toNat) rfl rfl sl41 h269 (by have := hn193; omega) (hS.vecAok 1 rfl (by have := hn193; omega : (q75).toNat < x57.length))) rfl ?_; clear hE a; intro a hE
                    obtain ⟨x272, hx273, hq239⟩ := bindS hq239
                    refine WL.setD hE hS 1 rfl (runs_plain rfl) rfl rfl (vs := [.int .i64 (w64 (x257 + 1))]) rfl ty3 rfl rfl rfl h191 hn193 (sx_some hx273).1 hx273 rfl rfl ?_; clear hE hS a w; intro cs274 a w h275 hn276 hE hS
                    obtain ⟨_, hx278, hq239⟩ := bindS hq239
                    obtain ⟨h279, h280⟩ := ix_some hx278
                    refine WL.vS hS hE (runs_plain rfl) (Gives.idx hE ((q75).toNat) rfl rfl sl41 h279 (by have := hn199; omega) (hS.vecAok 0 rfl (by have := hn199; omega : (q75).toNat < x63.length))) rfl ?_; clear hE a; intro a hE
                    obtain ⟨x282, hx283, hq239⟩ := bindS hq239
                    refine WL.setD hE hS 0 rfl (runs_plain rfl) rfl rfl (vs := [.int .i64 q187]) rfl ty3 rfl rfl rfl h197 hn199 (sx_some hx283).1 hx283 rfl rfl ?_; clear hE hS a w; intro cs284 a w h285 hn286 hE hS
                    refine WL.nil ?_
                    subst hK255
                    exact ⟨x272, x282, cs274, cs284, Option.some.inj hq239, h275, hn276, h285, hn286, hE.pick _ ⟨rfl, rfl, rfl, rfl, rfl, rfl, rfl, trivial⟩, hS⟩
                  · replace hq239 := iteF hc256 hq239
                    refine W.skip ?_
                    subst hK255
                    exact ⟨q188, q194, cs192, cs198, Option.some.inj hq239, h191, hn193, h197, hn199, hE.pick _ ⟨rfl, rfl, rfl, rfl, rfl, rfl, rfl, trivial⟩, hS⟩
                · clear hE hS a w; rintro a w ⟨q243, q249, cs247, cs253, rfl, h246, hn248, h252, hn254, hE, hS⟩
                  dsimp only at hq181
                  refine W.region ?_
                  refine WL.vS hS hE (runs_plain rfl) (Gives.p hE rfl) rfl ?_; clear hE a; intro a hE
                  refine WL.vS hS hE (runs_plain rfl) (Gives.p hE rfl) rfl ?_; clear hE a; intro a hE
                  refine WL.vS hS hE (runs_plain rfl) (Gives.p hE rfl) rfl ?_; clear hE a; intro a hE
                  refine WL.vS hS hE (runs_plain rfl) (Gives.p hE rfl) rfl ?_; clear hE a; intro a hE
                  refine WL.vS hS hE (runs_plain rfl) (Gives.p hE rfl) rfl ?_; clear hE a; intro a hE
                  refine WL.nil ?_
                  subst hK200
                  exact ⟨n183, Nat.lt_succ_self _, n183, (IntKind.wrap .i64 ((BitVec.ofInt (IntKind.bits .i64) (w64 (q187 - 1)) &&& BitVec.ofInt (IntKind.bits .i64) q75).toNat : Int)), q243, q249, cs247, cs253, rfl, hq181, h246, hn248, h252, hn254, hE.pick _ ⟨rfl, rfl, rfl, rfl, rfl, rfl, rfl, trivial⟩, hS⟩
            · replace hq181 := iteF hc201 hq181
              subst hK200
              refine W.exit rfl ?_
              exact ⟨q187, q188, q194, cs192, cs198, Option.some.inj hq181, h191, hn193, h197, hn199, hE.pick _ ⟨rfl, rfl, rfl, rfl, rfl, rfl, trivial⟩, hS⟩
          · clear hE hS a w; rintro a w ⟨q187, q188, q194, cs192, cs198, rfl, h191, hn193, h197, hn199, hE, hS⟩
            dsimp only at hq69
            refine W.region ?_
            refine WL.vS hS hE (runs_plain rfl) (Gives.p hE rfl) rfl ?_; clear hE a; intro a hE
            refine WL.vS hS hE (runs_plain rfl) (Gives.p hE rfl) rfl ?_; clear hE a; intro a hE
            refine WL.vS hS hE (runs_plain rfl) (Gives.p hE rfl) rfl ?_; clear hE a; intro a hE
            refine WL.nil ?_
            subst hK94
            exact ⟨n71, Nat.lt_succ_self _, n71, (w64 (q75 + 1)), q107, q188, q194, cs111, cs192, cs198, rfl, hq69, h110, hn112, h191, hn193, h197, hn199, hE.pick _ ⟨rfl, rfl, rfl, rfl, rfl, rfl, trivial⟩, hS⟩
    · replace hq69 := iteF hc95 hq69
      subst hK94
      refine W.exit rfl ?_
      exact ⟨q75, q76, q82, q88, cs80, cs86, cs92, Option.some.inj hq69, h79, hn81, h85, hn87, h91, hn93, hE.pick _ ⟨rfl, rfl, rfl, trivial⟩, hS⟩
  · clear hE hS a w; rintro a w ⟨q75, q76, q82, q88, cs80, cs86, cs92, rfl, h79, hn81, h85, hn87, h91, hn93, hE, hS⟩
    dsimp only at hr
    refine W.seq ?_
    refine W.region ?_
    replace hS := hS.vecNil 41 1
    refine WL.vS hS hE (runs_plain rfl) (Gives.p hE rfl) rfl ?_; clear hE a; intro a hE
    refine WL.nil ?_
    refine W.seq ?_
    refine W.seq ?_
    refine W.region ?_
    refine WL.vS hS hE (runs_plain rfl) (Gives.p hE rfl) rfl ?_; clear hE a; intro a hE
    refine WL.vS hS hE (runs_plain rfl) (Gives.p hE rfl) rfl ?_; clear hE a; intro a hE
    refine WL.nil ?_
    replace hS := hS.dropAt 2
    replace hS := hS.dropAt 2
    obtain ⟨q289, hq288, hr⟩ := bindS hr
    refine W.cut (fun a w => ∃ (q294 : List (List Int)), ∃ (q301 : Int), ∃ (a295 : Option Addr), ∃ (c296 : Nat), ∃ (n298 : Nat), ∃ (cs299 : List Value), ∃ (s292 : Sg), s.Le s292 ∧ (q294, q301) = q289 ∧ Ev 1 (RL 1 (RI .i64)) s292 cs299 q294 ∧ q294.length = n298 ∧ Rep a 140 [(11, .slice a295 n298 c296)] ∧ St w s292 (vecC 41 1 a295 c296 n298 cs299 :: vecC 3 1 (some ⟨b65, 0, none⟩) x63.length x63.length cs92 :: R)) ?_ ?_
    · refine W.block ?_
      refine W.loop (fun m a w => ∃ (n290 : Nat), ∃ (q294 : List (List Int)), ∃ (q301 : Int), ∃ (a295 : Option Addr), ∃ (c296 : Nat), ∃ (n298 : Nat), ∃ (cs299 : List Value), ∃ (s292 : Sg), n290 = m ∧ s.Le s292 ∧ Faregroups.loop4 x0 q88 n290 q294 q301 = some q289 ∧ Ev 1 (RL 1 (RI .i64)) s292 cs299 q294 ∧ q294.length = n298 ∧ Rep a 140 [(0, .slice a0 x0.length c0), (6, .slice (some ⟨b65, 0, none⟩) x63.length x63.length), (11, .slice a295 n298 c296), (12, .int .i64 q301)] ∧ St w s292 (vecC 41 1 a295 c296 n298 cs299 :: vecC 3 1 (some ⟨b65, 0, none⟩) x63.length x63.length cs92 :: R)) (m := fu) ⟨fu, [], (w64 ((IntKind.wrap .i64 (1 * (2 ^ (min (Int.toNat ((x0).length : Int)) (IntKind.bits .i64))))) - 1)), none, 0, 0, [], s, rfl, (Sg.Le.refl _), hq288, (Ev.nil), (rfl), hE.pick _ ⟨rfl, rfl, rfl, rfl, trivial⟩, hS⟩ ?_
      clear hE hS a w hq288; rintro m291 a w ⟨n290, q294, q301, a295, c296, n298, cs299, s292, rfl, hle293, hq288, h297, rfl, hE, hS⟩
      refine W.gen fun K302 hK302 => ?_
      replace h0 := Sl.mono RI.mono hle293 h0
      replace h91 := Ev.mono RI.mono hle293 h91
      rcases n290 with _ | n290
      · rw [Faregroups.loop4] at hq288; exact absurd hq288 (by simp)
      rw [Faregroups.loop4] at hq288
      refine W.seq ?_
      refine W.seq ?_
      refine W.region ?_
      refine WL.vS hS hE (runs_plain rfl) (Gives.p hE rfl) rfl ?_; clear hE a; intro a hE
      refine WL.vS hS hE (runs_plain rfl) (Gives.p hE rfl) rfl ?_; clear hE a; intro a hE
      refine WL.nil ?_
      refine W.cond hE rfl (fun hc303 => ?_) (fun hc303 => ?_)
      · replace hq288 := iteT hc303 hq288
        refine W.skip ?_
        refine W.seq ?_
        refine W.block ?_
        refine W.seq ?_
        refine W.region ?_
        replace hS := hS.vecNil 3 1
        refine WL.vS hS hE (runs_plain rfl) (Gives.p hE rfl) rfl ?_; clear hE a; intro a hE
        refine WL.nil ?_
        refine W.seq ?_
        refine W.seq ?_
        refine W.region ?_
        refine WL.vS hS hE (runs_plain rfl) (Gives.p hE rfl) rfl ?_; clear hE a; intro a hE
        refine WL.vS hS hE (runs_plain rfl) (Gives.len hE rfl sl41) rfl ?_; clear hE a; intro a hE
        refine WL.vS hS hE (runs_plain rfl) (Gives.p hE rfl) rfl ?_; clear hE a; intro a hE
        refine WL.nil ?_
        obtain ⟨q306, hq305, hq288⟩ := bindS hq288
        refine W.cut (fun a w => ∃ (q316 : List Int), ∃ (a317 : Option Addr), ∃ (c318 : Nat), ∃ (n320 : Nat), ∃ (cs321 : List Value), q316 = q306 ∧ Ev 1 (RI .i64) s292 cs321 q316 ∧ q316.length = n320 ∧ Rep a 140 [(0, .slice a0 x0.length c0), (6, .slice (some ⟨b65, 0, none⟩) x63.length x63.length), (11, .slice a295 q294.length c296), (12, .int .i64 q301), (13, .slice a317 n320 c318)] ∧ St w s292 (vecC 3 1 a317 c318 n320 cs321 :: vecC 41 1 a295 c296 q294.length cs299 :: vecC 3 1 (some ⟨b65, 0, none⟩) x63.length x63.length cs92 :: R)) ?_ ?_
        · refine W.block ?_
          refine W.loop (fun m a w => ∃ (rest309 : List Int) (k307 : Nat), ∃ (q316 : List Int), ∃ (a317 : Option Addr), ∃ (c318 : Nat), ∃ (n320 : Nat), ∃ (cs321 : List Value), rest309.length = m ∧ x0.drop k307 = rest309 ∧ Faregroups.loop5 q88 q301 rest309 k307 q316 = some q306 ∧ Ev 1 (RI .i64) s292 cs321 q316 ∧ q316.length = n320 ∧ Rep a 140 [(0, .slice a0 x0.length c0), (6, .slice (some ⟨b65, 0, none⟩) x63.length x63.length), (11, .slice a295 q294.length c296), (12, .int .i64 q301), (13, .slice a317 n320 c318), (118, .int .i64 ((x0).length : Int)), (119, .int .i64 ((k307 : Nat) : Int))] ∧ St w s292 (vecC 3 1 a317 c318 n320 cs321 :: vecC 41 1 a295 c296 q294.length cs299 :: vecC 3 1 (some ⟨b65, 0, none⟩) x63.length x63.length cs92 :: R)) (m := x0.length) ⟨x0, 0, [], none, 0, 0, [], rfl, rfl, hq305, (Ev.nil), (rfl), hE.pick _ ⟨rfl, rfl, rfl, rfl, rfl, rfl, rfl, trivial⟩, hS⟩ ?_
          clear hE hS a w hq305; rintro m313 a w ⟨rest309, k307, q316, a317, c318, n320, cs321, rfl, hd310, hq305, h319, rfl, hE, hS⟩
          refine W.gen fun K323 hK323 => ?_
          rcases rest309 with _ | ⟨x308, rest309⟩
          · have hlt311 := drop_nil hd310
            refine W.seq ?_
            refine W.region ?_
            refine WL.vS hS hE (runs_plain rfl) (Gives.p hE rfl) rfl ?_; clear hE a; intro a hE
            refine WL.nil ?_
            refine W.seq ?_
            refine W.condF hE rfl (decide_eq_false (by omega)) ?_
            subst hK323
            refine W.exit rfl ?_
            exact ⟨q316, a317, c318, q316.length, cs321, Option.some.inj hq305, h319, rfl, hE.pick _ ⟨rfl, rfl, rfl, rfl, rfl, trivial⟩, hS⟩
          · obtain ⟨hlt311, hx312, hd310⟩ := drop_cons hd310
            rw [Faregroups.loop5] at hq305
            refine W.seq ?_
            refine W.region ?_
            refine WL.vS hS hE (runs_plain rfl) (Gives.p hE rfl) rfl ?_; clear hE a; intro a hE
            refine WL.nil ?_
            refine W.seq ?_
            refine W.condT hE rfl (decide_eq_true (by omega)) ?_
            refine W.skip ?_
            refine W.seq ?_
            refine W.block ?_
            refine W.seq ?_
            refine W.region ?_
            refine WL.vS hS hE (runs_plain rfl) (Gives.p hE rfl) rfl ?_; clear hE a; intro a hE
            refine WL.vS hS hE (runs_plain rfl) (Gives.p hE rfl) rfl ?_; clear hE a; intro a hE
            refine WL.nil ?_
            refine W.seq ?_
            refine W.region ?_
            refine WL.vS hS hE (runs_plain rfl) (Gives.p hE rfl) rfl ?_; clear hE a; intro a hE
            refine WL.vS hS hE (runs_plain rfl) (Gives.p hE rfl) rfl ?_; clear hE a; intro a hE
            obtain ⟨x324, hx325, hq305⟩ := bindS hq305
            obtain ⟨hi326, hlt327, hy328⟩ := gx_some hx325
            obtain ⟨vs329, hl330, hR331, hd332, hget333⟩ := h91.at hy328
            subst hR331
            refine WL.vS hS hE (runs_plain rfl) (Gives.idx hE ((q301).toNat) rfl rfl sl41 hi326 (by have := hn93; omega) (hS.vecAok 2 rfl (by have := hn93; omega : (q301).toNat < x63.length))) rfl ?_; clear hE a; intro a hE
            refine WL.vS hS hE (runs_plain rfl) (Gives.load1 hE rfl (fun w h => St.vecSees h 2 rfl ((q301).toNat * 1) _ hget333) ty3) rfl ?_; clear hE a; intro a hE
            refine WL.vS hS hE (runs_plain rfl) (Gives.p hE rfl) rfl ?_; clear hE a; intro a hE
            refine WL.vS hS hE (runs_plain rfl) (Gives.shr hE rfl rfl (by omega)) rfl ?_; clear hE a; intro a hE
            refine WL.vS hS hE (runs_plain rfl) (Gives.p hE rfl) rfl ?_; clear hE a; intro a hE
            refine WL.vS hS hE (runs_plain rfl) (Gives.p hE rfl) rfl ?_; clear hE a; intro a hE
            refine WL.nil ?_
            obtain ⟨q335, hq334, hq305⟩ := bindS hq305
            refine W.cut (fun a w => ∃ (q338 : List Int), ∃ (a339 : Option Addr), ∃ (c340 : Nat), ∃ (n342 : Nat), ∃ (cs343 : List Value), q338 = q335 ∧ Ev 1 (RI .i64) s292 cs343 q338 ∧ q338.length = n342 ∧ Rep a 140 [(0, .slice a0 x0.length c0), (6, .slice (some ⟨b65, 0, none⟩) x63.length x63.length), (11, .slice a295 q294.length c296), (12, .int .i64 q301), (13, .slice a339 n342 c340), (118, .int .i64 ((x0).length : Int)), (119, .int .i64 ((k307 : Nat) : Int))] ∧ St w s292 (vecC 3 1 a339 c340 n342 cs343 :: vecC 41 1 a295 c296 q294.length cs299 :: vecC 3 1 (some ⟨b65, 0, none⟩) x63.length x63.length cs92 :: R)) ?_ ?_
            · refine W.gen fun K345 hK345 => ?_
              refine W.cond hE rfl (fun hc346 => ?_) (fun hc346 => ?_)
              · replace hq334 := iteT hc346 hq334
                refine W.region ?_
                refine WL.vS hS hE (runs_plain rfl) (Gives.p hE rfl) rfl ?_; clear hE a; intro a hE
                refine WL.vS hS hE (runs_plain rfl) (Gives.p hE rfl) rfl ?_; clear hE a; intro a hE
                refine WL.lit hE hS (e := 3) (es := 1) (vs := [(0, .int .i64 ((k307 : Nat) : Int))]) (cs := [.int .i64 ((k307 : Nat) : Int)]) (runs_plain rfl) rfl (by kernel_rfl) rfl ?_; clear hE hS a w; intro b347 a w hE hS
                obtain ⟨x348, hx349, hq334⟩ := bindS hq334
                refine WL.appD hE hS 0 (m := 1) (runs_plain rfl) rfl rfl rfl ap41 rfl h319 rfl (xs := [((k307 : Nat) : Int)]) (Ev.cons (c1 := [.int .i64 ((k307 : Nat) : Int)]) rfl rfl (Ev.nil)) rfl rfl hx349 rfl ?_; clear hE hS a w; intro a350 c351 cs352 a w h353 hE hS
                refine WL.vS hS hE (runs_plain rfl) (Gives.p hE rfl) rfl ?_; clear hE a; intro a hE
                refine WL.nil ?_
                subst hK345
                exact ⟨x348, a350, c351, x348.length, cs352, Option.some.inj hq334, h353, (rfl), hE.pick _ ⟨rfl, rfl, rfl, rfl, rfl, rfl, rfl, trivial⟩, hS⟩
              · replace hq334 := iteF hc346 hq334
                refine W.skip ?_
                subst hK345
                exact ⟨q316, a317, c318, q316.length, cs321, Option.some.inj hq334, h319, rfl, hE.pick _ ⟨rfl, rfl, rfl, rfl, rfl, rfl, rfl, trivial⟩, hS⟩
            · clear hE hS a w; rintro a w ⟨q338, a339, c340, n342, cs343, rfl, h341, rfl, hE, hS⟩
              refine W.region ?_
              refine WL.vS hS hE (runs_plain rfl) (Gives.inc hE rfl (by have := h0.small; omega)) rfl ?_; clear hE a; intro a hE
              refine WL.vS hS hE (runs_plain rfl) (Gives.p hE rfl) rfl ?_; clear hE a; intro a hE
              refine WL.nil ?_
              subst hK323
              exact ⟨rest309.length, Nat.lt_succ_self _, rest309, k307 + 1, q338, a339, c340, q338.length, cs343, rfl, hd310, hq305, h341, rfl, hE.pick _ ⟨rfl, rfl, rfl, rfl, rfl, rfl, rfl, trivial⟩, hS⟩
        · clear hE hS a w; rintro a w ⟨q316, a317, c318, n320, cs321, rfl, h319, rfl, hE, hS⟩
          refine W.region ?_
          refine WL.vS hS hE (runs_plain rfl) (Gives.p hE rfl) rfl ?_; clear hE a; intro a hE
          refine WL.vS hS hE (runs_plain rfl) (Gives.p hE rfl) rfl ?_; clear hE a; intro a hE
          have hF := hS.fixD RI.mono 0 rfl h319 rfl; clear hS; obtain ⟨s354, hle355, hS, h356⟩ := hF
          replace h0 := Sl.mono RI.mono hle355 h0
          replace h297 := Ev.mono (RL.mono RI.mono) hle355 h297
          replace h91 := Ev.mono RI.mono hle355 h91
          refine WL.lit hE hS (e := 41) (es := 1) (vs := [(0, .slice a317 q316.length c318)]) (cs := [.slice a317 q316.length c318]) (runs_plain rfl) rfl (by kernel_rfl) rfl ?_; clear hE hS a w; intro b357 a w hE hS
          obtain ⟨x358, hx359, hq288⟩ := bindS hq288
          refine WL.appD hE hS 0 (m := 1) (runs_plain rfl) rfl rfl rfl ap57 rfl h297 rfl (xs := [q316]) (Ev.cons (c1 := [.slice a317 q316.length c318]) ⟨_, _, rfl, h356⟩ rfl (Ev.nil)) rfl rfl hx359 rfl ?_; clear hE hS a w; intro a360 c361 cs362 a w h363 hE hS
          refine WL.vS hS hE (runs_plain rfl) (Gives.p hE rfl) rfl ?_; clear hE a; intro a hE
          refine WL.nil ?_
          refine W.region ?_
          refine WL.vS hS hE (runs_plain rfl) (Gives.p hE rfl) rfl ?_; clear hE a; intro a hE
          refine WL.vS hS hE (runs_plain rfl) (Gives.p hE rfl) rfl ?_; clear hE a; intro a hE
          refine WL.vS hS hE (runs_plain rfl) (Gives.p hE rfl) rfl ?_; clear hE a; intro a hE
          obtain ⟨x364, hx365, hq288⟩ := bindS hq288
          obtain ⟨hi366, hlt367, hy368⟩ := gx_some hx365
          obtain ⟨vs369, hl370, hR371, hd372, hget373⟩ := h91.at hy368
          subst hR371
          refine WL.vS hS hE (runs_plain rfl) (Gives.idx hE ((q301).toNat) rfl rfl sl41 hi366 (by have := hn93; omega) (hS.vecAok 1 rfl (by have := hn93; omega : (q301).toNat < x63.length))) rfl ?_; clear hE a; intro a hE
          refine WL.vS hS hE (runs_plain rfl) (Gives.load1 hE rfl (fun w h => St.vecSees h 1 rfl ((q301).toNat * 1) _ hget373) ty3) rfl ?_; clear hE a; intro a hE
          refine WL.vS hS hE (runs_plain rfl) (Gives.p hE rfl) rfl ?_; clear hE a; intro a hE
          refine WL.vS hS hE (runs_plain rfl) (Gives.p hE rfl) rfl ?_; clear hE a; intro a hE
          refine WL.nil ?_
          subst hK302
          exact ⟨n290, Nat.lt_succ_self _, n290, x358, (IntKind.wrap .i64 ((BitVec.ofInt (IntKind.bits .i64) q301 ^^^ BitVec.ofInt (IntKind.bits .i64) x364).toNat : Int)), a360, c361, x358.length, cs362, s354, rfl, (Sg.Le.trans hle293 hle355), hq288, h363, (rfl), hE.pick _ ⟨rfl, rfl, rfl, rfl, trivial⟩, hS⟩
      · replace hq288 := iteF hc303 hq288
        subst hK302
        refine W.exit rfl ?_
        exact ⟨q294, q301, a295, c296, q294.length, cs299, s292, hle293, Option.some.inj hq288, h297, rfl, hE.pick _ ⟨rfl, trivial⟩, hS⟩
    · clear hE hS a w; rintro a w ⟨q294, q301, a295, c296, n298, cs299, s292, hle293, rfl, h297, rfl, hE, hS⟩
      dsimp only at hr
      replace h0 := Sl.mono RI.mono hle293 h0
      replace h91 := Ev.mono RI.mono hle293 h91
      refine W.seq ?_
      refine W.region ?_
      refine WL.vS hS hE (runs_plain rfl) (Gives.p hE rfl) rfl ?_; clear hE a; intro a hE
      refine WL.vS hS hE (runs_plain rfl) (Gives.p hE rfl) rfl ?_; clear hE a; intro a hE
      refine WL.nil ?_
      refine W.ret ?_
      refine finG (fn := Try.f78) (rs := [.tmp 2]) (vs := [_]) hE rfl ⟨rfl, trivial⟩ ?_
      obtain rfl := Option.some.inj hr
      replace hS := hS.dropAt 1
      exact ⟨a295, c296, q294.length, cs299, s292, rfl, hle293, h297, rfl, hS⟩
set_option maxHeartbeats 8000000 in
theorem Faregroups_v1_ok {fu : Nat}  {w : World} {s : Sg} {R : List HP} {x0 : List Int} {a_v0 : Option Addr} {c_v0 n_v0 : Nat} {cs_v0 : List Value} (hS : St w s (vecC 3 1 a_v0 c_v0 n_v0 cs_v0 :: R)) (h_v0 : Ev 1 (RI .i64) s cs_v0 x0) (hn_v0 : x0.length = n_v0) {r : (List (List Int))} (hr : Faregroups_v1 fu x0 = some r) :
    Calls Try.prog 78 [.slice a_v0 n_v0 c_v0].toArray w (fun e w => ∃ (a0 : Option Addr) (c0 n0 : Nat) (cs0 : List Value) (t : Sg), e = .returned (.slice a0 n0 c0) ∧ s.Le t ∧ Ev 1 (RL 1 (RI .i64)) t cs0 r ∧ r.length = n0 ∧ St w t (vecC 41 1 a0 c0 n0 cs0 :: vecC 3 1 a_v0 c_v0 n_v0 cs_v0 :: R)) := by
  refine enter Try.func78 rfl rfl rfl fun a hE => ?_
  rw [Faregroups_v1] at hr
  subst hn_v0
  refine W.seq ?_
  refine W.region ?_
  refine WL.vS hS hE (runs_plain rfl) (Gives.p hE rfl) rfl ?_; clear hE a; intro a hE
  refine WL.nil ?_
  refine W.seq ?_
  refine W.region ?_
  refine WL.vS hS hE (runs_plain rfl) (Gives.p hE rfl) rfl ?_; clear hE a; intro a hE
  refine WL.vS hS hE (runs_plain rfl) (Gives.len hE rfl sl41) rfl ?_; clear hE a; intro a hE
  refine WL.vS hS hE (runs_plain rfl) (Gives.shl hE rfl rfl (by omega)) rfl ?_; clear hE a; intro a hE
  refine WL.vS hS hE (runs_plain rfl) (Gives.p hE rfl) rfl ?_; clear hE a; intro a hE
  refine WL.vS hS hE (runs_plain rfl) (Gives.p hE rfl) rfl ?_; clear hE a; intro a hE
  refine WL.nil ?_
  refine W.seq ?_
  refine W.region ?_
  refine WL.vS hS hE (runs_plain rfl) (Gives.p hE rfl) rfl ?_; clear hE a; intro a hE
  refine WL.vS hS hE (runs_plain rfl) (Gives.p hE rfl) rfl ?_; clear hE a; intro a hE
  obtain ⟨x51, hx52, hr⟩ := bindS hr
  refine WL.mkD (Rr := RI .i64) hE hS (runs_plain rfl) rfl rfl ap41 zr3 rfl hx52 rfl ?_; clear hE hS a w; intro b53 cs54 a w h55 hE hS
  refine WL.vS hS hE (runs_plain rfl) (Gives.p hE rfl) rfl ?_; clear hE a; intro a hE
  refine WL.nil ?_
  refine W.seq ?_
  refine W.region ?_
  refine WL.vS hS hE (runs_plain rfl) (Gives.p hE rfl) rfl ?_; clear hE a; intro a hE
  refine WL.vS hS hE (runs_plain rfl) (Gives.p hE rfl) rfl ?_; clear hE a; intro a hE
  obtain ⟨x57, hx58, hr⟩ := bindS hr
  refine WL.mkD (Rr := RI .i64) hE hS (runs_plain rfl) rfl rfl ap41 zr3 rfl hx58 rfl ?_; clear hE hS a w; intro b59 cs60 a w h61 hE hS
  refine WL.vS hS hE (runs_plain rfl) (Gives.p hE rfl) rfl ?_; clear hE a; intro a hE
  refine WL.nil ?_
  refine W.seq ?_
  refine W.region ?_
  refine WL.vS hS hE (runs_plain rfl) (Gives.p hE rfl) rfl ?_; clear hE a; intro a hE
  refine WL.vS hS hE (runs_plain rfl) (Gives.p hE rfl) rfl ?_; clear hE a; intro a hE
  obtain ⟨x63, hx64, hr⟩ := bindS hr
  refine WL.mkD (Rr := RI .i64) hE hS (runs_plain rfl) rfl rfl ap41 zr3 rfl hx64 rfl ?_; clear hE hS a w; intro b65 cs66 a w h67 hE hS
  refine WL.vS hS hE (runs_plain rfl) (Gives.p hE rfl) rfl ?_; clear hE a; intro a hE
  refine WL.nil ?_
  refine W.seq ?_
  refine W.seq ?_
  refine W.region ?_
  refine WL.vS hS hE (runs_plain rfl) (Gives.p hE rfl) rfl ?_; clear hE a; intro a hE
  refine WL.nil ?_
  obtain ⟨q70, hq69, hr⟩ := bindS hr
  refine W.cut (fun a w => ∃ (q75 : Int), ∃ (q76 : List Int), ∃ (q82 : List Int), ∃ (q88 : List Int), ∃ (cs80 : List Value), ∃ (cs86 : List Value), ∃ (cs92 : List Value), (q75, q76, q82, q88) = q70 ∧ Ev 1 (RI .i64) s cs80 q76 ∧ q76.length = x51.length ∧ Ev 1 (RI .i64) s cs86 q82 ∧ q82.length = x57.length ∧ Ev 1 (RI .i64) s cs92 q88 ∧ q88.length = x63.length ∧ Rep a 140 [(0, .slice a_v0 x0.length c_v0), (3, .int .i64 (w64 ((IntKind.wrap .i64 (1 * (2 ^ (min (Int.toNat ((x0.length : Nat) : Int)) (IntKind.bits .i64))))) - 1))), (6, .slice (some ⟨b65, 0, none⟩) x63.length x63.length)] ∧ St w s (vecC 3 1 (some ⟨b65, 0, none⟩) x63.length x63.length cs92 :: vecC 3 1 (some ⟨b59, 0, none⟩) x57.length x57.length cs86 :: vecC 3 1 (some ⟨b53, 0, none⟩) x51.length x51.length cs80 :: vecC 3 1 a_v0 c_v0 x0.length cs_v0 :: R)) ?_ ?_
  · refine W.block ?_
    refine W.loop (fun m a w => ∃ (n71 : Nat), ∃ (q75 : Int), ∃ (q76 : List Int), ∃ (q82 : List Int), ∃ (q88 : List Int), ∃ (cs80 : List Value), ∃ (cs86 : List Value), ∃ (cs92 : List Value), n71 = m ∧ Faregroups_v1.loop1 x0 fu n71 q75 q76 q82 q88 = some q70 ∧ Ev 1 (RI .i64) s cs80 q76 ∧ q76.length = x51.length ∧ Ev 1 (RI .i64) s cs86 q82 ∧ q82.length = x57.length ∧ Ev 1 (RI .i64) s cs92 q88 ∧ q88.length = x63.length ∧ Rep a 140 [(0, .slice a_v0 x0.length c_v0), (3, .int .i64 (w64 ((IntKind.wrap .i64 (1 * (2 ^ (min (Int.toNat ((x0.length : Nat) : Int)) (IntKind.bits .i64))))) - 1))), (4, .slice (some ⟨b53, 0, none⟩) x51.length x51.length), (5, .slice (some ⟨b59, 0, none⟩) x57.length x57.length), (6, .slice (some ⟨b65, 0, none⟩) x63.length x63.length), (7, .int .i64 q75)] ∧ St w s (vecC 3 1 (some ⟨b65, 0, none⟩) x63.length x63.length cs92 :: vecC 3 1 (some ⟨b59, 0, none⟩) x57.length x57.length cs86 :: vecC 3 1 (some ⟨b53, 0, none⟩) x51.length x51.length cs80 :: vecC 3 1 a_v0 c_v0 x0.length cs_v0 :: R)) (m := fu) ⟨fu, 1, x51, x57, x63, cs54, cs60, cs66, rfl, hq69, h55, (rfl), h61, (rfl), h67, (rfl), hE.pick _ ⟨rfl, rfl, rfl, rfl, rfl, rfl, trivial⟩, hS⟩ ?_
    clear hE hS a w hq69; rintro m72 a w ⟨n71, q75, q76, q82, q88, cs80, cs86, cs92, rfl, hq69, h79, hn81, h85, hn87, h91, hn93, hE, hS⟩
    refine W.gen fun K94 hK94 => ?_
    rcases n71 with _ | n71
    · rw [Faregroups_v1.loop1] at hq69; exact absurd hq69 (by simp)
    rw [Faregroups_v1.loop1] at hq69
    refine W.seq ?_
    refine W.seq ?_
    refine W.region ?_
    refine WL.vS hS hE (runs_plain rfl) (Gives.p hE rfl) rfl ?_; clear hE a; intro a hE
    refine WL.vS hS hE (runs_plain rfl) (Gives.p hE rfl) rfl ?_; clear hE a; intro a hE
    refine WL.vS hS hE (runs_plain rfl) (Gives.p hE rfl) rfl ?_; clear hE a; intro a hE
    refine WL.nil ?_
    refine W.cond hE rfl (fun hc95 => ?_) (fun hc95 => ?_)
    · replace hq69 := iteT hc95 hq69
      refine W.skip ?_
      refine W.seq ?_
      refine W.block ?_
      refine W.seq ?_
      refine W.seq ?_
      refine W.region ?_
      refine WL.vS hS hE (runs_plain rfl) (Gives.p hE rfl) rfl ?_; clear hE a; intro a hE
      refine WL.vS hS hE (runs_plain rfl) (Gives.len hE rfl sl41) rfl ?_; clear hE a; intro a hE
      refine WL.vS hS hE (runs_plain rfl) (Gives.p hE rfl) rfl ?_; clear hE a; intro a hE
      refine WL.nil ?_
      have hb107 : x0.length ≤ 9223372036854775807 := by have := hS.vecCap 3 rfl; unfold maxLen at this; omega
      obtain ⟨q97, hq96, hq69⟩ := bindS hq69
      refine W.cut (fun a w => ∃ (q108 : List Int), ∃ (cs112 : List Value), q108 = q97 ∧ Ev 1 (RI .i64) s cs112 q108 ∧ q108.length = x51.length ∧ Rep a 140 [(0, .slice a_v0 x0.length c_v0), (3, .int .i64 (w64 ((IntKind.wrap .i64 (1 * (2 ^ (min (Int.toNat ((x0.length : Nat) : Int)) (IntKind.bits .i64))))) - 1))), (4, .slice (some ⟨b53, 0, none⟩) x51.length x51.length), (5, .slice (some ⟨b59, 0, none⟩) x57.length x57.length), (6, .slice (some ⟨b65, 0, none⟩) x63.length x63.length), (7, .int .i64 q75)] ∧ St w s (vecC 3 1 (some ⟨b65, 0, none⟩) x63.length x63.length cs92 :: vecC 3 1 (some ⟨b59, 0, none⟩) x57.length x57.length cs86 :: vecC 3 1 (some ⟨b53, 0, none⟩) x51.length x51.length cs112 :: vecC 3 1 a_v0 c_v0 x0.length cs_v0 :: R)) ?_ ?_
      · refine W.block ?_
        refine W.loop (fun m a w => ∃ (rest100 : Nat) (k98 : Nat), ∃ (q108 : List Int), ∃ (cs112 : List Value), rest100 = m ∧ k98 + rest100 = x0.length ∧ Faregroups_v1.loop2 x0 q75 rest100 k98 q108 = some q97 ∧ Ev 1 (RI .i64) s cs112 q108 ∧ q108.length = x51.length ∧ Rep a 140 [(0, .slice a_v0 x0.length c_v0), (3, .int .i64 (w64 ((IntKind.wrap .i64 (1 * (2 ^ (min (Int.toNat ((x0.length : Nat) : Int)) (IntKind.bits .i64))))) - 1))), (4, .slice (some ⟨b53, 0, none⟩) x51.length x51.length), (5, .slice (some ⟨b59, 0, none⟩) x57.length x57.length), (6, .slice (some ⟨b65, 0, none⟩) x63.length x63.length), (7, .int .i64 q75), (33, .slice a_v0 x0.length c_v0), (34, .int .i64 ((x0.length : Nat) : Int)), (35, .int .i64 ((k98 : Nat) : Int))] ∧ St w s (vecC 3 1 (some ⟨b65, 0, none⟩) x63.length x63.length cs92 :: vecC 3 1 (some ⟨b59, 0, none⟩) x57.length x57.length cs86 :: vecC 3 1 (some ⟨b53, 0, none⟩) x51.length x51.length cs112 :: vecC 3 1 a_v0 c_v0 x0.length cs_v0 :: R)) (m := x0.length) ⟨x0.length, 0, q76, cs80, rfl, by omega, hq96, h79, hn81, hE.pick _ ⟨rfl, rfl, rfl, rfl, rfl, rfl, rfl, rfl, rfl, trivial⟩, hS⟩ ?_
        clear hE hS a w hq96; rintro m104 a w ⟨rest100, k98, q108, cs112, rfl, hd101, hq96, h111, hn113, hE, hS⟩
        refine W.gen fun K114 hK114 => ?_
        rcases rest100 with _ | rest100
        · skip
          refine W.seq ?_
          refine W.region ?_
          refine WL.vS hS hE (runs_plain rfl) (Gives.p hE rfl) rfl ?_; clear hE a; intro a hE
          refine WL.nil ?_
          refine W.seq ?_
          refine W.condF hE rfl (decide_eq_false (by omega)) ?_
          subst hK114
          refine W.exit rfl ?_
          exact ⟨q108, cs112, Option.some.inj hq96, h111, hn113, hE.pick _ ⟨rfl, rfl, rfl, rfl, rfl, rfl, trivial⟩, hS⟩
        · have hlt102 : k98 < x0.length := by omega
          rw [Faregroups_v1.loop2] at hq96
          refine W.seq ?_
          refine W.region ?_
          refine WL.vS hS hE (runs_plain rfl) (Gives.p hE rfl) rfl ?_; clear hE a; intro a hE
          refine WL.nil ?_
          refine W.seq ?_
          refine W.condT hE rfl (decide_eq_true (by omega)) ?_
          refine W.skip ?_
          refine W.seq ?_
          refine W.block ?_
          refine W.seq ?_
          refine W.region ?_
          refine WL.vS hS hE (runs_plain rfl) (Gives.p hE rfl) rfl ?_; clear hE a; intro a hE
          obtain ⟨x115, hx116, hq96⟩ := bindS hq96
          obtain ⟨hi117, hlt118, hy119⟩ := gx_some hx116
          obtain ⟨vs120, hl121, hR122, hd123, hget124⟩ := h_v0.at hy119
          subst hR122
          refine WL.vS hS hE (runs_plain rfl) (Gives.idx hE ((((k98 : Nat) : Int)).toNat) rfl rfl sl41 hi117 (by omega) (hS.vecAok 3 rfl (by omega : (((k98 : Nat) : Int)).toNat < x0.length))) rfl ?_; clear hE a; intro a hE
          refine WL.vS hS hE (runs_plain rfl) (Gives.load1 hE rfl (fun w h => St.vecSees h 3 rfl ((((k98 : Nat) : Int)).toNat * 1) _ hget124) ty3) rfl ?_; clear hE a; intro a hE
          refine WL.vS hS hE (runs_plain rfl) (Gives.p hE rfl) rfl ?_; clear hE a; intro a hE
          refine WL.vS hS hE (runs_plain rfl) (Gives.p hE rfl) rfl ?_; clear hE a; intro a hE
          refine WL.nil ?_
          refine W.seq ?_
          refine W.region ?_
          refine WL.vS hS hE (runs_plain rfl) (Gives.p hE rfl) rfl ?_; clear hE a; intro a hE
          refine WL.vS hS hE (runs_plain rfl) (Gives.p hE rfl) rfl ?_; clear hE a; intro a hE
          refine WL.vS hS hE (runs_plain rfl) (Gives.shr hE rfl rfl (by omega)) rfl ?_; clear hE a; intro a hE
          refine WL.vS hS hE (runs_plain rfl) (Gives.p hE rfl) rfl ?_; clear hE a; intro a hE
          refine WL.vS hS hE (runs_plain rfl) (Gives.p hE rfl) rfl ?_; clear hE a; intro a hE
          refine WL.nil ?_
          obtain ⟨q126, hq125, hq96⟩ := bindS hq96
          refine W.cut (fun a w => ∃ (q129 : List Int), ∃ (cs133 : List Value), q129 = q126 ∧ Ev 1 (RI .i64) s cs133 q129 ∧ q129.length = x51.length ∧ Rep a 140 [(0, .slice a_v0 x0.length c_v0), (3, .int .i64 (w64 ((IntKind.wrap .i64 (1 * (2 ^ (min (Int.toNat ((x0.length : Nat) : Int)) (IntKind.bits .i64))))) - 1))), (4, .slice (some ⟨b53, 0, none⟩) x51.length x51.length), (5, .slice (some ⟨b59, 0, none⟩) x57.length x57.length), (6, .slice (some ⟨b65, 0, none⟩) x63.length x63.length), (7, .int .i64 q75), (33, .slice a_v0 x0.length c_v0), (34, .int .i64 ((x0.length : Nat) : Int)), (35, .int .i64 ((k98 : Nat) : Int))] ∧ St w s (vecC 3 1 (some ⟨b65, 0, none⟩) x63.length x63.length cs92 :: vecC 3 1 (some ⟨b59, 0, none⟩) x57.length x57.length cs86 :: vecC 3 1 (some ⟨b53, 0, none⟩) x51.length x51.length cs133 :: vecC 3 1 a_v0 c_v0 x0.length cs_v0 :: R)) ?_ ?_
          · refine W.gen fun K135 hK135 => ?_
            refine W.cond hE rfl (fun hc136 => ?_) (fun hc136 => ?_)
            · replace hq125 := iteT hc136 hq125
              refine W.region ?_
              refine WL.vS hS hE (runs_plain rfl) (Gives.p hE rfl) rfl ?_; clear hE a; intro a hE
              refine WL.vS hS hE (runs_plain rfl) (Gives.p hE rfl) rfl ?_; clear hE a; intro a hE
              obtain ⟨x137, hx138, hq125⟩ := bindS hq125
              obtain ⟨hi139, hlt140, hy141⟩ := gx_some hx138
              obtain ⟨vs142, hl143, hR144, hd145, hget146⟩ := h111.at hy141
              subst hR144
              refine WL.vS hS hE (runs_plain rfl) (Gives.idx hE ((q75).toNat) rfl rfl sl41 hi139 (by have := hn113; omega) (hS.vecAok 2 rfl (by have := hn113; omega : (q75).toNat < x51.length))) rfl ?_; clear hE a; intro a hE
              refine WL.vS hS hE (runs_plain rfl) (Gives.load1 hE rfl (fun w h => St.vecSees h 2 rfl ((q75).toNat * 1) _ hget146) ty3) rfl ?_; clear hE a; intro a hE
              refine WL.vS hS hE (runs_plain rfl) (Gives.p hE rfl) rfl ?_; clear hE a; intro a hE
              refine WL.vS hS hE (runs_plain rfl) (Gives.p hE rfl) rfl ?_; clear hE a; intro a hE
              obtain ⟨_, hx148, hq125⟩ := bindS hq125
              obtain ⟨h149, h150⟩ := ix_some hx148
              refine WL.vS hS hE (runs_plain rfl) (Gives.idx hE ((q75).toNat) rfl rfl sl41 h149 (by have := hn113; omega) (hS.vecAok 2 rfl (by have := hn113; omega : (q75).toNat < x51.length))) rfl ?_; clear hE a; intro a hE
              obtain ⟨x152, hx153, hq125⟩ := bindS hq125
              refine WL.setD hE hS 2 rfl (runs_plain rfl) rfl rfl (vs := [.int .i64 (w64 (x137 + x115))]) rfl ty3 rfl rfl rfl h111 hn113 (sx_some hx153).1 hx153 rfl rfl ?_; clear hE hS a w; intro cs154 a w h155 hn156 hE hS
              refine WL.nil ?_
              subst hK135
              exact ⟨x152, cs154, Option.some.inj hq125, h155, hn156, hE.pick _ ⟨rfl, rfl, rfl, rfl, rfl, rfl, rfl, rfl, rfl, trivial⟩, hS⟩
            · replace hq125 := iteF hc136 hq125
              refine W.skip ?_
              subst hK135
              exact ⟨q108, cs112, Option.some.inj hq125, h111, hn113, hE.pick _ ⟨rfl, rfl, rfl, rfl, rfl, rfl, rfl, rfl, rfl, trivial⟩, hS⟩
          · clear hE hS a w; rintro a w ⟨q129, cs133, rfl, h132, hn134, hE, hS⟩
            refine W.region ?_
            refine WL.vS hS hE (runs_plain rfl) (Gives.inc hE rfl (by omega)) rfl ?_; clear hE a; intro a hE
            refine WL.vS hS hE (runs_plain rfl) (Gives.p hE rfl) rfl ?_; clear hE a; intro a hE
            refine WL.nil ?_
            subst hK114
            exact ⟨rest100, Nat.lt_succ_self _, rest100, k98 + 1, q129, cs133, rfl, (by omega), hq96, h132, hn134, hE.pick _ ⟨rfl, rfl, rfl, rfl, rfl, rfl, rfl, rfl, rfl, trivial⟩, hS⟩
      · clear hE hS a w; rintro a w ⟨q108, cs112, rfl, h111, hn113, hE, hS⟩
        refine W.seq ?_
        refine W.seq ?_
        refine W.region ?_
        refine WL.vS hS hE (runs_plain rfl) (Gives.p hE rfl) rfl ?_; clear hE a; intro a hE
        refine WL.vS hS hE (runs_plain rfl) (Gives.p hE rfl) rfl ?_; clear hE a; intro a hE
        obtain ⟨x157, hx158, hq69⟩ := bindS hq69
        obtain ⟨hi159, hlt160, hy161⟩ := gx_some hx158
        obtain ⟨vs162, hl163, hR164, hd165, hget166⟩ := h111.at hy161
        subst hR164
        refine WL.vS hS hE (runs_plain rfl) (Gives.idx hE ((q75).toNat) rfl rfl sl41 hi159 (by have := hn113; omega) (hS.vecAok 2 rfl (by have := hn113; omega : (q75).toNat < x51.length))) rfl ?_; clear hE a; intro a hE
        refine WL.vS hS hE (runs_plain rfl) (Gives.load1 hE rfl (fun w h => St.vecSees h 2 rfl ((q75).toNat * 1) _ hget166) ty3) rfl ?_; clear hE a; intro a hE
        refine WL.vS hS hE (runs_plain rfl) (Gives.p hE rfl) rfl ?_; clear hE a; intro a hE
        refine WL.nil ?_
        refine W.cond hE rfl (fun hc167 => ?_) (fun hc167 => ?_)
        · replace hq69 := iteT hc167 hq69
          refine W.exit rfl ?_
          refine W.region ?_
          refine WL.vS hS hE (runs_plain rfl) (Gives.p hE rfl) rfl ?_; clear hE a; intro a hE
          refine WL.vS hS hE (runs_plain rfl) (Gives.p hE rfl) rfl ?_; clear hE a; intro a hE
          refine WL.vS hS hE (runs_plain rfl) (Gives.p hE rfl) rfl ?_; clear hE a; intro a hE
          refine WL.nil ?_
          subst hK94
          exact ⟨n71, Nat.lt_succ_self _, n71, (w64 (q75 + 1)), q108, q82, q88, cs112, cs86, cs92, rfl, hq69, h111, hn113, h85, hn87, h91, hn93, hE.pick _ ⟨rfl, rfl, rfl, rfl, rfl, rfl, trivial⟩, hS⟩
        · replace hq69 := iteF hc167 hq69
          refine W.skip ?_
          refine W.seq ?_
          refine W.region ?_
          refine WL.vS hS hE (runs_plain rfl) (Gives.p hE rfl) rfl ?_; clear hE a; intro a hE
          refine WL.vS hS hE (runs_plain rfl) (Gives.p hE rfl) rfl ?_; clear hE a; intro a hE
          refine WL.vS hS hE (runs_plain rfl) (Gives.p hE rfl) rfl ?_; clear hE a; intro a hE
          refine WL.vS hS hE (runs_plain rfl) (Gives.p hE rfl) rfl ?_; clear hE a; intro a hE
          refine WL.vS hS hE (runs_plain rfl) (Gives.p hE rfl) rfl ?_; clear hE a; intro a hE
          obtain ⟨_, hx169, hq69⟩ := bindS hq69
          obtain ⟨h170, h171⟩ := ix_some hx169
          refine WL.vS hS hE (runs_plain rfl) (Gives.idx hE ((q75).toNat) rfl rfl sl41 h170 (by have := hn87; omega) (hS.vecAok 1 rfl (by have := hn87; omega : (q75).toNat < x57.length))) rfl ?_; clear hE a; intro a hE
          obtain ⟨x173, hx174, hq69⟩ := bindS hq69
          refine WL.setD hE hS 1 rfl (runs_plain rfl) rfl rfl (vs := [.int .i64 1]) rfl ty3 rfl rfl rfl h85 hn87 (sx_some hx174).1 hx174 rfl rfl ?_; clear hE hS a w; intro cs175 a w h176 hn177 hE hS
          obtain ⟨_, hx179, hq69⟩ := bindS hq69
          obtain ⟨h180, h181⟩ := ix_some hx179
          refine WL.vS hS hE (runs_plain rfl) (Gives.idx hE ((q75).toNat) rfl rfl sl41 h180 (by have := hn93; omega) (hS.vecAok 0 rfl (by have := hn93; omega : (q75).toNat < x63.length))) rfl ?_; clear hE a; intro a hE
          obtain ⟨x183, hx184, hq69⟩ := bindS hq69
          refine WL.setD hE hS 0 rfl (runs_plain rfl) rfl rfl (vs := [.int .i64 q75]) rfl ty3 rfl rfl rfl h91 hn93 (sx_some hx184).1 hx184 rfl rfl ?_; clear hE hS a w; intro cs185 a w h186 hn187 hE hS
          refine WL.nil ?_
          refine W.seq ?_
          refine W.region ?_
          refine WL.vS hS hE (runs_plain rfl) (Gives.p hE rfl) rfl ?_; clear hE a; intro a hE
          refine WL.vS hS hE (runs_plain rfl) (Gives.p hE rfl) rfl ?_; clear hE a; intro a hE
          refine WL.vS hS hE (runs_plain rfl) (Gives.p hE rfl) rfl ?_; clear hE a; intro a hE
          refine WL.vS hS hE (runs_plain rfl) (Gives.p hE rfl) rfl ?_; clear hE a; intro a hE
          refine WL.vS hS hE (runs_plain rfl) (Gives.p hE rfl) rfl ?_; clear hE a; intro a hE
          refine WL.nil ?_
          obtain ⟨q189, hq188, hq69⟩ := bindS hq69
          refine W.cut (fun a w => ∃ (q194 : Int), ∃ (q195 : List Int), ∃ (q201 : List Int), ∃ (cs199 : List Value), ∃ (cs205 : List Value), (q194, q195, q201) = q189 ∧ Ev 1 (RI .i64) s cs199 q195 ∧ q195.length = x57.length ∧ Ev 1 (RI .i64) s cs205 q201 ∧ q201.length = x63.length ∧ Rep a 140 [(0, .slice a_v0 x0.length c_v0), (3, .int .i64 (w64 ((IntKind.wrap .i64 (1 * (2 ^ (min (Int.toNat ((x0.length : Nat) : Int)) (IntKind.bits .i64))))) - 1))), (4, .slice (some ⟨b53, 0, none⟩) x51.length x51.length), (5, .slice (some ⟨b59, 0, none⟩) x57.length x57.length), (6, .slice (some ⟨b65, 0, none⟩) x63.length x63.length), (7, .int .i64 q75)] ∧ St w s (vecC 3 1 (some ⟨b65, 0, none⟩) x63.length x63.length cs205 :: vecC 3 1 (some ⟨b59, 0, none⟩) x57.length x57.length cs199 :: vecC 3 1 (some ⟨b53, 0, none⟩) x51.length x51.length cs112 :: vecC 3 1 a_v0 c_v0 x0.length cs_v0 :: R)) ?_ ?_
          · refine W.block ?_
            refine W.loop (fun m a w => ∃ (n190 : Nat), ∃ (q194 : Int), ∃ (q195 : List Int), ∃ (q201 : List Int), ∃ (cs199 : List Value), ∃ (cs205 : List Value), n190 = m ∧ Faregroups_v1.loop3 q75 q108 n190 q194 q195 q201 = some q189 ∧ Ev 1 (RI .i64) s cs199 q195 ∧ q195.length = x57.length ∧ Ev 1 (RI .i64) s cs205 q201 ∧ q201.length = x63.length ∧ Rep a 140 [(0, .slice a_v0 x0.length c_v0), (3, .int .i64 (w64 ((IntKind.wrap .i64 (1 * (2 ^ (min (Int.toNat ((x0.length : Nat) : Int)) (IntKind.bits .i64))))) - 1))), (4, .slice (some ⟨b53, 0, none⟩) x51.length x51.length), (5, .slice (some ⟨b59, 0, none⟩) x57.length x57.length), (6, .slice (some ⟨b65, 0, none⟩) x63.length x63.length), (7, .int .i64 q75), (10, .int .i64 q194)] ∧ St w s (vecC 3 1 (some ⟨b65, 0, none⟩) x63.length x63.length cs205 :: vecC 3 1 (some ⟨b59, 0, none⟩) x57.length x57.length cs199 :: vecC 3 1 (some ⟨b53, 0, none⟩) x51.length x51.length cs112 :: vecC 3 1 a_v0 c_v0 x0.length cs_v0 :: R)) (m := fu) ⟨fu, (IntKind.wrap .i64 ((BitVec.ofInt (IntKind.bits .i64) (w64 (q75 - 1)) &&& BitVec.ofInt (IntKind.bits .i64) q75).toNat : Int)), x173, x183, cs175, cs185, rfl, hq188, h176, hn177, h186, hn187, hE.pick _ ⟨rfl, rfl, rfl, rfl, rfl, rfl, rfl, trivial⟩, hS⟩ ?_
            clear hE hS a w hq188; rintro m191 a w ⟨n190, q194, q195, q201, cs199, cs205, rfl, hq188, h198, hn200, h204, hn206, hE, hS⟩
            refine W.gen fun K207 hK207 => ?_
            rcases n190 with _ | n190
            · rw [Faregroups_v1.loop3] at hq188; exact absurd hq188 (by simp)
            rw [Faregroups_v1.loop3] at hq188
            refine W.seq ?_
            refine W.seq ?_
            refine W.region ?_
            refine WL.vS hS hE (runs_plain rfl) (Gives.p hE rfl) rfl ?_; clear hE a; intro a hE
            refine WL.vS hS hE (runs_plain rfl) (Gives.p hE rfl) rfl ?_; clear hE a; intro a hE
            refine WL.nil ?_
            refine W.cond hE rfl (fun hc208 => ?_) (fun hc208 => ?_)
            · replace hq188 := iteT hc208 hq188
              refine W.skip ?_
              refine W.seq ?_
              refine W.block ?_
              refine W.seq ?_
              obtain ⟨q210, hq209, hq188⟩ := bindS hq188
              refine W.cut (fun a w => ∃ (q213 : Bool), q213 = q210 ∧ Rep a 140 [(0, .slice a_v0 x0.length c_v0), (3, .int .i64 (w64 ((IntKind.wrap .i64 (1 * (2 ^ (min (Int.toNat ((x0.length : Nat) : Int)) (IntKind.bits .i64))))) - 1))), (4, .slice (some ⟨b53, 0, none⟩) x51.length x51.length), (5, .slice (some ⟨b59, 0, none⟩) x57.length x57.length), (6, .slice (some ⟨b65, 0, none⟩) x63.length x63.length), (7, .int .i64 q75), (10, .int .i64 q194), (93, .bool q213)] ∧ St w s (vecC 3 1 (some ⟨b65, 0, none⟩) x63.length x63.length cs205 :: vecC 3 1 (some ⟨b59, 0, none⟩) x57.length x57.length cs199 :: vecC 3 1 (some ⟨b53, 0, none⟩) x51.length x51.length cs112 :: vecC 3 1 a_v0 c_v0 x0.length cs_v0 :: R)) ?_ ?_
              · refine W.gen fun K214 hK214 => ?_
                refine W.regionQ (C := fun w => St w s (vecC 3 1 (some ⟨b65, 0, none⟩) x63.length x63.length cs205 :: vecC 3 1 (some ⟨b59, 0, none⟩) x57.length x57.length cs199 :: vecC 3 1 (some ⟨b53, 0, none⟩) x51.length x51.length cs112 :: vecC 3 1 a_v0 c_v0 x0.length cs_v0 :: R)) mixed (by kernel_rfl) hS.drew ?_
                refine QL.v hE (runs_plain rfl) (Gives.p hE rfl) rfl ?_; clear hE a; intro a hE
                refine QL.v hE (runs_plain rfl) (Gives.p hE rfl) rfl ?_; clear hE a; intro a hE
                obtain ⟨x215, hx216, hq209⟩ := bindS hq209
                obtain ⟨hi217, hlt218, hy219⟩ := gx_some hx216
                obtain ⟨vs220, hl221, hR222, hd223, hget224⟩ := h111.at hy219
                subst hR222
                refine QL.v hE (runs_plain rfl) (Gives.idx hE ((q194).toNat) rfl rfl sl41 hi217 (by have := hn113; omega) (hS.vecAok 2 rfl (by have := hn113; omega : (q194).toNat < x51.length))) rfl ?_; clear hE a; intro a hE
                refine QL.v hE (runs_plain rfl) (Gives.load1 hE rfl (fun w h => St.vecSees h 2 rfl ((q194).toNat * 1) _ hget224) ty3) rfl ?_; clear hE a; intro a hE
                refine QL.v hE (runs_plain rfl) (Gives.p hE rfl) rfl ?_; clear hE a; intro a hE
                refine QL.v hE (runs_plain rfl) (Gives.p hE rfl) rfl ?_; clear hE a; intro a hE
                rcases Bool.eq_false_or_eq_true (x215 == 0) with hg225 | hg225
                · replace hq209 := iteT hg225 hq209
                  refine QL.v hE (runs_if hE rfl rfl rfl hg225) (Gives.p hE rfl) rfl ?_; clear hE a; intro a hE
                  refine QL.v hE (runs_if hE rfl rfl rfl hg225) (Gives.p hE rfl) rfl ?_; clear hE a; intro a hE
                  refine QL.v hE (runs_if hE rfl rfl rfl hg225) (Gives.p hE rfl) rfl ?_; clear hE a; intro a hE
                  refine QL.v hE (runs_if hE rfl rfl rfl hg225) (Gives.p hE rfl) rfl ?_; clear hE a; intro a hE
                  obtain ⟨x226, hx227, hq209⟩ := bindS hq209
                  obtain ⟨hi228, hlt229, hy230⟩ := gx_some hx227
                  obtain ⟨vs231, hl232, hR233, hd234, hget235⟩ := h198.at hy230
                  subst hR233
                  refine QL.v hE (runs_if hE rfl rfl rfl hg225) (Gives.idx hE ((IntKind.wrap .i64 ((BitVec.ofInt (IntKind.bits .i64) q75 ^^^ BitVec.ofInt (IntKind.bits .i64) q194).toNat : Int)).toNat) rfl rfl sl41 hi228 (by have := hn200; omega) (hS.vecAok 1 rfl (by have := hn200; omega : (IntKind.wrap .i64 ((BitVec.ofInt (IntKind.bits .i64) q75 ^^^ BitVec.ofInt (IntKind.bits .i64) q194).toNat : Int)).toNat < x57.length))) rfl ?_; clear hE a; intro a hE
                  refine QL.v hE (runs_if hE rfl rfl rfl hg225) (Gives.load1 hE rfl (fun w h => St.vecSees h 1 rfl ((IntKind.wrap .i64 ((BitVec.ofInt (IntKind.bits .i64) q75 ^^^ BitVec.ofInt (IntKind.bits .i64) q194).toNat : Int)).toNat * 1) _ hget235) ty3) rfl ?_; clear hE a; intro a hE
                  refine QL.v hE (runs_if hE rfl rfl rfl hg225) (Gives.p hE rfl) rfl ?_; clear hE a; intro a hE
                  refine QL.v hE (runs_if hE rfl rfl rfl hg225) (Gives.p hE rfl) rfl ?_; clear hE a; intro a hE
                  refine QL.v hE (runs_if hE rfl rfl rfl hg225) (Gives.p hE rfl) rfl ?_; clear hE a; intro a hE
                  obtain ⟨x236, hx237, hq209⟩ := bindS hq209
                  obtain ⟨hi238, hlt239, hy240⟩ := gx_some hx237
                  obtain ⟨vs241, hl242, hR243, hd244, hget245⟩ := h198.at hy240
                  subst hR243
                  refine QL.v hE (runs_if hE rfl rfl rfl hg225) (Gives.idx hE ((q75).toNat) rfl rfl sl41 hi238 (by have := hn200; omega) (hS.vecAok 1 rfl (by have := hn200; omega : (q75).toNat < x57.length))) rfl ?_; clear hE a; intro a hE
                  refine QL.v hE (runs_if hE rfl rfl rfl hg225) (Gives.load1 hE rfl (fun w h => St.vecSees h 1 rfl ((q75).toNat * 1) _ hget245) ty3) rfl ?_; clear hE a; intro a hE
                  refine QL.v hE (runs_if hE rfl rfl rfl hg225) (Gives.p hE rfl) rfl ?_; clear hE a; intro a hE
                  refine QL.v hE (runs_plain rfl) (Gives.pickT hE rfl hg225 rfl) rfl ?_; clear hE a; intro a hE
                  refine QL.nil ?_; clear hS w; intro w hS
                  subst hK214
                  exact ⟨decide ((w64 (x226 + 1)) > x236), Option.some.inj hq209, hE.pick _ ⟨rfl, rfl, rfl, rfl, rfl, rfl, rfl, rfl, trivial⟩, hS⟩
                · replace hq209 := iteF hg225 hq209
                  refine QL.no hE (runs_not hE rfl rfl rfl (by rw [hg225]; decide)) rfl ?_; clear hE a; intro a hE
                  refine QL.no hE (runs_not hE rfl rfl rfl (by rw [hg225]; decide)) rfl ?_; clear hE a; intro a hE
                  refine QL.no hE (runs_not hE rfl rfl rfl (by rw [hg225]; decide)) rfl ?_; clear hE a; intro a hE
                  refine QL.no hE (runs_not hE rfl rfl rfl (by rw [hg225]; decide)) rfl ?_; clear hE a; intro a hE
                  refine QL.no hE (runs_not hE rfl rfl rfl (by rw [hg225]; decide)) rfl ?_; clear hE a; intro a hE
                  refine QL.no hE (runs_not hE rfl rfl rfl (by rw [hg225]; decide)) rfl ?_; clear hE a; intro a hE
                  refine QL.no hE (runs_not hE rfl rfl rfl (by rw [hg225]; decide)) rfl ?_; clear hE a; intro a hE
                  refine QL.no hE (runs_not hE rfl rfl rfl (by rw [hg225]; decide)) rfl ?_; clear hE a; intro a hE
                  refine QL.no hE (runs_not hE rfl rfl rfl (by rw [hg225]; decide)) rfl ?_; clear hE a; intro a hE
                  refine QL.no hE (runs_not hE rfl rfl rfl (by rw [hg225]; decide)) rfl ?_; clear hE a; intro a hE
                  refine QL.no hE (runs_not hE rfl rfl rfl (by rw [hg225]; decide)) rfl ?_; clear hE a; intro a hE
                  refine QL.no hE (runs_not hE rfl rfl rfl (by rw [hg225]; decide)) rfl ?_; clear hE a; intro a hE
                  refine QL.v hE (runs_plain rfl) (Gives.pickF hE rfl hg225 rfl) rfl ?_; clear hE a; intro a hE
                  refine QL.nil ?_; clear hS w; intro w hS
                  subst hK214
                  exact ⟨false, Option.some.inj hq209, hE.pick _ ⟨rfl, rfl, rfl, rfl, rfl, rfl, rfl, rfl, trivial⟩, hS⟩
              · clear hE hS a w; rintro a w ⟨q213, rfl, hE, hS⟩
                obtain ⟨q247, hq246, hq188⟩ := bindS hq188
                refine W.cut (fun a w => ∃ (q250 : List Int), ∃ (q256 : List Int), ∃ (cs254 : List Value), ∃ (cs260 : List Value), (q250, q256) = q247 ∧ Ev 1 (RI .i64) s cs254 q250 ∧ q250.length = x57.length ∧ Ev 1 (RI .i64) s cs260 q256 ∧ q256.length = x63.length ∧ Rep a 140 [(0, .slice a_v0 x0.length c_v0), (3, .int .i64 (w64 ((IntKind.wrap .i64 (1 * (2 ^ (min (Int.toNat ((x0.length : Nat) : Int)) (IntKind.bits .i64))))) - 1))), (4, .slice (some ⟨b53, 0, none⟩) x51.length x51.length), (5, .slice (some ⟨b59, 0, none⟩) x57.length x57.length), (6, .slice (some ⟨b65, 0, none⟩) x63.length x63.length), (7, .int .i64 q75), (10, .int .i64 q194)] ∧ St w s (vecC 3 1 (some ⟨b65, 0, none⟩) x63.length x63.length cs260 :: vecC 3 1 (some ⟨b59, 0, none⟩) x57.length x57.length cs254 :: vecC 3 1 (some ⟨b53, 0, none⟩) x51.length x51.length cs112 :: vecC 3 1 a_v0 c_v0 x0.length cs_v0 :: R)) ?_ ?_
                · refine W.gen fun K262 hK262 => ?_
                  refine W.cond hE rfl (fun hc263 => ?_) (fun hc263 => ?_)
                  · replace hq246 := iteT hc263 hq246
                    refine W.region ?_
                    refine WL.vS hS hE (runs_plain rfl) (Gives.p hE rfl) rfl ?_; clear hE a; intro a hE
                    refine WL.vS hS hE (runs_plain rfl) (Gives.p hE rfl) rfl ?_; clear hE a; intro a hE
                    refine WL.vS hS hE (runs_plain rfl) (Gives.p hE rfl) rfl ?_; clear hE a; intro a hE
                    refine WL.vS hS hE (runs_plain rfl) (Gives.p hE rfl) rfl ?_; clear hE a; intro a hE
                    refine WL.vS hS hE (runs_plain rfl) (Gives.p hE rfl) rfl ?_; clear hE a; intro a hE
                    refine WL.vS hS hE (runs_plain rfl) (Gives.p hE rfl) rfl ?_; clear hE a; intro a hE
                    refine WL.vS hS hE (runs_plain rfl) (Gives.p hE rfl) rfl ?_; clear hE a; intro a hE
                    refine WL.vS hS hE (runs_plain rfl) (Gives.p hE rfl) rfl ?_; clear hE a; intro a hE
                    obtain ⟨x264, hx265, hq246⟩ := bindS hq246
                    obtain ⟨hi266, hlt267, hy268⟩ := gx_some hx265
                    obtain ⟨vs269, hl270, hR271, hd272, hget273⟩ := h198.at hy268
                    subst hR271
                    refine WL.vS hS hE (runs_plain rfl) (Gives.idx hE ((IntKind.wrap .i64 ((BitVec.ofInt (IntKind.bits .i64) q75 ^^^ BitVec.ofInt (IntKind.bits .i64) q194).toNat : Int)).toNat) rfl rfl sl41 hi266 (by have := hn200; omega) (hS.vecAok 1 rfl (by have := hn200; omega : (IntKind.wrap .i64 ((BitVec.ofInt (IntKind.bits .i64) q75 ^^^ BitVec.ofInt (IntKind.bits .i64) q194).toNat : Int)).toNat < x57.length))) rfl ?_; clear hE a; intro a hE
                    refine WL.vS hS hE (runs_plain rfl) (Gives.load1 hE rfl (fun w h => St.vecSees h 1 rfl ((IntKind.wrap .i64 ((BitVec.ofInt (IntKind.bits .i64) q75 ^^^ BitVec.ofInt (IntKind.bits .i64) q194).toNat : Int)).toNat * 1) _ hget273) ty3) rfl ?_; clear hE a; intro a hE
                    refine WL.vS hS hE (runs_plain rfl) (Gives.p hE rfl) rfl ?_; clear hE a; intro a hE
                    refine WL.vS hS hE (runs_plain rfl) (Gives.p hE rfl) rfl ?_; clear hE a; intro a hE
                    obtain ⟨_, hx275, hq246⟩ := bindS hq246
                    obtain ⟨h276, h277⟩ := ix_some hx275
                    refine WL.vS hS hE (runs_plain rfl) (Gives.idx hE ((q75).toNat) rfl rfl sl41 h276 (by have := hn200; omega) (hS.vecAok 1 rfl (by have := hn200; omega : (q75).toNat < x57.length))) rfl ?_; clear hE a; intro a hE
                    obtain ⟨x279, hx280, hq246⟩ := bindS hq246
                    refine WL.setD hE hS 1 rfl (runs_plain rfl) rfl rfl (vs := [.int .i64 (w64 (x264 + 1))]) rfl ty3 rfl rfl rfl h198 hn200 (sx_some hx280).1 hx280 rfl rfl ?_; clear hE hS a w; intro cs281 a w h282 hn283 hE hS
                    obtain ⟨_, hx285, hq246⟩ := bindS hq246
                    obtain ⟨h286, h287⟩ := ix_some hx285
                    refine WL.vS hS hE (runs_plain rfl) (Gives.idx hE ((q75).toNat) rfl rfl sl41 h286 (by have := hn206; omega) (hS.vecAok 0 rfl (by have := hn206; omega : (q75).toNat < x63.length))) rfl ?_; clear hE a; intro a hE
                    obtain ⟨x289, hx290, hq246⟩ := bindS hq246
                    refine WL.setD hE hS 0 rfl (runs_plain rfl) rfl rfl (vs := [.int .i64 q194]) rfl ty3 rfl rfl rfl h204 hn206 (sx_some hx290).1 hx290 rfl rfl ?_; clear hE hS a w; intro cs291 a w h292 hn293 hE hS
                    refine WL.nil ?_
                    subst hK262
                    exact ⟨x279, x289, cs281, cs291, Option.some.inj hq246, h282, hn283, h292, hn293, hE.pick _ ⟨rfl, rfl, rfl, rfl, rfl, rfl, rfl, trivial⟩, hS⟩
                  · replace hq246 := iteF hc263 hq246
                    refine W.skip ?_
                    subst hK262
                    exact ⟨q195, q201, cs199, cs205, Option.some.inj hq246, h198, hn200, h204, hn206, hE.pick _ ⟨rfl, rfl, rfl, rfl, rfl, rfl, rfl, trivial⟩, hS⟩
                · clear hE hS a w; rintro a w ⟨q250, q256, cs254, cs260, rfl, h253, hn255, h259, hn261, hE, hS⟩
                  dsimp only at hq188
                  refine W.region ?_
                  refine WL.vS hS hE (runs_plain rfl) (Gives.p hE rfl) rfl ?_; clear hE a; intro a hE
                  refine WL.vS hS hE (runs_plain rfl) (Gives.p hE rfl) rfl ?_; clear hE a; intro a hE
                  refine WL.vS hS hE (runs_plain rfl) (Gives.p hE rfl) rfl ?_; clear hE a; intro a hE
                  refine WL.vS hS hE (runs_plain rfl) (Gives.p hE rfl) rfl ?_; clear hE a; intro a hE
                  refine WL.vS hS hE (runs_plain rfl) (Gives.p hE rfl) rfl ?_; clear hE a; intro a hE
                  refine WL.nil ?_
                  subst hK207
                  exact ⟨n190, Nat.lt_succ_self _, n190, (IntKind.wrap .i64 ((BitVec.ofInt (IntKind.bits .i64) (w64 (q194 - 1)) &&& BitVec.ofInt (IntKind.bits .i64) q75).toNat : Int)), q250, q256, cs254, cs260, rfl, hq188, h253, hn255, h259, hn261, hE.pick _ ⟨rfl, rfl, rfl, rfl, rfl, rfl, rfl, trivial⟩, hS⟩
            · replace hq188 := iteF hc208 hq188
              subst hK207
              refine W.exit rfl ?_
              exact ⟨q194, q195, q201, cs199, cs205, Option.some.inj hq188, h198, hn200, h204, hn206, hE.pick _ ⟨rfl, rfl, rfl, rfl, rfl, rfl, trivial⟩, hS⟩
          · clear hE hS a w; rintro a w ⟨q194, q195, q201, cs199, cs205, rfl, h198, hn200, h204, hn206, hE, hS⟩
            dsimp only at hq69
            refine W.region ?_
            refine WL.vS hS hE (runs_plain rfl) (Gives.p hE rfl) rfl ?_; clear hE a; intro a hE
            refine WL.vS hS hE (runs_plain rfl) (Gives.p hE rfl) rfl ?_; clear hE a; intro a hE
            refine WL.vS hS hE (runs_plain rfl) (Gives.p hE rfl) rfl ?_; clear hE a; intro a hE
            refine WL.nil ?_
            subst hK94
            exact ⟨n71, Nat.lt_succ_self _, n71, (w64 (q75 + 1)), q108, q195, q201, cs112, cs199, cs205, rfl, hq69, h111, hn113, h198, hn200, h204, hn206, hE.pick _ ⟨rfl, rfl, rfl, rfl, rfl, rfl, trivial⟩, hS⟩
    · replace hq69 := iteF hc95 hq69
      subst hK94
      refine W.exit rfl ?_
      exact ⟨q75, q76, q82, q88, cs80, cs86, cs92, Option.some.inj hq69, h79, hn81, h85, hn87, h91, hn93, hE.pick _ ⟨rfl, rfl, rfl, trivial⟩, hS⟩
  · clear hE hS a w; rintro a w ⟨q75, q76, q82, q88, cs80, cs86, cs92, rfl, h79, hn81, h85, hn87, h91, hn93, hE, hS⟩
    dsimp only at hr
    refine W.seq ?_
    refine W.region ?_
    replace hS := hS.vecNil 41 1
    refine WL.vS hS hE (runs_plain rfl) (Gives.p hE rfl) rfl ?_; clear hE a; intro a hE
    refine WL.nil ?_
    refine W.seq ?_
    refine W.seq ?_
    refine W.region ?_
    refine WL.vS hS hE (runs_plain rfl) (Gives.p hE rfl) rfl ?_; clear hE a; intro a hE
    refine WL.vS hS hE (runs_plain rfl) (Gives.p hE rfl) rfl ?_; clear hE a; intro a hE
    refine WL.nil ?_
    replace hS := hS.dropAt 2
    replace hS := hS.dropAt 2
    obtain ⟨q296, hq295, hr⟩ := bindS hr
    refine W.cut (fun a w => ∃ (q301 : List (List Int)), ∃ (q308 : Int), ∃ (a302 : Option Addr), ∃ (c303 : Nat), ∃ (n305 : Nat), ∃ (cs306 : List Value), ∃ (s299 : Sg), s.Le s299 ∧ (q301, q308) = q296 ∧ Ev 1 (RL 1 (RI .i64)) s299 cs306 q301 ∧ q301.length = n305 ∧ Rep a 140 [(11, .slice a302 n305 c303)] ∧ St w s299 (vecC 41 1 a302 c303 n305 cs306 :: vecC 3 1 (some ⟨b65, 0, none⟩) x63.length x63.length cs92 :: vecC 3 1 a_v0 c_v0 x0.length cs_v0 :: R)) ?_ ?_
    · refine W.block ?_
      refine W.loop (fun m a w => ∃ (n297 : Nat), ∃ (q301 : List (List Int)), ∃ (q308 : Int), ∃ (a302 : Option Addr), ∃ (c303 : Nat), ∃ (n305 : Nat), ∃ (cs306 : List Value), ∃ (s299 : Sg), n297 = m ∧ s.Le s299 ∧ Faregroups_v1.loop4 x0 q88 n297 q301 q308 = some q296 ∧ Ev 1 (RL 1 (RI .i64)) s299 cs306 q301 ∧ q301.length = n305 ∧ Rep a 140 [(0, .slice a_v0 x0.length c_v0), (6, .slice (some ⟨b65, 0, none⟩) x63.length x63.length), (11, .slice a302 n305 c303), (12, .int .i64 q308)] ∧ St w s299 (vecC 41 1 a302 c303 n305 cs306 :: vecC 3 1 (some ⟨b65, 0, none⟩) x63.length x63.length cs92 :: vecC 3 1 a_v0 c_v0 x0.length cs_v0 :: R)) (m := fu) ⟨fu, [], (w64 ((IntKind.wrap .i64 (1 * (2 ^ (min (Int.toNat ((x0.length : Nat) : Int)) (IntKind.bits .i64))))) - 1)), none, 0, 0, [], s, rfl, (Sg.Le.refl _), hq295, (Ev.nil), (rfl), hE.pick _ ⟨rfl, rfl, rfl, rfl, trivial⟩, hS⟩ ?_
      clear hE hS a w hq295; rintro m298 a w ⟨n297, q301, q308, a302, c303, n305, cs306, s299, rfl, hle300, hq295, h304, rfl, hE, hS⟩
      refine W.gen fun K309 hK309 => ?_
      replace h91 := Ev.mono RI.mono hle300 h91
      replace h_v0 := Ev.mono RI.mono hle300 h_v0
      rcases n297 with _ | n297
      · rw [Faregroups_v1.loop4] at hq295; exact absurd hq295 (by simp)
      rw [Faregroups_v1.loop4] at hq295
      refine W.seq ?_
      refine W.seq ?_
      refine W.region ?_
      refine WL.vS hS hE (runs_plain rfl) (Gives.p hE rfl) rfl ?_; clear hE a; intro a hE
      refine WL.vS hS hE (runs_plain rfl) (Gives.p hE rfl) rfl ?_; clear hE a; intro a hE
      refine WL.nil ?_
      refine W.cond hE rfl (fun hc310 => ?_) (fun hc310 => ?_)
      · replace hq295 := iteT hc310 hq295
        refine W.skip ?_
        refine W.seq ?_
        refine W.block ?_
        refine W.seq ?_
        refine W.region ?_
        replace hS := hS.vecNil 3 1
        refine WL.vS hS hE (runs_plain rfl) (Gives.p hE rfl) rfl ?_; clear hE a; intro a hE
        refine WL.nil ?_
        refine W.seq ?_
        refine W.seq ?_
        refine W.region ?_
        refine WL.vS hS hE (runs_plain rfl) (Gives.p hE rfl) rfl ?_; clear hE a; intro a hE
        refine WL.vS hS hE (runs_plain rfl) (Gives.len hE rfl sl41) rfl ?_; clear hE a; intro a hE
        refine WL.vS hS hE (runs_plain rfl) (Gives.p hE rfl) rfl ?_; clear hE a; intro a hE
        refine WL.nil ?_
        have hb323 : x0.length ≤ 9223372036854775807 := by have := hS.vecCap 3 rfl; unfold maxLen at this; omega
        obtain ⟨q313, hq312, hq295⟩ := bindS hq295
        refine W.cut (fun a w => ∃ (q324 : List Int), ∃ (a325 : Option Addr), ∃ (c326 : Nat), ∃ (n328 : Nat), ∃ (cs329 : List Value), q324 = q313 ∧ Ev 1 (RI .i64) s299 cs329 q324 ∧ q324.length = n328 ∧ Rep a 140 [(0, .slice a_v0 x0.length c_v0), (6, .slice (some ⟨b65, 0, none⟩) x63.length x63.length), (11, .slice a302 q301.length c303), (12, .int .i64 q308), (13, .slice a325 n328 c326)] ∧ St w s299 (vecC 3 1 a325 c326 n328 cs329 :: vecC 41 1 a302 c303 q301.length cs306 :: vecC 3 1 (some ⟨b65, 0, none⟩) x63.length x63.length cs92 :: vecC 3 1 a_v0 c_v0 x0.length cs_v0 :: R)) ?_ ?_
        · refine W.block ?_
          refine W.loop (fun m a w => ∃ (rest316 : Nat) (k314 : Nat), ∃ (q324 : List Int), ∃ (a325 : Option Addr), ∃ (c326 : Nat), ∃ (n328 : Nat), ∃ (cs329 : List Value), rest316 = m ∧ k314 + rest316 = x0.length ∧ Faregroups_v1.loop5 q88 q308 rest316 k314 q324 = some q313 ∧ Ev 1 (RI .i64) s299 cs329 q324 ∧ q324.length = n328 ∧ Rep a 140 [(0, .slice a_v0 x0.length c_v0), (6, .slice (some ⟨b65, 0, none⟩) x63.length x63.length), (11, .slice a302 q301.length c303), (12, .int .i64 q308), (13, .slice a325 n328 c326), (118, .int .i64 ((x0.length : Nat) : Int)), (119, .int .i64 ((k314 : Nat) : Int))] ∧ St w s299 (vecC 3 1 a325 c326 n328 cs329 :: vecC 41 1 a302 c303 q301.length cs306 :: vecC 3 1 (some ⟨b65, 0, none⟩) x63.length x63.length cs92 :: vecC 3 1 a_v0 c_v0 x0.length cs_v0 :: R)) (m := x0.length) ⟨x0.length, 0, [], none, 0, 0, [], rfl, by omega, hq312, (Ev.nil), (rfl), hE.pick _ ⟨rfl, rfl, rfl, rfl, rfl, rfl, rfl, trivial⟩, hS⟩ ?_
          clear hE hS a w hq312; rintro m320 a w ⟨rest316, k314, q324, a325, c326, n328, cs329, rfl, hd317, hq312, h327, rfl, hE, hS⟩
          refine W.gen fun K331 hK331 => ?_
          rcases rest316 with _ | rest316
          · skip
            refine W.seq ?_
            refine W.region ?_
            refine WL.vS hS hE (runs_plain rfl) (Gives.p hE rfl) rfl ?_; clear hE a; intro a hE
            refine WL.nil ?_
            refine W.seq ?_
            refine W.condF hE rfl (decide_eq_false (by omega)) ?_
            subst hK331
            refine W.exit rfl ?_
            exact ⟨q324, a325, c326, q324.length, cs329, Option.some.inj hq312, h327, rfl, hE.pick _ ⟨rfl, rfl, rfl, rfl, rfl, trivial⟩, hS⟩
          · have hlt318 : k314 < x0.length := by omega
            rw [Faregroups_v1.loop5] at hq312
            refine W.seq ?_
            refine W.region ?_
            refine WL.vS hS hE (runs_plain rfl) (Gives.p hE rfl) rfl ?_; clear hE a; intro a hE
            refine WL.nil ?_
            refine W.seq ?_
            refine W.condT hE rfl (decide_eq_true (by omega)) ?_
            refine W.skip ?_
            refine W.seq ?_
            refine W.block ?_
            refine W.seq ?_
            refine W.region ?_
            refine WL.vS hS hE (runs_plain rfl) (Gives.p hE rfl) rfl ?_; clear hE a; intro a hE
            refine WL.vS hS hE (runs_plain rfl) (Gives.p hE rfl) rfl ?_; clear hE a; intro a hE
            refine WL.nil ?_
            refine W.seq ?_
            refine W.region ?_
            refine WL.vS hS hE (runs_plain rfl) (Gives.p hE rfl) rfl ?_; clear hE a; intro a hE
            refine WL.vS hS hE (runs_plain rfl) (Gives.p hE rfl) rfl ?_; clear hE a; intro a hE
            obtain ⟨x332, hx333, hq312⟩ := bindS hq312
            obtain ⟨hi334, hlt335, hy336⟩ := gx_some hx333
            obtain ⟨vs337, hl338, hR339, hd340, hget341⟩ := h91.at hy336
            subst hR339
            refine WL.vS hS hE (runs_plain rfl) (Gives.idx hE ((q308).toNat) rfl rfl sl41 hi334 (by have := hn93; omega) (hS.vecAok 2 rfl (by have := hn93; omega : (q308).toNat < x63.length))) rfl ?_; clear hE a; intro a hE
            refine WL.vS hS hE (runs_plain rfl) (Gives.load1 hE rfl (fun w h => St.vecSees h 2 rfl ((q308).toNat * 1) _ hget341) ty3) rfl ?_; clear hE a; intro a hE
            refine WL.vS hS hE (runs_plain rfl) (Gives.p hE rfl) rfl ?_; clear hE a; intro a hE
            refine WL.vS hS hE (runs_plain rfl) (Gives.shr hE rfl rfl (by omega)) rfl ?_; clear hE a; intro a hE
            refine WL.vS hS hE (runs_plain rfl) (Gives.p hE rfl) rfl ?_; clear hE a; intro a hE
            refine WL.vS hS hE (runs_plain rfl) (Gives.p hE rfl) rfl ?_; clear hE a; intro a hE
            refine WL.nil ?_
            obtain ⟨q343, hq342, hq312⟩ := bindS hq312
            refine W.cut (fun a w => ∃ (q346 : List Int), ∃ (a347 : Option Addr), ∃ (c348 : Nat), ∃ (n350 : Nat), ∃ (cs351 : List Value), q346 = q343 ∧ Ev 1 (RI .i64) s299 cs351 q346 ∧ q346.length = n350 ∧ Rep a 140 [(0, .slice a_v0 x0.length c_v0), (6, .slice (some ⟨b65, 0, none⟩) x63.length x63.length), (11, .slice a302 q301.length c303), (12, .int .i64 q308), (13, .slice a347 n350 c348), (118, .int .i64 ((x0.length : Nat) : Int)), (119, .int .i64 ((k314 : Nat) : Int))] ∧ St w s299 (vecC 3 1 a347 c348 n350 cs351 :: vecC 41 1 a302 c303 q301.length cs306 :: vecC 3 1 (some ⟨b65, 0, none⟩) x63.length x63.length cs92 :: vecC 3 1 a_v0 c_v0 x0.length cs_v0 :: R)) ?_ ?_
            · refine W.gen fun K353 hK353 => ?_
              refine W.cond hE rfl (fun hc354 => ?_) (fun hc354 => ?_)
              · replace hq342 := iteT hc354 hq342
                refine W.region ?_
                refine WL.vS hS hE (runs_plain rfl) (Gives.p hE rfl) rfl ?_; clear hE a; intro a hE
                refine WL.vS hS hE (runs_plain rfl) (Gives.p hE rfl) rfl ?_; clear hE a; intro a hE
                refine WL.lit hE hS (e := 3) (es := 1) (vs := [(0, .int .i64 ((k314 : Nat) : Int))]) (cs := [.int .i64 ((k314 : Nat) : Int)]) (runs_plain rfl) rfl (by kernel_rfl) rfl ?_; clear hE hS a w; intro b355 a w hE hS
                obtain ⟨x356, hx357, hq342⟩ := bindS hq342
                refine WL.appD hE hS 0 (m := 1) (runs_plain rfl) rfl rfl rfl ap41 rfl h327 rfl (xs := [((k314 : Nat) : Int)]) (Ev.cons (c1 := [.int .i64 ((k314 : Nat) : Int)]) rfl rfl (Ev.nil)) rfl rfl hx357 rfl ?_; clear hE hS a w; intro a358 c359 cs360 a w h361 hE hS
                refine WL.vS hS hE (runs_plain rfl) (Gives.p hE rfl) rfl ?_; clear hE a; intro a hE
                refine WL.nil ?_
                subst hK353
                exact ⟨x356, a358, c359, x356.length, cs360, Option.some.inj hq342, h361, (rfl), hE.pick _ ⟨rfl, rfl, rfl, rfl, rfl, rfl, rfl, trivial⟩, hS⟩
              · replace hq342 := iteF hc354 hq342
                refine W.skip ?_
                subst hK353
                exact ⟨q324, a325, c326, q324.length, cs329, Option.some.inj hq342, h327, rfl, hE.pick _ ⟨rfl, rfl, rfl, rfl, rfl, rfl, rfl, trivial⟩, hS⟩
            · clear hE hS a w; rintro a w ⟨q346, a347, c348, n350, cs351, rfl, h349, rfl, hE, hS⟩
              refine W.region ?_
              refine WL.vS hS hE (runs_plain rfl) (Gives.inc hE rfl (by omega)) rfl ?_; clear hE a; intro a hE
              refine WL.vS hS hE (runs_plain rfl) (Gives.p hE rfl) rfl ?_; clear hE a; intro a hE
              refine WL.nil ?_
              subst hK331
              exact ⟨rest316, Nat.lt_succ_self _, rest316, k314 + 1, q346, a347, c348, q346.length, cs351, rfl, (by omega), hq312, h349, rfl, hE.pick _ ⟨rfl, rfl, rfl, rfl, rfl, rfl, rfl, trivial⟩, hS⟩
        · clear hE hS a w; rintro a w ⟨q324, a325, c326, n328, cs329, rfl, h327, rfl, hE, hS⟩
          refine W.region ?_
          refine WL.vS hS hE (runs_plain rfl) (Gives.p hE rfl) rfl ?_; clear hE a; intro a hE
          refine WL.vS hS hE (runs_plain rfl) (Gives.p hE rfl) rfl ?_; clear hE a; intro a hE
          have hF := hS.fixD RI.mono 0 rfl h327 rfl; clear hS; obtain ⟨s362, hle363, hS, h364⟩ := hF
          replace h304 := Ev.mono (RL.mono RI.mono) hle363 h304
          replace h91 := Ev.mono RI.mono hle363 h91
          replace h_v0 := Ev.mono RI.mono hle363 h_v0
          refine WL.lit hE hS (e := 41) (es := 1) (vs := [(0, .slice a325 q324.length c326)]) (cs := [.slice a325 q324.length c326]) (runs_plain rfl) rfl (by kernel_rfl) rfl ?_; clear hE hS a w; intro b365 a w hE hS
          obtain ⟨x366, hx367, hq295⟩ := bindS hq295
          refine WL.appD hE hS 0 (m := 1) (runs_plain rfl) rfl rfl rfl ap57 rfl h304 rfl (xs := [q324]) (Ev.cons (c1 := [.slice a325 q324.length c326]) ⟨_, _, rfl, h364⟩ rfl (Ev.nil)) rfl rfl hx367 rfl ?_; clear hE hS a w; intro a368 c369 cs370 a w h371 hE hS
          refine WL.vS hS hE (runs_plain rfl) (Gives.p hE rfl) rfl ?_; clear hE a; intro a hE
          refine WL.nil ?_
          refine W.region ?_
          refine WL.vS hS hE (runs_plain rfl) (Gives.p hE rfl) rfl ?_; clear hE a; intro a hE
          refine WL.vS hS hE (runs_plain rfl) (Gives.p hE rfl) rfl ?_; clear hE a; intro a hE
          refine WL.vS hS hE (runs_plain rfl) (Gives.p hE rfl) rfl ?_; clear hE a; intro a hE
          obtain ⟨x372, hx373, hq295⟩ := bindS hq295
          obtain ⟨hi374, hlt375, hy376⟩ := gx_some hx373
          obtain ⟨vs377, hl378, hR379, hd380, hget381⟩ := h91.at hy376
          subst hR379
          refine WL.vS hS hE (runs_plain rfl) (Gives.idx hE ((q308).toNat) rfl rfl sl41 hi374 (by have := hn93; omega) (hS.vecAok 1 rfl (by have := hn93; omega : (q308).toNat < x63.length))) rfl ?_; clear hE a; intro a hE
          refine WL.vS hS hE (runs_plain rfl) (Gives.load1 hE rfl (fun w h => St.vecSees h 1 rfl ((q308).toNat * 1) _ hget381) ty3) rfl ?_; clear hE a; intro a hE
          refine WL.vS hS hE (runs_plain rfl) (Gives.p hE rfl) rfl ?_; clear hE a; intro a hE
          refine WL.vS hS hE (runs_plain rfl) (Gives.p hE rfl) rfl ?_; clear hE a; intro a hE
          refine WL.nil ?_
          subst hK309
          exact ⟨n297, Nat.lt_succ_self _, n297, x366, (IntKind.wrap .i64 ((BitVec.ofInt (IntKind.bits .i64) q308 ^^^ BitVec.ofInt (IntKind.bits .i64) x372).toNat : Int)), a368, c369, x366.length, cs370, s362, rfl, (Sg.Le.trans hle300 hle363), hq295, h371, (rfl), hE.pick _ ⟨rfl, rfl, rfl, rfl, trivial⟩, hS⟩
      · replace hq295 := iteF hc310 hq295
        subst hK309
        refine W.exit rfl ?_
        exact ⟨q301, q308, a302, c303, q301.length, cs306, s299, hle300, Option.some.inj hq295, h304, rfl, hE.pick _ ⟨rfl, trivial⟩, hS⟩
    · clear hE hS a w; rintro a w ⟨q301, q308, a302, c303, n305, cs306, s299, hle300, rfl, h304, rfl, hE, hS⟩
      dsimp only at hr
      replace h91 := Ev.mono RI.mono hle300 h91
      replace h_v0 := Ev.mono RI.mono hle300 h_v0
      refine W.seq ?_
      refine W.region ?_
      refine WL.vS hS hE (runs_plain rfl) (Gives.p hE rfl) rfl ?_; clear hE a; intro a hE
      refine WL.vS hS hE (runs_plain rfl) (Gives.p hE rfl) rfl ?_; clear hE a; intro a hE
      refine WL.nil ?_
      refine W.ret ?_
      refine finG (fn := Try.f78) (rs := [.tmp 2]) (vs := [_]) hE rfl ⟨rfl, trivial⟩ ?_
      obtain rfl := Option.some.inj hr
      replace hS := hS.dropAt 1
      exact ⟨a302, c303, q301.length, cs306, s299, rfl, hle300, h304, rfl, hS⟩
set_option maxHeartbeats 8000000 in
theorem MathBitsLen64_ok  {w : World} {s : Sg} {R : List HP} {x0 : Int} (hS : St w s (R))  {r : Int} (hr : MathBitsLen64 x0 = some r) :
    Calls Try.prog 137 [.int .u64 x0].toArray w (fun e w => e = .returned (.int .i64 r) ∧ St w s (R)) := by
  refine enter Try.func137 rfl rfl rfl fun a hE => ?_
  rw [MathBitsLen64] at hr
  refine W.seq ?_
  refine W.region ?_
  refine WL.vS hS hE (runs_plain rfl) (Gives.p hE rfl) rfl ?_; clear hE a; intro a hE
  refine WL.nil ?_
  refine W.seq ?_
  refine W.seq ?_
  refine W.region ?_
  refine WL.vS hS hE (runs_plain rfl) (Gives.p hE rfl) rfl ?_; clear hE a; intro a hE
  refine WL.vS hS hE (runs_plain rfl) (Gives.p hE rfl) rfl ?_; clear hE a; intro a hE
  refine WL.nil ?_
  obtain ⟨q52, hq51, hr⟩ := bndS hr
  refine W.cut (fun a w => ∃ (q55 : Int), ∃ (q56 : Int), (q55, q56) = q52 ∧ Rep a 25 [(0, .int .u64 q55), (2, .int .i64 q56)] ∧ St w s (R)) ?_ ?_
  · refine W.gen fun K57 hK57 => ?_
    refine W.cond hE rfl (fun hc58 => ?_) (fun hc58 => ?_)
    · replace hq51 := iteT hc58 hq51
      refine W.seq ?_
      refine W.region ?_
      refine WL.vS hS hE (runs_plain rfl) (Gives.p hE rfl) rfl ?_; clear hE a; intro a hE
      refine WL.vS hS hE (runs_plain rfl) (Gives.shr hE rfl rfl (by decide)) rfl ?_; clear hE a; intro a hE
      refine WL.vS hS hE (runs_plain rfl) (Gives.p hE rfl) rfl ?_; clear hE a; intro a hE
      refine WL.nil ?_
      refine W.region ?_
      refine WL.vS hS hE (runs_plain rfl) (Gives.p hE rfl) rfl ?_; clear hE a; intro a hE
      refine WL.nil ?_
      subst hK57
      exact ⟨Int.fdiv x0 (2 ^ (min (Int.toNat 32) (IntKind.bits .u64))), 32, hq51, hE.pick _ ⟨rfl, rfl, trivial⟩, hS⟩
    · replace hq51 := iteF hc58 hq51
      refine W.skip ?_
      subst hK57
      exact ⟨x0, 0, hq51, hE.pick _ ⟨rfl, rfl, trivial⟩, hS⟩
  · clear hE hS a w; rintro a w ⟨q55, q56, rfl, hE, hS⟩
    dsimp only at hr
    refine W.seq ?_
    refine W.seq ?_
    refine W.region ?_
    refine WL.vS hS hE (runs_plain rfl) (Gives.p hE rfl) rfl ?_; clear hE a; intro a hE
    refine WL.vS hS hE (runs_plain rfl) (Gives.p hE rfl) rfl ?_; clear hE a; intro a hE
    refine WL.nil ?_
    obtain ⟨q60, hq59, hr⟩ := bndS hr
    refine W.cut (fun a w => ∃ (q63 : Int), ∃ (q64 : Int), (q63, q64) = q60 ∧ Rep a 25 [(0, .int .u64 q63), (2, .int .i64 q64)] ∧ St w s (R)) ?_ ?_
    · refine W.gen fun K65 hK65 => ?_
      refine W.cond hE rfl (fun hc66 => ?_) (fun hc66 => ?_)
      · replace hq59 := iteT hc66 hq59
        refine W.seq ?_
        refine W.region ?_
        refine WL.vS hS hE (runs_plain rfl) (Gives.p hE rfl) rfl ?_; clear hE a; intro a hE
        refine WL.vS hS hE (runs_plain rfl) (Gives.shr hE rfl rfl (by decide)) rfl ?_; clear hE a; intro a hE
        refine WL.vS hS hE (runs_plain rfl) (Gives.p hE rfl) rfl ?_; clear hE a; intro a hE
        refine WL.nil ?_
        refine W.region ?_
        refine WL.vS hS hE (runs_plain rfl) (Gives.p hE rfl) rfl ?_; clear hE a; intro a hE
        refine WL.vS hS hE (runs_plain rfl) (Gives.p hE rfl) rfl ?_; clear hE a; intro a hE
        refine WL.vS hS hE (runs_plain rfl) (Gives.p hE rfl) rfl ?_; clear hE a; intro a hE
        refine WL.nil ?_
        subst hK65
        exact ⟨Int.fdiv q55 (2 ^ (min (Int.toNat 16) (IntKind.bits .u64))), w64 (q56 + 16), hq59, hE.pick _ ⟨rfl, rfl, trivial⟩, hS⟩
      · replace hq59 := iteF hc66 hq59
        refine W.skip ?_
        subst hK65
        exact ⟨q55, q56, hq59, hE.pick _ ⟨rfl, rfl, trivial⟩, hS⟩
    · clear hE hS a w; rintro a w ⟨q63, q64, rfl, hE, hS⟩
      dsimp only at hr
      refine W.seq ?_
      refine W.seq ?_
      refine W.region ?_
      refine WL.vS hS hE (runs_plain rfl) (Gives.p hE rfl) rfl ?_; clear hE a; intro a hE
      refine WL.vS hS hE (runs_plain rfl) (Gives.p hE rfl) rfl ?_; clear hE a; intro a hE
      refine WL.nil ?_
      obtain ⟨q68, hq67, hr⟩ := bndS hr
      refine W.cut (fun a w => ∃ (q71 : Int), ∃ (q72 : Int), (q71, q72) = q68 ∧ Rep a 25 [(0, .int .u64 q71), (2, .int .i64 q72)] ∧ St w s (R)) ?_ ?_
      · refine W.gen fun K73 hK73 => ?_
        refine W.cond hE rfl (fun hc74 => ?_) (fun hc74 => ?_)
        · replace hq67 := iteT hc74 hq67
          refine W.seq ?_
          refine W.region ?_
          refine WL.vS hS hE (runs_plain rfl) (Gives.p hE rfl) rfl ?_; clear hE a; intro a hE
          refine WL.vS hS hE (runs_plain rfl) (Gives.shr hE rfl rfl (by decide)) rfl ?_; clear hE a; intro a hE
          refine WL.vS hS hE (runs_plain rfl) (Gives.p hE rfl) rfl ?_; clear hE a; intro a hE
          refine WL.nil ?_
          refine W.region ?_
          refine WL.vS hS hE (runs_plain rfl) (Gives.p hE rfl) rfl ?_; clear hE a; intro a hE
          refine WL.vS hS hE (runs_plain rfl) (Gives.p hE rfl) rfl ?_; clear hE a; intro a hE
          refine WL.vS hS hE (runs_plain rfl) (Gives.p hE rfl) rfl ?_; clear hE a; intro a hE
          refine WL.nil ?_
          subst hK73
          exact ⟨Int.fdiv q63 (2 ^ (min (Int.toNat 8) (IntKind.bits .u64))), w64 (q64 + 8), hq67, hE.pick _ ⟨rfl, rfl, trivial⟩, hS⟩
        · replace hq67 := iteF hc74 hq67
          refine W.skip ?_
          subst hK73
          exact ⟨q63, q64, hq67, hE.pick _ ⟨rfl, rfl, trivial⟩, hS⟩
      · clear hE hS a w; rintro a w ⟨q71, q72, rfl, hE, hS⟩
        dsimp only at hr
        refine W.seq ?_
        refine W.region ?_
        refine WL.vS hS hE (runs_plain rfl) (Gives.p hE rfl) rfl ?_; clear hE a; intro a hE
        refine WL.vS hS hE (runs_plain rfl) (Gives.p hE rfl) rfl ?_; clear hE a; intro a hE
        refine WL.vS hS hE (runs_plain rfl) (Gives.conv hE rfl hu176 ui5) rfl ?_; clear hE a; intro a hE
        obtain ⟨x75, hx76, hr⟩ := bindS hr
        refine WL.vS hS hE (runs_plain rfl) (Gives.idxS hE st9 rfl rfl hx76) rfl ?_; clear hE a; intro a hE
        refine WL.vS hS hE (runs_plain rfl) (Gives.conv hE rfl hu5 ui3) rfl ?_; clear hE a; intro a hE
        refine WL.vS hS hE (runs_plain rfl) (Gives.p hE rfl) rfl ?_; clear hE a; intro a hE
        refine WL.vS hS hE (runs_plain rfl) (Gives.p hE rfl) rfl ?_; clear hE a; intro a hE
        refine WL.nil ?_
        refine W.ret ?_
        refine finG (fn := Try.f137) (rs := [.tmp 2]) (vs := [_]) hE rfl ⟨rfl, trivial⟩ ?_
        obtain rfl := Option.some.inj hr
        exact ⟨rfl, hS⟩
set_option maxHeartbeats 8000000 in
theorem MathBitsLen_ok  {w : World} {s : Sg} {R : List HP} {x0 : Int} (hS : St w s (R))  {r : Int} (hr : MathBitsLen x0 = some r) :
    Calls Try.prog 105 [.int .u64 x0].toArray w (fun e w => e = .returned (.int .i64 r) ∧ St w s (R)) := by
  refine enter Try.func105 rfl rfl rfl fun a hE => ?_
  rw [MathBitsLen] at hr
  refine W.seq ?_
  refine W.region ?_
  refine WL.vS hS hE (runs_plain rfl) (Gives.p hE rfl) rfl ?_; clear hE a; intro a hE
  refine WL.nil ?_
  refine W.seq ?_
  refine W.condF hE rfl rfl ?_
  refine W.skip ?_
  refine W.seq ?_
  refine W.region ?_
  refine WL.vS hS hE (runs_plain rfl) (Gives.p hE rfl) rfl ?_; clear hE a; intro a hE
  obtain ⟨q51, hq52, hr⟩ := bindS hr
  have hc_ := MathBitsLen64_ok hS  hq52
  refine WL.fnq hE (hc_) (runs_plain rfl) bd137 rfl rfl rfl ?_
  clear hE hS hc_; rintro e w ⟨rfl, hS⟩; refine ⟨_, rfl, ?_⟩; clear a; intro a hE
  refine WL.vS hS hE (runs_plain rfl) (Gives.p hE rfl) rfl ?_; clear hE a; intro a hE
  refine WL.nil ?_
  refine W.ret ?_
  refine finG (fn := Try.f105) (rs := [.tmp 2]) (vs := [_]) hE rfl ⟨rfl, trivial⟩ ?_
  obtain rfl := Option.some.inj hr
  exact ⟨rfl, hS⟩
set_option maxHeartbeats 8000000 in
theorem CmpisNaNint_ok  {w : World} {s : Sg} {R : List HP} {x0 : Int} (hS : St w s (R))  {r : Bool} (hr : CmpisNaNint x0 = r) :
    Calls Try.prog 97 [.int .i64 x0].toArray w (fun e w => e = .returned (.bool r) ∧ St w s (R)) := by
  refine enter Try.func97 rfl rfl rfl fun a hE => ?_
  rw [CmpisNaNint] at hr
  refine W.seq ?_
  refine W.region ?_
  refine WL.vS hS hE (runs_plain rfl) (Gives.p hE rfl) rfl ?_; clear hE a; intro a hE
  refine WL.nil ?_
  refine W.seq ?_
  refine W.region ?_
  refine WL.vS hS hE (runs_plain rfl) (Gives.p hE rfl) rfl ?_; clear hE a; intro a hE
  refine WL.vS hS hE (runs_plain rfl) (Gives.p hE rfl) rfl ?_; clear hE a; intro a hE
  refine WL.vS hS hE (runs_plain rfl) (Gives.p hE rfl) rfl ?_; clear hE a; intro a hE
  refine WL.vS hS hE (runs_plain rfl) (Gives.p hE rfl) rfl ?_; clear hE a; intro a hE
  refine WL.nil ?_
  refine W.ret ?_
  refine finG (fn := Try.f97) (rs := [.tmp 2]) (vs := [_]) hE rfl ⟨rfl, trivial⟩ ?_
  subst hr
  exact ⟨rfl, hS⟩
set_option maxHeartbeats 8000000 in
theorem CmpCompareint_ok  {w : World} {s : Sg} {R : List HP} {x0 : Int} {x1 : Int} (hS : St w s (R))  {r : Int} (hr : CmpCompareint x0 x1 = r) :
    Calls Try.prog 56 [.int .i64 x0, .int .i64 x1].toArray w (fun e w => e = .returned (.int .i64 r) ∧ St w s (R)) := by
  refine enter Try.func56 rfl rfl rfl fun a hE => ?_
  rw [CmpCompareint] at hr
  refine W.seq ?_
  refine W.region ?_
  refine WL.vS hS hE (runs_plain rfl) (Gives.p hE rfl) rfl ?_; clear hE a; intro a hE
  refine WL.nil ?_
  refine W.seq ?_
  refine W.region ?_
  refine WL.vS hS hE (runs_plain rfl) (Gives.p hE rfl) rfl ?_; clear hE a; intro a hE
  refine WL.fnq hE (CmpisNaNint_ok hS  rfl (r := CmpisNaNint x0)) (runs_plain rfl) bd97 rfl rfl rfl ?_
  clear hE hS; rintro e w ⟨rfl, hS⟩; refine ⟨_, rfl, ?_⟩; clear a; intro a hE
  refine WL.vS hS hE (runs_plain rfl) (Gives.p hE rfl) rfl ?_; clear hE a; intro a hE
  refine WL.nil ?_
  refine W.seq ?_
  refine W.region ?_
  refine WL.vS hS hE (runs_plain rfl) (Gives.p hE rfl) rfl ?_; clear hE a; intro a hE
  refine WL.fnq hE (CmpisNaNint_ok hS  rfl (r := CmpisNaNint x1)) (runs_plain rfl) bd97 rfl rfl rfl ?_
  clear hE hS; rintro e w ⟨rfl, hS⟩; refine ⟨_, rfl, ?_⟩; clear a; intro a hE
  refine WL.vS hS hE (runs_plain rfl) (Gives.p hE rfl) rfl ?_; clear hE a; intro a hE
  refine WL.nil ?_
  refine W.seq ?_
  refine W.seq ?_
  refine W.region ?_
  refine WL.vS hS hE (runs_plain rfl) (Gives.p hE rfl) rfl ?_; clear hE a; intro a hE
  refine WL.nil ?_
  refine W.cond hE rfl (fun hc51 => ?_) (fun hc51 => ?_)
  · replace hr := iteT hc51 hr
    refine W.seq ?_
    refine W.seq ?_
    refine W.region ?_
    refine WL.vS hS hE (runs_plain rfl) (Gives.p hE rfl) rfl ?_; clear hE a; intro a hE
    refine WL.nil ?_
    refine W.cond hE rfl (fun hc52 => ?_) (fun hc52 => ?_)
    · replace hr := iteT hc52 hr
      refine W.seq ?_
      refine W.region ?_
      refine WL.vS hS hE (runs_plain rfl) (Gives.p hE rfl) rfl ?_; clear hE a; intro a hE
      refine WL.nil ?_
      refine W.ret ?_
      refine finG (fn := Try.f56) (rs := [.tmp 4]) (vs := [_]) hE rfl ⟨rfl, trivial⟩ ?_
      subst hr
      exact ⟨rfl, hS⟩
    · replace hr := iteF hc52 hr
      refine W.skip ?_
      refine W.seq ?_
      refine W.region ?_
      refine WL.vS hS hE (runs_plain rfl) (Gives.p hE rfl) rfl ?_; clear hE a; intro a hE
      refine WL.nil ?_
      refine W.ret ?_
      refine finG (fn := Try.f56) (rs := [.tmp 4]) (vs := [_]) hE rfl ⟨rfl, trivial⟩ ?_
      subst hr
      exact ⟨rfl, hS⟩
  · replace hr := iteF hc51 hr
    refine W.skip ?_
    refine W.seq ?_
    refine W.seq ?_
    refine W.region ?_
    refine WL.vS hS hE (runs_plain rfl) (Gives.p hE rfl) rfl ?_; clear hE a; intro a hE
    refine WL.nil ?_
    refine W.cond hE rfl (fun hc53 => ?_) (fun hc53 => ?_)
    · replace hr := iteT hc53 hr
      refine W.seq ?_
      refine W.region ?_
      refine WL.vS hS hE (runs_plain rfl) (Gives.p hE rfl) rfl ?_; clear hE a; intro a hE
      refine WL.nil ?_
      refine W.ret ?_
      refine finG (fn := Try.f56) (rs := [.tmp 4]) (vs := [_]) hE rfl ⟨rfl, trivial⟩ ?_
      subst hr
      exact ⟨rfl, hS⟩
    · replace hr := iteF hc53 hr
      refine W.skip ?_
      refine W.seq ?_
      refine W.seq ?_
      refine W.region ?_
      refine WL.vS hS hE (runs_plain rfl) (Gives.p hE rfl) rfl ?_; clear hE a; intro a hE
      refine WL.vS hS hE (runs_plain rfl) (Gives.p hE rfl) rfl ?_; clear hE a; intro a hE
      refine WL.vS hS hE (runs_plain rfl) (Gives.p hE rfl) rfl ?_; clear hE a; intro a hE
      refine WL.nil ?_
      refine W.cond hE rfl (fun hc54 => ?_) (fun hc54 => ?_)
      · replace hr := iteT hc54 hr
        refine W.seq ?_
        refine W.region ?_
        refine WL.vS hS hE (runs_plain rfl) (Gives.p hE rfl) rfl ?_; clear hE a; intro a hE
        refine WL.nil ?_
        refine W.ret ?_
        refine finG (fn := Try.f56) (rs := [.tmp 4]) (vs := [_]) hE rfl ⟨rfl, trivial⟩ ?_
        subst hr
        exact ⟨rfl, hS⟩
      · replace hr := iteF hc54 hr
        refine W.skip ?_
        refine W.seq ?_
        refine W.seq ?_
        refine W.region ?_
        refine WL.vS hS hE (runs_plain rfl) (Gives.p hE rfl) rfl ?_; clear hE a; intro a hE
        refine WL.vS hS hE (runs_plain rfl) (Gives.p hE rfl) rfl ?_; clear hE a; intro a hE
        refine WL.vS hS hE (runs_plain rfl) (Gives.p hE rfl) rfl ?_; clear hE a; intro a hE
        refine WL.nil ?_
        refine W.cond hE rfl (fun hc55 => ?_) (fun hc55 => ?_)
        · replace hr := iteT hc55 hr
          refine W.seq ?_
          refine W.region ?_
          refine WL.vS hS hE (runs_plain rfl) (Gives.p hE rfl) rfl ?_; clear hE a; intro a hE
          refine WL.nil ?_
          refine W.ret ?_
          refine finG (fn := Try.f56) (rs := [.tmp 4]) (vs := [_]) hE rfl ⟨rfl, trivial⟩ ?_
          subst hr
          exact ⟨rfl, hS⟩
        · replace hr := iteF hc55 hr
          refine W.skip ?_
          refine W.seq ?_
          refine W.region ?_
          refine WL.vS hS hE (runs_plain rfl) (Gives.p hE rfl) rfl ?_; clear hE a; intro a hE
          refine WL.nil ?_
          refine W.ret ?_
          refine finG (fn := Try.f56) (rs := [.tmp 4]) (vs := [_]) hE rfl ⟨rfl, trivial⟩ ?_
          subst hr
          exact ⟨rfl, hS⟩
set_option maxHeartbeats 8000000 in
theorem CmpOrint_ok  {w : World} {s : Sg} {R : List HP} {x0 : List Int} {a0 : Option Addr} {c0 : Nat} (hS : St w s (R)) (h0 : Sl 1 (RI .i64) s a0 c0 x0) {r : Int} (hr : CmpOrint x0 = r) :
    Calls Try.prog 55 [.slice a0 x0.length c0].toArray w (fun e w => e = .returned (.int .i64 r) ∧ St w s (R)) := by
  refine enter Try.func55 rfl rfl rfl fun a hE => ?_
  rw [CmpOrint] at hr
  refine W.seq ?_
  refine W.region ?_
  refine WL.vS hS hE (runs_plain rfl) (Gives.p hE rfl) rfl ?_; clear hE a; intro a hE
  refine WL.nil ?_
  refine W.seq ?_
  refine W.region ?_
  refine WL.vS hS hE (runs_plain rfl) (Gives.p hE rfl) rfl ?_; clear hE a; intro a hE
  refine WL.nil ?_
  refine W.seq ?_
  refine W.seq ?_
  refine W.region ?_
  refine WL.vS hS hE (runs_plain rfl) (Gives.p hE rfl) rfl ?_; clear hE a; intro a hE
  refine WL.vS hS hE (runs_plain rfl) (Gives.len hE rfl sl41) rfl ?_; clear hE a; intro a hE
  refine WL.vS hS hE (runs_plain rfl) (Gives.p hE rfl) rfl ?_; clear hE a; intro a hE
  refine WL.nil ?_
  obtain ⟨q52, hq51, hr⟩ := bndS hr
  refine W.cut (fun a w => (.next ()) = q52 ∧ Rep a 18 [(3, .int .i64 0)] ∧ St w s (R)) ?_ ?_
  · refine W.block ?_
    refine W.loop (fun m a w => ∃ (rest55 : List Int) (k53 : Nat), rest55.length = m ∧ x0.drop k53 = rest55 ∧ CmpOrint.loop1 rest55 = q52 ∧ Rep a 18 [(3, .int .i64 0), (6, .slice a0 x0.length c0), (7, .int .i64 ((x0).length : Int)), (8, .int .i64 ((k53 : Nat) : Int))] ∧ St w s (R)) (m := x0.length) ⟨x0, 0, rfl, rfl, hq51, hE.pick _ ⟨rfl, rfl, rfl, rfl, trivial⟩, hS⟩ ?_
    clear hE hS a w hq51; rintro m59 a w ⟨rest55, k53, rfl, hd56, hq51, hE, hS⟩
    refine W.gen fun K62 hK62 => ?_
    rcases rest55 with _ | ⟨x54, rest55⟩
    · have hlt57 := drop_nil hd56
      refine W.seq ?_
      refine W.region ?_
      refine WL.vS hS hE (runs_plain rfl) (Gives.p hE rfl) rfl ?_; clear hE a; intro a hE
      refine WL.nil ?_
      refine W.seq ?_
      refine W.condF hE rfl (decide_eq_false (by omega)) ?_
      subst hK62
      refine W.exit rfl ?_
      exact ⟨hq51, hE.pick _ ⟨rfl, trivial⟩, hS⟩
    · obtain ⟨hlt57, hx58, hd56⟩ := drop_cons hd56
      rw [CmpOrint.loop1] at hq51
      refine W.seq ?_
      refine W.region ?_
      refine WL.vS hS hE (runs_plain rfl) (Gives.p hE rfl) rfl ?_; clear hE a; intro a hE
      refine WL.nil ?_
      refine W.seq ?_
      refine W.condT hE rfl (decide_eq_true (by omega)) ?_
      refine W.skip ?_
      refine W.seq ?_
      refine W.block ?_
      refine W.seq ?_
      refine W.region ?_
      obtain ⟨cs63, hl64, hR65, hat66⟩ := h0.at hx58
      subst hR65
      refine WL.vS hS hE (runs_plain rfl) (Gives.idx hE k53 rfl rfl sl41 rfl hlt57 (h0.aok hlt57)) rfl ?_; clear hE a; intro a hE
      refine WL.vS hS hE (runs_plain rfl) (Gives.load1 hE rfl (fun w h => hat66 w _ h) ty3) rfl ?_; clear hE a; intro a hE
      refine WL.vS hS hE (runs_plain rfl) (Gives.p hE rfl) rfl ?_; clear hE a; intro a hE
      refine WL.nil ?_
      refine W.seq ?_
      refine W.region ?_
      refine WL.vS hS hE (runs_plain rfl) (Gives.p hE rfl) rfl ?_; clear hE a; intro a hE
      refine WL.vS hS hE (runs_plain rfl) (Gives.p hE rfl) rfl ?_; clear hE a; intro a hE
      refine WL.vS hS hE (runs_plain rfl) (Gives.p hE rfl) rfl ?_; clear hE a; intro a hE
      refine WL.nil ?_
      refine W.cond hE rfl (fun hc67 => ?_) (fun hc67 => ?_)
      · replace hq51 := iteT hc67 hq51
        refine W.seq ?_
        refine W.region ?_
        refine WL.vS hS hE (runs_plain rfl) (Gives.p hE rfl) rfl ?_; clear hE a; intro a hE
        refine WL.vS hS hE (runs_plain rfl) (Gives.p hE rfl) rfl ?_; clear hE a; intro a hE
        refine WL.nil ?_
        refine W.ret ?_
        subst hK62
        rw [← hq51] at hr
        dsimp only at hr
        refine finG (fn := Try.f55) (rs := [.tmp 2]) (vs := [_]) hE rfl ⟨rfl, trivial⟩ ?_
        subst hr
        exact ⟨rfl, hS⟩
      · replace hq51 := iteF hc67 hq51
        refine W.skip ?_
        refine W.region ?_
        refine WL.vS hS hE (runs_plain rfl) (Gives.inc hE rfl (by have := h0.small; omega)) rfl ?_; clear hE a; intro a hE
        refine WL.vS hS hE (runs_plain rfl) (Gives.p hE rfl) rfl ?_; clear hE a; intro a hE
        refine WL.nil ?_
        subst hK62
        exact ⟨rest55.length, Nat.lt_succ_self _, rest55, k53 + 1, rfl, hd56, hq51, hE.pick _ ⟨rfl, rfl, rfl, rfl, trivial⟩, hS⟩
  · clear hE hS a w; rintro a w ⟨rfl, hE, hS⟩
    dsimp only at hr
    refine W.seq ?_
    refine W.region ?_
    refine WL.vS hS hE (runs_plain rfl) (Gives.p hE rfl) rfl ?_; clear hE a; intro a hE
    refine WL.vS hS hE (runs_plain rfl) (Gives.p hE rfl) rfl ?_; clear hE a; intro a hE
    refine WL.nil ?_
    refine W.ret ?_
    refine finG (fn := Try.f55) (rs := [.tmp 2]) (vs := [_]) hE rfl ⟨rfl, trivial⟩ ?_
    subst hr
    exact ⟨rfl, hS⟩
set_option maxHeartbeats 8000000 in
theorem FareSettle_2_ok  {w : World} {s : Sg} {R : List HP} {x0 : FarePayment} {x1 : FarePayment} (hS : St w s (R))  {r : Int} (hr : FareSettle_2 x0 x1 = r) :
    Calls Try.prog 80 [.agg (FarePayment.cells x0).toArray, .agg (FarePayment.cells x1).toArray].toArray w (fun e w => e = .returned (.int .i64 r) ∧ St w s (R)) := by
  refine enter Try.func80 rfl rfl rfl fun a hE => ?_
  rw [FareSettle_2] at hr
  refine W.seq ?_
  refine W.region ?_
  refine WL.box hE hS (runs_plain rfl) rfl rfl rfl ?_; clear hE hS a w; intro b51 a w hE hS
  refine WL.box hE hS (runs_plain rfl) rfl rfl rfl ?_; clear hE hS a w; intro b52 a w hE hS
  refine WL.vS hS hE (runs_plain rfl) (Gives.p hE rfl) rfl ?_; clear hE a; intro a hE
  refine WL.nil ?_
  refine W.seq ?_
  refine W.gen fun K53 hK53 => ?_
  refine W.regionE (sel (fun w => St w s (pt b52 (.cells (FarePayment.cells x1).toArray 65 (0, 0)) :: pt b51 (.cells (FarePayment.cells x0).toArray 65 (0, 0)) :: R)) (fun w => St w s (pt b52 (.cells (FarePayment.cells x1).toArray 65 (0, 0)) :: pt b51 (.cells (FarePayment.cells x0).toArray 65 (0, 0)) :: R))) (fun b i => cond b ([0, 1, 2, 3, 4, 5, 6, 7, 8, 9, 10, 11, 12].contains i) ([0, 1, 2, 3, 4, 5, 6, 7, 8, 9, 10, 11, 12].contains i)) mixed ?_
  replace hS := hS.drew
  refine Rg.takeP (i := 0) hE rfl (by kernel_rfl) (runs_plain rfl) (Gives.fld hE rfl fl65_0) rfl (tw_sel (fun _ => hS) (fun _ => hS)) ?_; clear hE a; intro a hE
  have hT := tw_sel (A := fun w => St w s (pt b52 (.cells (FarePayment.cells x1).toArray 65 (0, 0)) :: pt b51 (.cells (FarePayment.cells x0).toArray 65 (0, 0)) :: R)) (B := fun w => St w s (pt b52 (.cells (FarePayment.cells x1).toArray 65 (0, 0)) :: pt b51 (.cells (FarePayment.cells x0).toArray 65 (0, 0)) :: R)) (w := _) (x := true) (y := true) (fun _ => hS) (fun _ => hS)
  have hF := hS; replace hS := hS
  refine Rg.take (i := 1) true rfl hE rfl (by kernel_rfl) (runs_plain rfl) (Gives.loadB hE 1 rfl rfl rfl ty3) rfl hT ?_; clear hE a; intro a hE
  replace hS := hF; clear hF hT
  refine Rg.takeP (i := 2) hE rfl (by kernel_rfl) (runs_plain rfl) (Gives.fld hE rfl fl65_0) rfl (tw_sel (fun _ => hS) (fun _ => hS)) ?_; clear hE a; intro a hE
  have hT := tw_sel (A := fun w => St w s (pt b52 (.cells (FarePayment.cells x1).toArray 65 (0, 0)) :: pt b51 (.cells (FarePayment.cells x0).toArray 65 (0, 0)) :: R)) (B := fun w => St w s (pt b52 (.cells (FarePayment.cells x1).toArray 65 (0, 0)) :: pt b51 (.cells (FarePayment.cells x0).toArray 65 (0, 0)) :: R)) (w := _) (x := true) (y := true) (fun _ => hS) (fun _ => hS)
  have hF := hS; replace hS := hS
  refine Rg.take (i := 3) true rfl hE rfl (by kernel_rfl) (runs_plain rfl) (Gives.loadB hE 0 rfl rfl rfl ty3) rfl hT ?_; clear hE a; intro a hE
  replace hS := hF; clear hF hT
  refine Rg.takeP (i := 5) hE rfl (by kernel_rfl) (runs_plain rfl) (Gives.fld hE rfl fl65_1) rfl (tw_sel (fun _ => hS) (fun _ => hS)) ?_; clear hE a; intro a hE
  have hT := tw_sel (A := fun w => St w s (pt b52 (.cells (FarePayment.cells x1).toArray 65 (0, 0)) :: pt b51 (.cells (FarePayment.cells x0).toArray 65 (0, 0)) :: R)) (B := fun w => St w s (pt b52 (.cells (FarePayment.cells x1).toArray 65 (0, 0)) :: pt b51 (.cells (FarePayment.cells x0).toArray 65 (0, 0)) :: R)) (w := _) (x := true) (y := true) (fun _ => hS) (fun _ => hS)
  have hF := hS; replace hS := hS
  refine Rg.take (i := 6) true rfl hE rfl (by kernel_rfl) (runs_plain rfl) (Gives.loadB hE 1 rfl rfl rfl ty3) rfl hT ?_; clear hE a; intro a hE
  replace hS := hF; clear hF hT
  refine Rg.takeP (i := 7) hE rfl (by kernel_rfl) (runs_plain rfl) (Gives.fld hE rfl fl65_1) rfl (tw_sel (fun _ => hS) (fun _ => hS)) ?_; clear hE a; intro a hE
  have hT := tw_sel (A := fun w => St w s (pt b52 (.cells (FarePayment.cells x1).toArray 65 (0, 0)) :: pt b51 (.cells (FarePayment.cells x0).toArray 65 (0, 0)) :: R)) (B := fun w => St w s (pt b52 (.cells (FarePayment.cells x1).toArray 65 (0, 0)) :: pt b51 (.cells (FarePayment.cells x0).toArray 65 (0, 0)) :: R)) (w := _) (x := true) (y := true) (fun _ => hS) (fun _ => hS)
  have hF := hS; replace hS := hS
  refine Rg.take (i := 8) true rfl hE rfl (by kernel_rfl) (runs_plain rfl) (Gives.loadB hE 0 rfl rfl rfl ty3) rfl hT ?_; clear hE a; intro a hE
  replace hS := hF; clear hF hT
  refine Rg.one (i := 4) true true rfl (by kernel_rfl) (by kernel_rfl) (by kernel_rfl) ?_
  refine WL.fnq hE (CmpCompareint_ok hS  rfl (r := CmpCompareint x0.From x1.From)) (runs_plain rfl) bd56 rfl rfl rfl ?_
  clear hE hS; rintro e w ⟨rfl, hS⟩; refine ⟨_, rfl, ?_⟩; clear a; intro a hE
  refine WL.nil ?_
  refine ⟨⟨fun _ => hS, fun _ => hS⟩, ?_⟩
  refine Rg.one (i := 9) true true rfl (by kernel_rfl) (by kernel_rfl) (by kernel_rfl) ?_
  refine WL.fnq hE (CmpCompareint_ok hS  rfl (r := CmpCompareint x0.To x1.To)) (runs_plain rfl) bd56 rfl rfl rfl ?_
  clear hE hS; rintro e w ⟨rfl, hS⟩; refine ⟨_, rfl, ?_⟩; clear a; intro a hE
  refine WL.nil ?_
  refine ⟨⟨fun _ => hS, fun _ => hS⟩, ?_⟩
  refine Rg.one (i := 10) true true rfl (by kernel_rfl) (by kernel_rfl) (by kernel_rfl) ?_
  refine WL.lit hE hS (e := 3) (es := 1) (vs := [(0, .int .i64 (CmpCompareint x0.From x1.From)), (1, .int .i64 (CmpCompareint x0.To x1.To))]) (cs := [.int .i64 (CmpCompareint x0.From x1.From), .int .i64 (CmpCompareint x0.To x1.To)]) (runs_plain rfl) rfl (by kernel_rfl) rfl ?_; clear hE hS a w; intro b54 a w hE hS
  replace hS := hS.ptVec (es := 1) (m := 2) rfl (by decide)
  have h56 : Ev 1 (RI .i64) s [.int .i64 (CmpCompareint x0.From x1.From), .int .i64 (CmpCompareint x0.To x1.To)] [(CmpCompareint x0.From x1.From), (CmpCompareint x0.To x1.To)] := (Ev.cons (c1 := [.int .i64 (CmpCompareint x0.From x1.From)]) rfl rfl (Ev.cons (c1 := [.int .i64 (CmpCompareint x0.To x1.To)]) rfl rfl (Ev.nil)))
  have hF := hS.fixD RI.mono 0 rfl h56 (rfl); clear hS; obtain ⟨s57, hle58, hS, h59⟩ := hF
  refine WL.nil ?_
  refine ⟨⟨fun _ => (St.down hle58 hS), fun _ => (St.down hle58 hS)⟩, ?_⟩
  refine Rg.one (i := 11) true true rfl (by kernel_rfl) (by kernel_rfl) (by kernel_rfl) ?_
  refine WL.fnq hE (CmpOrint_ok hS h59 rfl (r := CmpOrint [(CmpCompareint x0.From x1.From), (CmpCompareint x0.To x1.To)])) (runs_plain rfl) bd55 rfl rfl rfl ?_
  clear hE hS; rintro e w ⟨rfl, hS⟩; refine ⟨_, rfl, ?_⟩; clear a; intro a hE
  refine WL.nil ?_
  refine ⟨⟨fun _ => (St.down hle58 hS), fun _ => (St.down hle58 hS)⟩, ?_⟩
  refine Rg.takeP (i := 12) hE rfl (by kernel_rfl) (runs_plain rfl) (Gives.p hE rfl) rfl (tw_sel (fun _ => (St.down hle58 hS)) (fun _ => (St.down hle58 hS))) ?_; clear hE a; intro a hE
  refine Rg.done (by kernel_rfl) ?_
  subst hK53
  refine W.ret ?_
  refine finG (fn := Try.f80) (rs := [.tmp 4]) (vs := [_]) hE rfl ⟨rfl, trivial⟩ ?_
  subst hr
  replace hS := hS.tail
  replace hS := hS.tail
  exact ⟨rfl, (hS.down hle58)⟩
set_option maxHeartbeats 8000000 in
theorem SlicesinsertionSortCmpFuncfarePayment_v1_ok {fu : Nat}  {w : World} {s : Sg} {R : List HP} {x0 : List FarePayment} {a_v0 : Option Addr} {c_v0 n_v0 : Nat} {cs_v0 : List Value} {x1 : Int} {x2 : Int} (hS : St w s (vecC 65 3 a_v0 c_v0 n_v0 cs_v0 :: R)) (h_v0 : Ev 3 RFarePayment s cs_v0 x0) (hn_v0 : x0.length = n_v0) {r : (List FarePayment)} (hr : SlicesinsertionSortCmpFuncfarePayment_v1 fu x0 x1 x2 = some r) :
    Calls Try.prog 128 [.slice a_v0 n_v0 c_v0, .int .i64 x1, .int .i64 x2, .func (.func 80) #[] #[]].toArray w (fun e w => ∃ (cs55 : List Value), e = .returned (.tuple #[]) ∧ Ev 3 RFarePayment s cs55 r ∧ r.length = n_v0 ∧ St w s (vecC 65 3 a_v0 c_v0 n_v0 cs55 :: R)) := by
  refine enter Try.func128 rfl rfl rfl fun a hE => ?_
  rw [SlicesinsertionSortCmpFuncfarePayment_v1] at hr
  subst hn_v0
  refine W.seq ?_
  refine W.region ?_
  refine WL.vS hS hE (runs_plain rfl) (Gives.p hE rfl) rfl ?_; clear hE a; intro a hE
  refine WL.vS hS hE (runs_plain rfl) (Gives.p hE rfl) rfl ?_; clear hE a; intro a hE
  refine WL.vS hS hE (runs_plain rfl) (Gives.p hE rfl) rfl ?_; clear hE a; intro a hE
  refine WL.nil ?_
  obtain ⟨q58, hq57, hr⟩ := bindS hr
  refine W.cut (fun a w => ∃ (q63 : Int), ∃ (q64 : List FarePayment), ∃ (cs68 : List Value), (q63, q64) = q58 ∧ Ev 3 RFarePayment s cs68 q64 ∧ q64.length = x0.length ∧ Rep a 53 [] ∧ St w s (vecC 65 3 a_v0 c_v0 x0.length cs68 :: R)) ?_ ?_
  · refine W.block ?_
    refine W.loop (fun m a w => ∃ (n59 : Nat), ∃ (q63 : Int), ∃ (q64 : List FarePayment), ∃ (cs68 : List Value), n59 = m ∧ SlicesinsertionSortCmpFuncfarePayment_v1.loop1 x1 x2 fu n59 q63 q64 = some q58 ∧ Ev 3 RFarePayment s cs68 q64 ∧ q64.length = x0.length ∧ Rep a 53 [(0, .slice a_v0 x0.length c_v0), (1, .int .i64 x1), (2, .int .i64 x2), (3, .func (.func 80) #[] #[]), (8, .int .i64 q63)] ∧ St w s (vecC 65 3 a_v0 c_v0 x0.length cs68 :: R)) (m := fu) ⟨fu, (w64 (x1 + 1)), x0, cs_v0, rfl, hq57, h_v0, (rfl), hE.pick _ ⟨rfl, rfl, rfl, rfl, rfl, trivial⟩, hS⟩ ?_
    clear hE hS a w hq57; rintro m60 a w ⟨n59, q63, q64, cs68, rfl, hq57, h67, hn69, hE, hS⟩
    refine W.gen fun K70 hK70 => ?_
    rcases n59 with _ | n59
    · rw [SlicesinsertionSortCmpFuncfarePayment_v1.loop1] at hq57; exact absurd hq57 (by simp)
    rw [SlicesinsertionSortCmpFuncfarePayment_v1.loop1] at hq57
    refine W.seq ?_
    refine W.seq ?_
    refine W.region ?_
    refine WL.vS hS hE (runs_plain rfl) (Gives.p hE rfl) rfl ?_; clear hE a; intro a hE
    refine WL.vS hS hE (runs_plain rfl) (Gives.p hE rfl) rfl ?_; clear hE a; intro a hE
    refine WL.vS hS hE (runs_plain rfl) (Gives.p hE rfl) rfl ?_; clear hE a; intro a hE
    refine WL.nil ?_
    refine W.cond hE rfl (fun hc71 => ?_) (fun hc71 => ?_)
    · replace hq57 := iteT hc71 hq57
      refine W.skip ?_
      refine W.seq ?_
      refine W.block ?_
      refine W.seq ?_
      refine W.region ?_
      refine WL.vS hS hE (runs_plain rfl) (Gives.p hE rfl) rfl ?_; clear hE a; intro a hE
      refine WL.vS hS hE (runs_plain rfl) (Gives.p hE rfl) rfl ?_; clear hE a; intro a hE
      refine WL.nil ?_
      obtain ⟨q73, hq72, hq57⟩ := bindS hq57
      refine W.cut (fun a w => ∃ (q78 : Int), ∃ (q79 : List FarePayment), ∃ (cs83 : List Value), (q78, q79) = q73 ∧ Ev 3 RFarePayment s cs83 q79 ∧ q79.length = x0.length ∧ Rep a 53 [(0, .slice a_v0 x0.length c_v0), (1, .int .i64 x1), (2, .int .i64 x2), (3, .func (.func 80) #[] #[]), (8, .int .i64 q63)] ∧ St w s (vecC 65 3 a_v0 c_v0 x0.length cs83 :: R)) ?_ ?_
      · refine W.block ?_
        refine W.loop (fun m a w => ∃ (n74 : Nat), ∃ (q78 : Int), ∃ (q79 : List FarePayment), ∃ (cs83 : List Value), n74 = m ∧ SlicesinsertionSortCmpFuncfarePayment_v1.loop2 x1 n74 q78 q79 = some q73 ∧ Ev 3 RFarePayment s cs83 q79 ∧ q79.length = x0.length ∧ Rep a 53 [(0, .slice a_v0 x0.length c_v0), (1, .int .i64 x1), (2, .int .i64 x2), (3, .func (.func 80) #[] #[]), (8, .int .i64 q63), (9, .int .i64 q78)] ∧ St w s (vecC 65 3 a_v0 c_v0 x0.length cs83 :: R)) (m := fu) ⟨fu, q63, q64, cs68, rfl, hq72, h67, hn69, hE.pick _ ⟨rfl, rfl, rfl, rfl, rfl, rfl, trivial⟩, hS⟩ ?_
        clear hE hS a w hq72; rintro m75 a w ⟨n74, q78, q79, cs83, rfl, hq72, h82, hn84, hE, hS⟩
        refine W.gen fun K85 hK85 => ?_
        rcases n74 with _ | n74
        · rw [SlicesinsertionSortCmpFuncfarePayment_v1.loop2] at hq72; exact absurd hq72 (by simp)
        rw [SlicesinsertionSortCmpFuncfarePayment_v1.loop2] at hq72
        refine W.seq ?_
        refine W.seq ?_
        obtain ⟨q87, hq86, hq72⟩ := bindS hq72
        refine W.cut (fun a w => ∃ (q90 : Bool), q90 = q87 ∧ Rep a 53 [(0, .slice a_v0 x0.length c_v0), (1, .int .i64 x1), (2, .int .i64 x2), (3, .func (.func 80) #[] #[]), (8, .int .i64 q63), (9, .int .i64 q78), (34, .bool q90)] ∧ St w s (vecC 65 3 a_v0 c_v0 x0.length cs83 :: R)) ?_ ?_
        · refine W.gen fun K91 hK91 => ?_
          refine W.regionQ (C := fun w => St w s (vecC 65 3 a_v0 c_v0 x0.length cs83 :: R)) mixed (by kernel_rfl) hS.drew ?_
          refine QL.v hE (runs_plain rfl) (Gives.p hE rfl) rfl ?_; clear hE a; intro a hE
          refine QL.v hE (runs_plain rfl) (Gives.p hE rfl) rfl ?_; clear hE a; intro a hE
          refine QL.v hE (runs_plain rfl) (Gives.p hE rfl) rfl ?_; clear hE a; intro a hE
          refine QL.v hE (runs_plain rfl) (Gives.p hE rfl) rfl ?_; clear hE a; intro a hE
          rcases Bool.eq_false_or_eq_true (decide (q78 > x1)) with hg92 | hg92
          · replace hq86 := iteT hg92 hq86
            refine QL.v hE (runs_if hE rfl rfl rfl hg92) (Gives.p hE rfl) rfl ?_; clear hE a; intro a hE
            refine QL.v hE (runs_if hE rfl rfl rfl hg92) (Gives.p hE rfl) rfl ?_; clear hE a; intro a hE
            refine QL.v hE (runs_if hE rfl rfl rfl hg92) (Gives.p hE rfl) rfl ?_; clear hE a; intro a hE
            obtain ⟨x93, hx94, hq86⟩ := bindS hq86
            obtain ⟨hi95, hlt96, hy97⟩ := gx_some hx94
            obtain ⟨vs98, hl99, hR100, hd101, hget102⟩ := h82.at hy97
            subst hR100
            refine QL.v hE (runs_if hE rfl rfl rfl hg92) (Gives.idx hE ((q78).toNat) rfl rfl sl58 hi95 (by have := hn84; omega) (hS.vecAok 0 rfl (by have := hn84; omega : (q78).toNat < x0.length))) rfl ?_; clear hE a; intro a hE
            refine QL.v hE (runs_if hE rfl rfl rfl hg92) (Gives.loadA hE rfl (fun w h => St.vecSees h 0 rfl ((q78).toNat * 3) _ hget102) ty65) rfl ?_; clear hE a; intro a hE
            refine QL.v hE (runs_if hE rfl rfl rfl hg92) (Gives.p hE rfl) rfl ?_; clear hE a; intro a hE
            refine QL.v hE (runs_if hE rfl rfl rfl hg92) (Gives.p hE rfl) rfl ?_; clear hE a; intro a hE
            refine QL.v hE (runs_if hE rfl rfl rfl hg92) (Gives.p hE rfl) rfl ?_; clear hE a; intro a hE
            obtain ⟨x103, hx104, hq86⟩ := bindS hq86
            obtain ⟨hi105, hlt106, hy107⟩ := gx_some hx104
            obtain ⟨vs108, hl109, hR110, hd111, hget112⟩ := h82.at hy107
            subst hR110
            refine QL.v hE (runs_if hE rfl rfl rfl hg92) (Gives.idx hE ((w64 (q78 - 1)).toNat) rfl rfl sl58 hi105 (by have := hn84; omega) (hS.vecAok 0 rfl (by have := hn84; omega : (w64 (q78 - 1)).toNat < x0.length))) rfl ?_; clear hE a; intro a hE
            refine QL.v hE (runs_if hE rfl rfl rfl hg92) (Gives.loadA hE rfl (fun w h => St.vecSees h 0 rfl ((w64 (q78 - 1)).toNat * 3) _ hget112) ty65) rfl ?_; clear hE a; intro a hE
            refine QL.fnw hE (fun w hS => FareSettle_2_ok hS  rfl (r := FareSettle_2 x93 x103)) rfl (runs_if hE rfl rfl rfl hg92) bd80 rfl rfl rfl ?_; clear hE a; intro a hE
            refine QL.v hE (runs_if hE rfl rfl rfl hg92) (Gives.p hE rfl) rfl ?_; clear hE a; intro a hE
            refine QL.v hE (runs_plain rfl) (Gives.pickT hE rfl hg92 rfl) rfl ?_; clear hE a; intro a hE
            refine QL.nil ?_; clear hS w; intro w hS
            subst hK91
            exact ⟨decide ((FareSettle_2 x93 x103) < 0), Option.some.inj hq86, hE.pick _ ⟨rfl, rfl, rfl, rfl, rfl, rfl, rfl, trivial⟩, hS⟩
          · replace hq86 := iteF hg92 hq86
            refine QL.no hE (runs_not hE rfl rfl rfl (by rw [hg92]; decide)) rfl ?_; clear hE a; intro a hE
            refine QL.no hE (runs_not hE rfl rfl rfl (by rw [hg92]; decide)) rfl ?_; clear hE a; intro a hE
            refine QL.no hE (runs_not hE rfl rfl rfl (by rw [hg92]; decide)) rfl ?_; clear hE a; intro a hE
            refine QL.no hE (runs_not hE rfl rfl rfl (by rw [hg92]; decide)) rfl ?_; clear hE a; intro a hE
            refine QL.no hE (runs_not hE rfl rfl rfl (by rw [hg92]; decide)) rfl ?_; clear hE a; intro a hE
            refine QL.no hE (runs_not hE rfl rfl rfl (by rw [hg92]; decide)) rfl ?_; clear hE a; intro a hE
            refine QL.no hE (runs_not hE rfl rfl rfl (by rw [hg92]; decide)) rfl ?_; clear hE a; intro a hE
            refine QL.no hE (runs_not hE rfl rfl rfl (by rw [hg92]; decide)) rfl ?_; clear hE a; intro a hE
            refine QL.no hE (runs_not hE rfl rfl rfl (by rw [hg92]; decide)) rfl ?_; clear hE a; intro a hE
            refine QL.no hE (runs_not hE rfl rfl rfl (by rw [hg92]; decide)) rfl ?_; clear hE a; intro a hE
            refine QL.no hE (runs_not hE rfl rfl rfl (by rw [hg92]; decide)) rfl ?_; clear hE a; intro a hE
            refine QL.no hE (runs_not hE rfl rfl rfl (by rw [hg92]; decide)) rfl ?_; clear hE a; intro a hE
            refine QL.v hE (runs_plain rfl) (Gives.pickF hE rfl hg92 rfl) rfl ?_; clear hE a; intro a hE
            refine QL.nil ?_; clear hS w; intro w hS
            subst hK91
            exact ⟨false, Option.some.inj hq86, hE.pick _ ⟨rfl, rfl, rfl, rfl, rfl, rfl, rfl, trivial⟩, hS⟩
        · clear hE hS a w; rintro a w ⟨q90, rfl, hE, hS⟩
          refine W.cond hE rfl (fun hc113 => ?_) (fun hc113 => ?_)
          · replace hq72 := iteT hc113 hq72
            refine W.skip ?_
            refine W.seq ?_
            refine W.block ?_
            refine W.gen fun K114 hK114 => ?_
            refine W.regionE (sel (fun w => St w s (vecC 65 3 a_v0 c_v0 x0.length cs83 :: R)) (fun w => St w s (R))) (fun b i => cond b ([0, 1, 2, 3, 4, 5, 6, 7, 8, 9, 10, 11, 12, 13, 14, 16].contains i) ([0, 1, 2, 3, 4, 5, 6, 7, 8, 9, 10, 11, 12, 13, 14, 15, 16, 17].contains i)) mixed ?_
            replace hS := hS.drew
            refine Rg.takeP (i := 0) hE rfl (by kernel_rfl) (runs_plain rfl) (Gives.p hE rfl) rfl (tw_sel (fun _ => hS) (fun _ => (hS.tail))) ?_; clear hE a; intro a hE
            refine Rg.takeP (i := 1) hE rfl (by kernel_rfl) (runs_plain rfl) (Gives.p hE rfl) rfl (tw_sel (fun _ => hS) (fun _ => (hS.tail))) ?_; clear hE a; intro a hE
            refine Rg.takeP (i := 2) hE rfl (by kernel_rfl) (runs_plain rfl) (Gives.p hE rfl) rfl (tw_sel (fun _ => hS) (fun _ => (hS.tail))) ?_; clear hE a; intro a hE
            refine Rg.takeP (i := 3) hE rfl (by kernel_rfl) (runs_plain rfl) (Gives.p hE rfl) rfl (tw_sel (fun _ => hS) (fun _ => (hS.tail))) ?_; clear hE a; intro a hE
            refine Rg.takeP (i := 4) hE rfl (by kernel_rfl) (runs_plain rfl) (Gives.p hE rfl) rfl (tw_sel (fun _ => hS) (fun _ => (hS.tail))) ?_; clear hE a; intro a hE
            refine Rg.takeP (i := 5) hE rfl (by kernel_rfl) (runs_plain rfl) (Gives.p hE rfl) rfl (tw_sel (fun _ => hS) (fun _ => (hS.tail))) ?_; clear hE a; intro a hE
            refine Rg.takeP (i := 6) hE rfl (by kernel_rfl) (runs_plain rfl) (Gives.p hE rfl) rfl (tw_sel (fun _ => hS) (fun _ => (hS.tail))) ?_; clear hE a; intro a hE
            refine Rg.takeP (i := 7) hE rfl (by kernel_rfl) (runs_plain rfl) (Gives.p hE rfl) rfl (tw_sel (fun _ => hS) (fun _ => (hS.tail))) ?_; clear hE a; intro a hE
            obtain ⟨x115, hx116, hq72⟩ := bindS hq72
            obtain ⟨hi117, hlt118, hy119⟩ := gx_some hx116
            obtain ⟨vs120, hl121, hR122, hd123, hget124⟩ := h82.at hy119
            subst hR122
            refine Rg.takeP (i := 8) hE rfl (by kernel_rfl) (runs_plain rfl) (Gives.idx hE ((w64 (q78 - 1)).toNat) rfl rfl sl58 hi117 (by have := hn84; omega) (hS.vecAok 0 rfl (by have := hn84; omega : (w64 (q78 - 1)).toNat < x0.length))) rfl (tw_sel (fun _ => hS) (fun _ => (hS.tail))) ?_; clear hE a; intro a hE
            have hT := tw_sel (A := fun w => St w s (vecC 65 3 a_v0 c_v0 x0.length cs83 :: R)) (B := fun w => St w s (R)) (w := _) (x := true) (y := true) (fun _ => hS) (fun _ => (hS.tail))
            have hF := hS; replace hS := hS
            refine Rg.take (i := 9) true rfl hE rfl (by kernel_rfl) (runs_plain rfl) (Gives.loadA hE rfl (fun w h => St.vecSees h 0 rfl ((w64 (q78 - 1)).toNat * 3) _ hget124) ty65) rfl hT ?_; clear hE a; intro a hE
            replace hS := hF; clear hF hT
            refine Rg.takeP (i := 10) hE rfl (by kernel_rfl) (runs_plain rfl) (Gives.p hE rfl) rfl (tw_sel (fun _ => hS) (fun _ => (hS.tail))) ?_; clear hE a; intro a hE
            refine Rg.takeP (i := 11) hE rfl (by kernel_rfl) (runs_plain rfl) (Gives.p hE rfl) rfl (tw_sel (fun _ => hS) (fun _ => (hS.tail))) ?_; clear hE a; intro a hE
            obtain ⟨x125, hx126, hq72⟩ := bindS hq72
            obtain ⟨hi127, hlt128, hy129⟩ := gx_some hx126
            obtain ⟨vs130, hl131, hR132, hd133, hget134⟩ := h82.at hy129
            subst hR132
            refine Rg.takeP (i := 12) hE rfl (by kernel_rfl) (runs_plain rfl) (Gives.idx hE ((q78).toNat) rfl rfl sl58 hi127 (by have := hn84; omega) (hS.vecAok 0 rfl (by have := hn84; omega : (q78).toNat < x0.length))) rfl (tw_sel (fun _ => hS) (fun _ => (hS.tail))) ?_; clear hE a; intro a hE
            have hT := tw_sel (A := fun w => St w s (vecC 65 3 a_v0 c_v0 x0.length cs83 :: R)) (B := fun w => St w s (R)) (w := _) (x := true) (y := true) (fun _ => hS) (fun _ => (hS.tail))
            have hF := hS; replace hS := hS
            refine Rg.take (i := 13) true rfl hE rfl (by kernel_rfl) (runs_plain rfl) (Gives.loadA hE rfl (fun w h => St.vecSees h 0 rfl ((q78).toNat * 3) _ hget134) ty65) rfl hT ?_; clear hE a; intro a hE
            replace hS := hF; clear hF hT
            obtain ⟨_, hx136, hq72⟩ := bindS hq72
            obtain ⟨h137, h138⟩ := ix_some hx136
            refine Rg.takeP (i := 14) hE rfl (by kernel_rfl) (runs_plain rfl) (Gives.idx hE ((q78).toNat) rfl rfl sl58 h137 (by have := hn84; omega) (hS.vecAok 0 rfl (by have := hn84; omega : (q78).toNat < x0.length))) rfl (tw_sel (fun _ => hS) (fun _ => (hS.tail))) ?_; clear hE a; intro a hE
            refine Rg.one (i := 15) false true rfl (by kernel_rfl) (by kernel_rfl) (by kernel_rfl) ?_
            obtain ⟨x140, hx141, hq72⟩ := bindS hq72
            refine WL.setD hE hS 0 rfl (runs_plain rfl) rfl rfl (vs := [.int .i64 x115.From, .int .i64 x115.To, .int .i64 x115.Sum]) rfl ty65 rfl rfl rfl h82 hn84 (sx_some hx141).1 hx141 rfl rfl ?_; clear hE hS a w; intro cs142 a w h143 hn144 hE hS
            refine WL.nil ?_
            refine ⟨⟨fun h => absurd h (by decide), fun _ => (hS.tail)⟩, ?_⟩
            obtain ⟨_, hx146, hq72⟩ := bindS hq72
            obtain ⟨h147, h148⟩ := ix_some hx146
            refine Rg.takeP (i := 16) hE rfl (by kernel_rfl) (runs_plain rfl) (Gives.idx hE ((w64 (q78 - 1)).toNat) rfl rfl sl58 h147 (by have := hn144; omega) (hS.vecAok 0 rfl (by have := hn144; omega : (w64 (q78 - 1)).toNat < x0.length))) rfl (tw_sel (fun h => absurd h (by decide)) (fun _ => (hS.tail))) ?_; clear hE a; intro a hE
            refine Rg.one (i := 17) false true rfl (by kernel_rfl) (by kernel_rfl) (by kernel_rfl) ?_
            obtain ⟨x150, hx151, hq72⟩ := bindS hq72
            refine WL.setD hE hS 0 rfl (runs_plain rfl) rfl rfl (vs := [.int .i64 x125.From, .int .i64 x125.To, .int .i64 x125.Sum]) rfl ty65 rfl rfl rfl h143 hn144 (sx_some hx151).1 hx151 rfl rfl ?_; clear hE hS a w; intro cs152 a w h153 hn154 hE hS
            refine WL.nil ?_
            refine ⟨⟨fun h => absurd h (by decide), fun _ => (hS.tail)⟩, ?_⟩
            refine Rg.done (by kernel_rfl) ?_
            subst hK114
            refine W.region ?_
            refine WL.vS hS hE (runs_plain rfl) (Gives.p hE rfl) rfl ?_; clear hE a; intro a hE
            refine WL.vS hS hE (runs_plain rfl) (Gives.p hE rfl) rfl ?_; clear hE a; intro a hE
            refine WL.vS hS hE (runs_plain rfl) (Gives.p hE rfl) rfl ?_; clear hE a; intro a hE
            refine WL.nil ?_
            subst hK85
            exact ⟨n74, Nat.lt_succ_self _, n74, (w64 (q78 - 1)), x150, cs152, rfl, hq72, h153, hn154, hE.pick _ ⟨rfl, rfl, rfl, rfl, rfl, rfl, trivial⟩, hS⟩
          · replace hq72 := iteF hc113 hq72
            subst hK85
            refine W.exit rfl ?_
            exact ⟨q78, q79, cs83, Option.some.inj hq72, h82, hn84, hE.pick _ ⟨rfl, rfl, rfl, rfl, rfl, trivial⟩, hS⟩
      · clear hE hS a w; rintro a w ⟨q78, q79, cs83, rfl, h82, hn84, hE, hS⟩
        dsimp only at hq57
        refine W.region ?_
        refine WL.vS hS hE (runs_plain rfl) (Gives.p hE rfl) rfl ?_; clear hE a; intro a hE
        refine WL.vS hS hE (runs_plain rfl) (Gives.p hE rfl) rfl ?_; clear hE a; intro a hE
        refine WL.vS hS hE (runs_plain rfl) (Gives.p hE rfl) rfl ?_; clear hE a; intro a hE
        refine WL.nil ?_
        subst hK70
        exact ⟨n59, Nat.lt_succ_self _, n59, (w64 (q63 + 1)), q79, cs83, rfl, hq57, h82, hn84, hE.pick _ ⟨rfl, rfl, rfl, rfl, rfl, trivial⟩, hS⟩
    · replace hq57 := iteF hc71 hq57
      subst hK70
      refine W.exit rfl ?_
      exact ⟨q63, q64, cs68, Option.some.inj hq57, h67, hn69, hE.pick _ trivial, hS⟩
  · clear hE hS a w; rintro a w ⟨q63, q64, cs68, rfl, h67, hn69, hE, hS⟩
    dsimp only at hr
    refine finG (fn := Try.f128) (rs := []) (vs := []) hE rfl trivial ?_
    obtain rfl := Option.some.inj hr
    exact ⟨cs68, rfl, h67, hn69, hS⟩
set_option maxHeartbeats 8000000 in
theorem SlicespdqsortCmpFuncfarePayment_v1_ok {fu : Nat}  {w : World} {s : Sg} {R : List HP} {x0 : List FarePayment} {a_v0 : Option Addr} {c_v0 n_v0 : Nat} {cs_v0 : List Value} {x1 : Int} {x2 : Int} {x3 : Int} (hS : St w s (vecC 65 3 a_v0 c_v0 n_v0 cs_v0 :: R)) (h_v0 : Ev 3 RFarePayment s cs_v0 x0) (hn_v0 : x0.length = n_v0) {r : (List FarePayment)} (hr : SlicespdqsortCmpFuncfarePayment_v1 fu x0 x1 x2 x3 = some r) :
    Calls Try.prog 104 [.slice a_v0 n_v0 c_v0, .int .i64 x1, .int .i64 x2, .int .i64 x3, .func (.func 80) #[] #[]].toArray w (fun e w => ∃ (cs55 : List Value), e = .returned (.tuple #[]) ∧ Ev 3 RFarePayment s cs55 r ∧ r.length = n_v0 ∧ St w s (vecC 65 3 a_v0 c_v0 n_v0 cs55 :: R)) := by
  refine enter Try.func104 rfl rfl rfl fun a hE => ?_
  rw [SlicespdqsortCmpFuncfarePayment_v1] at hr
  subst hn_v0
  refine W.seq ?_
  refine W.region ?_
  refine WL.vS hS hE (runs_plain rfl) (Gives.p hE rfl) rfl ?_; clear hE a; intro a hE
  refine WL.nil ?_
  refine W.seq ?_
  refine W.region ?_
  refine WL.vS hS hE (runs_plain rfl) (Gives.p hE rfl) rfl ?_; clear hE a; intro a hE
  refine WL.nil ?_
  obtain ⟨q58, hq57, hr⟩ := bindS hr
  refine W.cut (fun _ _ => False) ?_ ?_
  · refine W.block ?_
    refine W.loop (fun m a w => ∃ (n59 : Nat), ∃ (q63 : Int), ∃ (q64 : Int), ∃ (q65 : Int), ∃ (q66 : Bool), ∃ (q67 : Bool), ∃ (q68 : List FarePayment), ∃ (cs72 : List Value), n59 = m ∧ SlicespdqsortCmpFuncfarePayment_v1.loop1 fu n59 q63 q64 q65 q66 q67 q68 = some q58 ∧ Ev 3 RFarePayment s cs72 q68 ∧ q68.length = x0.length ∧ Rep a 148 [(0, .slice a_v0 x0.length c_v0), (1, .int .i64 q63), (2, .int .i64 q64), (3, .int .i64 q65), (4, .func (.func 80) #[] #[]), (10, .bool q66), (11, .bool q67)] ∧ St w s (vecC 65 3 a_v0 c_v0 x0.length cs72 :: R)) (m := fu) ⟨fu, x1, x2, x3, true, true, x0, cs_v0, rfl, hq57, h_v0, (rfl), hE.pick _ ⟨rfl, rfl, rfl, rfl, rfl, rfl, rfl, trivial⟩, hS⟩ ?_
    clear hE hS a w hq57; rintro m60 a w ⟨n59, q63, q64, q65, q66, q67, q68, cs72, rfl, hq57, h71, hn73, hE, hS⟩
    refine W.gen fun K74 hK74 => ?_
    rcases n59 with _ | n59
    · rw [SlicespdqsortCmpFuncfarePayment_v1.loop1] at hq57; exact absurd hq57 (by simp)
    rw [SlicespdqsortCmpFuncfarePayment_v1.loop1] at hq57
    refine W.block ?_
    refine W.seq ?_
    refine W.region ?_
    refine WL.vS hS hE (runs_plain rfl) (Gives.p hE rfl) rfl ?_; clear hE a; intro a hE
    refine WL.vS hS hE (runs_plain rfl) (Gives.p hE rfl) rfl ?_; clear hE a; intro a hE
    refine WL.vS hS hE (runs_plain rfl) (Gives.p hE rfl) rfl ?_; clear hE a; intro a hE
    refine WL.vS hS hE (runs_plain rfl) (Gives.p hE rfl) rfl ?_; clear hE a; intro a hE
    refine WL.nil ?_
    refine W.seq ?_
    refine W.seq ?_
    refine W.region ?_
    refine WL.vS hS hE (runs_plain rfl) (Gives.p hE rfl) rfl ?_; clear hE a; intro a hE
    refine WL.vS hS hE (runs_plain rfl) (Gives.p hE rfl) rfl ?_; clear hE a; intro a hE
    refine WL.nil ?_
    refine W.cond hE rfl (fun hc75 => ?_) (fun hc75 => ?_)
    · replace hq57 := iteT hc75 hq57
      refine W.seq ?_
      refine W.region ?_
      refine WL.vS hS hE (runs_plain rfl) (Gives.p hE rfl) rfl ?_; clear hE a; intro a hE
      refine WL.vS hS hE (runs_plain rfl) (Gives.p hE rfl) rfl ?_; clear hE a; intro a hE
      refine WL.vS hS hE (runs_plain rfl) (Gives.p hE rfl) rfl ?_; clear hE a; intro a hE
      refine WL.vS hS hE (runs_plain rfl) (Gives.p hE rfl) rfl ?_; clear hE a; intro a hE
      obtain ⟨q76, hq77, hq57⟩ := bindS hq57
      have hc_ := SlicesinsertionSortCmpFuncfarePayment_v1_ok hS h71 hn73 hq77
      refine WL.fnq hE (hc_) (runs_plain rfl) bd128 rfl rfl rfl ?_
      clear hE hS hc_; rintro e w ⟨cs78, rfl, h79, hn80, hS⟩; refine ⟨_, rfl, ?_⟩; clear a; intro a hE
      refine WL.nil ?_
      refine W.ret ?_
      subst hK74
      rw [← Option.some.inj hq57] at hr
      dsimp only at hr
      refine finG (fn := Try.f104) (rs := []) (vs := []) hE rfl trivial ?_
      obtain rfl := Option.some.inj hr
      exact ⟨cs78, rfl, h79, hn80, hS⟩
    · replace hq57 := iteF hc75 hq57
      refine W.skip ?_
      refine W.seq ?_
      refine W.seq ?_
      refine W.region ?_
      refine WL.vS hS hE (runs_plain rfl) (Gives.p hE rfl) rfl ?_; clear hE a; intro a hE
      refine WL.vS hS hE (runs_plain rfl) (Gives.p hE rfl) rfl ?_; clear hE a; intro a hE
      refine WL.nil ?_
      refine W.cond hE rfl (fun hc81 => ?_) (fun hc81 => ?_)
      · replace hq57 := iteT hc81 hq57
        refine W.seq ?_
        refine W.region ?_
        refine WL.vS hS hE (runs_plain rfl) (Gives.p hE rfl) rfl ?_; clear hE a; intro a hE
        refine WL.vS hS hE (runs_plain rfl) (Gives.p hE rfl) rfl ?_; clear hE a; intro a hE
        refine WL.vS hS hE (runs_plain rfl) (Gives.p hE rfl) rfl ?_; clear hE a; intro a hE
        refine WL.vS hS hE (runs_plain rfl) (Gives.p hE rfl) rfl ?_; clear hE a; intro a hE
        exact absurd hq57 (by simp)
      · replace hq57 := iteF hc81 hq57
        refine W.skip ?_
        refine W.seq ?_
        refine W.seq ?_
        refine W.region ?_
        refine WL.vS hS hE (runs_plain rfl) (Gives.p hE rfl) rfl ?_; clear hE a; intro a hE
        refine WL.vS hS hE (runs_plain rfl) (Gives.p hE rfl) rfl ?_; clear hE a; intro a hE
        refine WL.nil ?_
        obtain ⟨q83, hq82, hq57⟩ := bindS hq57
        refine W.cut (fun a w => ∃ (q86 : Int), ∃ (q87 : List FarePayment), ∃ (cs91 : List Value), (q86, q87) = q83 ∧ Ev 3 RFarePayment s cs91 q87 ∧ q87.length = x0.length ∧ Rep a 148 [(0, .slice a_v0 x0.length c_v0), (1, .int .i64 q63), (2, .int .i64 q64), (3, .int .i64 q86), (4, .func (.func 80) #[] #[]), (10, .bool q66), (11, .bool q67), (12, .int .i64 (w64 (q64 - q63)))] ∧ St w s (vecC 65 3 a_v0 c_v0 x0.length cs91 :: R)) ?_ ?_
        · refine W.gen fun K93 hK93 => ?_
          refine W.cond hE rfl (fun hc94 => ?_) (fun hc94 => ?_)
          · replace hq82 := iteT hc94 hq82
            refine W.seq ?_
            refine W.region ?_
            refine WL.vS hS hE (runs_plain rfl) (Gives.p hE rfl) rfl ?_; clear hE a; intro a hE
            refine WL.vS hS hE (runs_plain rfl) (Gives.p hE rfl) rfl ?_; clear hE a; intro a hE
            refine WL.vS hS hE (runs_plain rfl) (Gives.p hE rfl) rfl ?_; clear hE a; intro a hE
            refine WL.vS hS hE (runs_plain rfl) (Gives.p hE rfl) rfl ?_; clear hE a; intro a hE
            exact absurd hq82 (by simp)
          · replace hq82 := iteF hc94 hq82
            refine W.skip ?_
            subst hK93
            exact ⟨q65, q68, cs72, Option.some.inj hq82, h71, hn73, hE.pick _ ⟨rfl, rfl, rfl, rfl, rfl, rfl, rfl, rfl, trivial⟩, hS⟩
        · clear hE hS a w; rintro a w ⟨q86, q87, cs91, rfl, h90, hn92, hE, hS⟩
          dsimp only at hq57
          refine W.seq ?_
          refine W.region ?_
          refine WL.vS hS hE (runs_plain rfl) (Gives.p hE rfl) rfl ?_; clear hE a; intro a hE
          refine WL.vS hS hE (runs_plain rfl) (Gives.p hE rfl) rfl ?_; clear hE a; intro a hE
          refine WL.vS hS hE (runs_plain rfl) (Gives.p hE rfl) rfl ?_; clear hE a; intro a hE
          refine WL.vS hS hE (runs_plain rfl) (Gives.p hE rfl) rfl ?_; clear hE a; intro a hE
          exact absurd hq57 (by simp)
  · exact fun _ _ h => h.elim
set_option maxHeartbeats 8000000 in
theorem SlicesSortFuncLfarePayment_v1_ok {fu : Nat}  {w : World} {s : Sg} {R : List HP} {x0 : List FarePayment} {a_v0 : Option Addr} {c_v0 n_v0 : Nat} {cs_v0 : List Value} (hS : St w s (vecC 65 3 a_v0 c_v0 n_v0 cs_v0 :: R)) (h_v0 : Ev 3 RFarePayment s cs_v0 x0) (hn_v0 : x0.length = n_v0) {r : (List FarePayment)} (hr : SlicesSortFuncLfarePayment_v1 fu x0 = some r) :
    Calls Try.prog 79 [.slice a_v0 n_v0 c_v0, .func (.func 80) #[] #[]].toArray w (fun e w => ∃ (cs55 : List Value), e = .returned (.tuple #[]) ∧ Ev 3 RFarePayment s cs55 r ∧ r.length = n_v0 ∧ St w s (vecC 65 3 a_v0 c_v0 n_v0 cs55 :: R)) := by
  refine enter Try.func79 rfl rfl rfl fun a hE => ?_
  rw [SlicesSortFuncLfarePayment_v1] at hr
  subst hn_v0
  refine W.seq ?_
  refine W.region ?_
  refine WL.vS hS hE (runs_plain rfl) (Gives.p hE rfl) rfl ?_; clear hE a; intro a hE
  refine WL.vS hS hE (runs_plain rfl) (Gives.len hE rfl sl58) rfl ?_; clear hE a; intro a hE
  refine WL.vS hS hE (runs_plain rfl) (Gives.p hE rfl) rfl ?_; clear hE a; intro a hE
  refine WL.nil ?_
  refine W.region ?_
  refine WL.vS hS hE (runs_plain rfl) (Gives.p hE rfl) rfl ?_; clear hE a; intro a hE
  refine WL.vS hS hE (runs_plain rfl) (Gives.p hE rfl) rfl ?_; clear hE a; intro a hE
  refine WL.vS hS hE (runs_plain rfl) (Gives.p hE rfl) rfl ?_; clear hE a; intro a hE
  refine WL.vS hS hE (runs_plain rfl) (Gives.conv hE rfl hu3 ui153) rfl ?_; clear hE a; intro a hE
  obtain ⟨q57, hq58, hr⟩ := bindS hr
  have hc_ := MathBitsLen_ok hS  hq58
  refine WL.fnq hE (hc_) (runs_plain rfl) bd105 rfl rfl rfl ?_
  clear hE hS hc_; rintro e w ⟨rfl, hS⟩; refine ⟨_, rfl, ?_⟩; clear a; intro a hE
  refine WL.vS hS hE (runs_plain rfl) (Gives.p hE rfl) rfl ?_; clear hE a; intro a hE
  obtain ⟨q59, hq60, hr⟩ := bindS hr
  have hc_ := SlicespdqsortCmpFuncfarePayment_v1_ok hS h_v0 (rfl) hq60
  refine WL.fnq hE (hc_) (runs_plain rfl) bd104 rfl rfl rfl ?_
  clear hE hS hc_; rintro e w ⟨cs61, rfl, h62, hn63, hS⟩; refine ⟨_, rfl, ?_⟩; clear a; intro a hE
  refine WL.nil ?_
  refine finG (fn := Try.f79) (rs := []) (vs := []) hE rfl trivial ?_
  obtain rfl := Option.some.inj hr
  exact ⟨cs61, rfl, h62, hn63, hS⟩
set_option maxHeartbeats 8000000 in
theorem FareSettle_ok {fu : Nat}  {w : World} {s : Sg} {R : List HP} {x0 : List (List Int)} {a0 : Option Addr} {c0 : Nat} (hS : St w s (R)) (h0 : Sl 1 (RL 1 (RI .i64)) s a0 c0 x0) {r : (List FarePayment) × Int} (hr : FareSettle fu x0 = some r) :
    Calls Try.prog 25 [.slice a0 x0.length c0].toArray w (fun e w => ∃ (a0 : Option Addr) (c0 n0 : Nat) (cs0 : List Value) (t : Sg), e = .returned (.tuple #[.slice a0 n0 c0, .int .i64 r.2]) ∧ s.Le t ∧ Ev 3 RFarePayment t cs0 r.1 ∧ r.1.length = n0 ∧ St w t (vecC 65 3 a0 c0 n0 cs0 :: R)) := by
  refine enter Try.func25 rfl rfl rfl fun a hE => ?_
  rw [FareSettle] at hr
  refine W.seq ?_
  refine W.region ?_
  refine WL.vS hS hE (runs_plain rfl) (Gives.p hE rfl) rfl ?_; clear hE a; intro a hE
  refine WL.vS hS hE (runs_plain rfl) (Gives.p hE rfl) rfl ?_; clear hE a; intro a hE
  refine WL.nil ?_
  refine W.seq ?_
  refine W.region ?_
  refine WL.vS hS hE (runs_plain rfl) (Gives.p hE rfl) rfl ?_; clear hE a; intro a hE
  refine WL.vS hS hE (runs_plain rfl) (Gives.len hE rfl sl57) rfl ?_; clear hE a; intro a hE
  refine WL.alloc hE hS (runs_plain rfl) zr3 rfl ?_; clear hE hS a w; intro b51 a w hE hS
  refine WL.storeI hE hS 0 rfl [.int .i64 ((x0).length : Int)] (runs_plain rfl) rfl rfl rfl ty3 rfl rfl rfl rfl ?_; clear hE hS a w; intro a w hE hS
  refine WL.nil ?_
  refine W.seq ?_
  refine W.seq ?_
  refine W.region ?_
  refine WL.vS hS hE (runs_plain rfl) (Gives.loadB hE 0 rfl rfl rfl ty3) rfl ?_; clear hE a; intro a hE
  refine WL.vS hS hE (runs_plain rfl) (Gives.p hE rfl) rfl ?_; clear hE a; intro a hE
  refine WL.nil ?_
  refine W.cond hE rfl (fun hc52 => ?_) (fun hc52 => ?_)
  · replace hr := iteT hc52 hr
    refine W.seq ?_
    refine W.region ?_
    refine WL.vS hS hE (runs_plain rfl) (Gives.p hE rfl) rfl ?_; clear hE a; intro a hE
    refine WL.vS hS hE (runs_plain rfl) (Gives.p hE rfl) rfl ?_; clear hE a; intro a hE
    refine WL.nil ?_
    refine W.ret ?_
    replace hS := hS.vecNil 65 3
    refine finG (fn := Try.f25) (rs := [.tmp 2, .tmp 3]) (vs := [_, _]) hE rfl ⟨rfl, rfl, trivial⟩ ?_
    obtain rfl := Option.some.inj hr
    replace hS := hS.dropAt 1
    exact ⟨none, 0, 0, [], s, rfl, (Sg.Le.refl _), (Ev.nil), (rfl), hS⟩
  · replace hr := iteF hc52 hr
    refine W.skip ?_
    refine W.seq ?_
    refine W.seq ?_
    refine W.region ?_
    refine WL.vS hS hE (runs_plain rfl) (Gives.p hE rfl) rfl ?_; clear hE a; intro a hE
    refine WL.vS hS hE (runs_plain rfl) (Gives.mkfn hE (vs := [.pointer (some ⟨b51, 0, none⟩)]) rfl) rfl ?_; clear hE a; intro a hE
    refine WL.fnq hE (SlicesContainsFuncLLint_v1_ok hS h0 rfl (r := SlicesContainsFuncLLint_v1 x0 ((x0).length : Int))) (runs_plain rfl) bd76 rfl rfl rfl ?_
    clear hE hS; rintro e w ⟨rfl, hS⟩; refine ⟨_, rfl, ?_⟩; clear a; intro a hE
    refine WL.nil ?_
    refine W.cond hE rfl (fun hc54 => ?_) (fun hc54 => ?_)
    · replace hr := iteT hc54 hr
      refine W.seq ?_
      refine W.region ?_
      refine WL.vS hS hE (runs_plain rfl) (Gives.p hE rfl) rfl ?_; clear hE a; intro a hE
      refine WL.vS hS hE (runs_plain rfl) (Gives.p hE rfl) rfl ?_; clear hE a; intro a hE
      refine WL.nil ?_
      refine W.ret ?_
      replace hS := hS.vecNil 65 3
      refine finG (fn := Try.f25) (rs := [.tmp 2, .tmp 3]) (vs := [_, _]) hE rfl ⟨rfl, rfl, trivial⟩ ?_
      obtain rfl := Option.some.inj hr
      replace hS := hS.dropAt 1
      exact ⟨none, 0, 0, [], s, rfl, (Sg.Le.refl _), (Ev.nil), (rfl), hS⟩
    · replace hr := iteF hc54 hr
      refine W.skip ?_
      refine W.seq ?_
      refine W.region ?_
      refine WL.vS hS hE (runs_plain rfl) (Gives.loadB hE 0 rfl rfl rfl ty3) rfl ?_; clear hE a; intro a hE
      obtain ⟨x56, hx57, hr⟩ := bindS hr
      refine WL.mkD (Rr := RI .i64) hE hS (runs_plain rfl) rfl rfl ap41 zr3 rfl hx57 rfl ?_; clear hE hS a w; intro b58 cs59 a w h60 hE hS
      refine WL.vS hS hE (runs_plain rfl) (Gives.p hE rfl) rfl ?_; clear hE a; intro a hE
      refine WL.nil ?_
      refine W.seq ?_
      refine W.seq ?_
      refine W.region ?_
      refine WL.vS hS hE (runs_plain rfl) (Gives.p hE rfl) rfl ?_; clear hE a; intro a hE
      refine WL.vS hS hE (runs_plain rfl) (Gives.len hE rfl sl57) rfl ?_; clear hE a; intro a hE
      refine WL.vS hS hE (runs_plain rfl) (Gives.p hE rfl) rfl ?_; clear hE a; intro a hE
      refine WL.nil ?_
      obtain ⟨q63, hq62, hr⟩ := bindS hr
      refine W.cut (fun a w => ∃ (q73 : List Int), ∃ (cs77 : List Value), (.next q73) = q63 ∧ Ev 1 (RI .i64) s cs77 q73 ∧ q73.length = x56.length ∧ Rep a 119 [(5, .slice (some ⟨b58, 0, none⟩) x56.length x56.length)] ∧ St w s (vecC 3 1 (some ⟨b58, 0, none⟩) x56.length x56.length cs77 :: pt b51 (.cells #[.int .i64 ((x0).length : Int)] 3 (0, 0)) :: R)) ?_ ?_
      · refine W.block ?_
        refine W.loop (fun m a w => ∃ (rest66 : List (List Int)) (k64 : Nat), ∃ (q73 : List Int), ∃ (cs77 : List Value), rest66.length = m ∧ x0.drop k64 = rest66 ∧ FareSettle.loop1 rest66 k64 q73 = some q63 ∧ Ev 1 (RI .i64) s cs77 q73 ∧ q73.length = x56.length ∧ Rep a 119 [(5, .slice (some ⟨b58, 0, none⟩) x56.length x56.length), (26, .slice a0 x0.length c0), (27, .int .i64 ((x0).length : Int)), (28, .int .i64 ((k64 : Nat) : Int))] ∧ St w s (vecC 3 1 (some ⟨b58, 0, none⟩) x56.length x56.length cs77 :: pt b51 (.cells #[.int .i64 ((x0).length : Int)] 3 (0, 0)) :: R)) (m := x0.length) ⟨x0, 0, x56, cs59, rfl, rfl, hq62, h60, (rfl), hE.pick _ ⟨rfl, rfl, rfl, rfl, trivial⟩, hS⟩ ?_
        clear hE hS a w hq62; rintro m70 a w ⟨rest66, k64, q73, cs77, rfl, hd67, hq62, h76, hn78, hE, hS⟩
        refine W.gen fun K79 hK79 => ?_
        rcases rest66 with _ | ⟨x65, rest66⟩
        · have hlt68 := drop_nil hd67
          refine W.seq ?_
          refine W.region ?_
          refine WL.vS hS hE (runs_plain rfl) (Gives.p hE rfl) rfl ?_; clear hE a; intro a hE
          refine WL.nil ?_
          refine W.seq ?_
          refine W.condF hE rfl (decide_eq_false (by omega)) ?_
          subst hK79
          refine W.exit rfl ?_
          exact ⟨q73, cs77, Option.some.inj hq62, h76, hn78, hE.pick _ ⟨rfl, trivial⟩, hS⟩
        · obtain ⟨hlt68, hx69, hd67⟩ := drop_cons hd67
          rw [FareSettle.loop1] at hq62
          refine W.seq ?_
          refine W.region ?_
          refine WL.vS hS hE (runs_plain rfl) (Gives.p hE rfl) rfl ?_; clear hE a; intro a hE
          refine WL.nil ?_
          refine W.seq ?_
          refine W.condT hE rfl (decide_eq_true (by omega)) ?_
          refine W.skip ?_
          refine W.seq ?_
          refine W.block ?_
          refine W.seq ?_
          refine W.region ?_
          refine WL.vS hS hE (runs_plain rfl) (Gives.p hE rfl) rfl ?_; clear hE a; intro a hE
          obtain ⟨cs80, hl81, hR82, hat83⟩ := h0.at hx69
          obtain ⟨a84, c85, rfl, h86⟩ := hR82
          refine WL.vS hS hE (runs_plain rfl) (Gives.idx hE k64 rfl rfl sl57 rfl hlt68 (h0.aok hlt68)) rfl ?_; clear hE a; intro a hE
          refine WL.vS hS hE (runs_plain rfl) (Gives.load1 hE rfl (fun w h => hat83 w _ h) ty41) rfl ?_; clear hE a; intro a hE
          refine WL.vS hS hE (runs_plain rfl) (Gives.p hE rfl) rfl ?_; clear hE a; intro a hE
          refine WL.vS hS hE (runs_plain rfl) (Gives.p hE rfl) rfl ?_; clear hE a; intro a hE
          refine WL.nil ?_
          refine W.seq ?_
          refine W.region ?_
          refine WL.vS hS hE (runs_plain rfl) (Gives.p hE rfl) rfl ?_; clear hE a; intro a hE
          refine WL.vS hS hE (runs_plain rfl) (Gives.len hE rfl sl41) rfl ?_; clear hE a; intro a hE
          refine WL.vS hS hE (runs_plain rfl) (Gives.p hE rfl) rfl ?_; clear hE a; intro a hE
          refine WL.nil ?_
          obtain ⟨q88, hq87, hq62⟩ := bindS hq62
          refine W.cut (fun a w => ∃ (q98 : List Int), ∃ (cs102 : List Value), (.next q98) = q88 ∧ Ev 1 (RI .i64) s cs102 q98 ∧ q98.length = x56.length ∧ Rep a 119 [(5, .slice (some ⟨b58, 0, none⟩) x56.length x56.length), (26, .slice a0 x0.length c0), (27, .int .i64 ((x0).length : Int)), (28, .int .i64 ((k64 : Nat) : Int))] ∧ St w s (vecC 3 1 (some ⟨b58, 0, none⟩) x56.length x56.length cs102 :: pt b51 (.cells #[.int .i64 ((x0).length : Int)] 3 (0, 0)) :: R)) ?_ ?_
          · refine W.block ?_
            refine W.loop (fun m a w => ∃ (rest91 : List Int) (k89 : Nat), ∃ (q98 : List Int), ∃ (cs102 : List Value), rest91.length = m ∧ x65.drop k89 = rest91 ∧ FareSettle.loop2 k64 rest91 k89 q98 = some q88 ∧ Ev 1 (RI .i64) s cs102 q98 ∧ q98.length = x56.length ∧ Rep a 119 [(5, .slice (some ⟨b58, 0, none⟩) x56.length x56.length), (6, .int .i64 ((k64 : Nat) : Int)), (26, .slice a0 x0.length c0), (27, .int .i64 ((x0).length : Int)), (28, .int .i64 ((k64 : Nat) : Int)), (33, .slice a84 x65.length c85), (34, .int .i64 ((x65).length : Int)), (35, .int .i64 ((k89 : Nat) : Int))] ∧ St w s (vecC 3 1 (some ⟨b58, 0, none⟩) x56.length x56.length cs102 :: pt b51 (.cells #[.int .i64 ((x0).length : Int)] 3 (0, 0)) :: R)) (m := x65.length) ⟨x65, 0, q73, cs77, rfl, rfl, hq87, h76, hn78, hE.pick _ ⟨rfl, rfl, rfl, rfl, rfl, rfl, rfl, rfl, trivial⟩, hS⟩ ?_
            clear hE hS a w hq87; rintro m95 a w ⟨rest91, k89, q98, cs102, rfl, hd92, hq87, h101, hn103, hE, hS⟩
            refine W.gen fun K104 hK104 => ?_
            rcases rest91 with _ | ⟨x90, rest91⟩
            · have hlt93 := drop_nil hd92
              refine W.seq ?_
              refine W.region ?_
              refine WL.vS hS hE (runs_plain rfl) (Gives.p hE rfl) rfl ?_; clear hE a; intro a hE
              refine WL.nil ?_
              refine W.seq ?_
              refine W.condF hE rfl (decide_eq_false (by omega)) ?_
              subst hK104
              refine W.exit rfl ?_
              exact ⟨q98, cs102, Option.some.inj hq87, h101, hn103, hE.pick _ ⟨rfl, rfl, rfl, rfl, trivial⟩, hS⟩
            · obtain ⟨hlt93, hx94, hd92⟩ := drop_cons hd92
              rw [FareSettle.loop2] at hq87
              refine W.seq ?_
              refine W.region ?_
              refine WL.vS hS hE (runs_plain rfl) (Gives.p hE rfl) rfl ?_; clear hE a; intro a hE
              refine WL.nil ?_
              refine W.seq ?_
              refine W.condT hE rfl (decide_eq_true (by omega)) ?_
              refine W.skip ?_
              refine W.seq ?_
              refine W.block ?_
              refine W.seq ?_
              refine W.region ?_
              refine WL.vS hS hE (runs_plain rfl) (Gives.p hE rfl) rfl ?_; clear hE a; intro a hE
              obtain ⟨cs105, hl106, hR107, hat108⟩ := h86.at hx94
              subst hR107
              refine WL.vS hS hE (runs_plain rfl) (Gives.idx hE k89 rfl rfl sl41 rfl hlt93 (h86.aok hlt93)) rfl ?_; clear hE a; intro a hE
              refine WL.vS hS hE (runs_plain rfl) (Gives.load1 hE rfl (fun w h => hat108 w _ h) ty3) rfl ?_; clear hE a; intro a hE
              refine WL.vS hS hE (runs_plain rfl) (Gives.p hE rfl) rfl ?_; clear hE a; intro a hE
              refine WL.vS hS hE (runs_plain rfl) (Gives.p hE rfl) rfl ?_; clear hE a; intro a hE
              refine WL.nil ?_
              refine W.seq ?_
              refine W.block ?_
              refine W.seq ?_
              refine W.region ?_
              refine WL.vS hS hE (runs_plain rfl) (Gives.p hE rfl) rfl ?_; clear hE a; intro a hE
              refine WL.fnq hE (Farewithin_ok hS  rfl (r := Farewithin x90 0 100000)) (runs_plain rfl) bd50 rfl rfl rfl ?_
              clear hE hS; rintro e w ⟨rfl, hS⟩; refine ⟨_, rfl, ?_⟩; clear a; intro a hE
              refine WL.vS hS hE (runs_plain rfl) (Gives.p hE rfl) rfl ?_; clear hE a; intro a hE
              refine WL.vS hS hE (runs_plain rfl) (Gives.p hE rfl) rfl ?_; clear hE a; intro a hE
              refine WL.nil ?_
              refine W.cond hE rfl (fun hc109 => ?_) (fun hc109 => ?_)
              · replace hq87 := iteT hc109 hq87
                refine W.seq ?_
                refine W.region ?_
                refine WL.vS hS hE (runs_plain rfl) (Gives.p hE rfl) rfl ?_; clear hE a; intro a hE
                refine WL.vS hS hE (runs_plain rfl) (Gives.p hE rfl) rfl ?_; clear hE a; intro a hE
                refine WL.nil ?_
                refine W.ret ?_
                subst hK104
                subst hK79
                rw [← Option.some.inj hq87] at hq62
                dsimp only at hq62
                rw [← Option.some.inj hq62] at hr
                dsimp only at hr
                replace hS := hS.vecNil 65 3
                refine finG (fn := Try.f25) (rs := [.tmp 2, .tmp 3]) (vs := [_, _]) hE rfl ⟨rfl, rfl, trivial⟩ ?_
                obtain rfl := Option.some.inj hr
                replace hS := hS.dropAt 1
                replace hS := hS.dropAt 1
                exact ⟨none, 0, 0, [], s, rfl, (Sg.Le.refl _), (Ev.nil), (rfl), hS⟩
              · replace hq87 := iteF hc109 hq87
                refine W.seq ?_
                obtain ⟨q112, hq111, hq87⟩ := bndS hq87
                refine W.cut (fun a w => ∃ (q115 : Bool), q115 = q112 ∧ Rep a 119 [(5, .slice (some ⟨b58, 0, none⟩) x56.length x56.length), (6, .int .i64 ((k64 : Nat) : Int)), (8, .int .i64 ((k89 : Nat) : Int)), (9, .int .i64 x90), (26, .slice a0 x0.length c0), (27, .int .i64 ((x0).length : Int)), (28, .int .i64 ((k64 : Nat) : Int)), (33, .slice a84 x65.length c85), (34, .int .i64 ((x65).length : Int)), (35, .int .i64 ((k89 : Nat) : Int)), (44, .bool q115)] ∧ St w s (vecC 3 1 (some ⟨b58, 0, none⟩) x56.length x56.length cs102 :: pt b51 (.cells #[.int .i64 ((x0).length : Int)] 3 (0, 0)) :: R)) ?_ ?_
                · refine W.gen fun K116 hK116 => ?_
                  refine W.region ?_
                  refine WL.vS hS hE (runs_plain rfl) (Gives.p hE rfl) rfl ?_; clear hE a; intro a hE
                  refine WL.vS hS hE (runs_plain rfl) (Gives.p hE rfl) rfl ?_; clear hE a; intro a hE
                  refine WL.vS hS hE (runs_plain rfl) (Gives.p hE rfl) rfl ?_; clear hE a; intro a hE
                  refine WL.vS hS hE (runs_plain rfl) (Gives.p hE rfl) rfl ?_; clear hE a; intro a hE
                  rcases Bool.eq_false_or_eq_true (((k64 : Nat) : Int) == ((k89 : Nat) : Int)) with hg117 | hg117
                  · replace hq111 := iteT hg117 hq111
                    refine WL.vS hS hE (runs_if hE rfl rfl rfl hg117) (Gives.p hE rfl) rfl ?_; clear hE a; intro a hE
                    refine WL.vS hS hE (runs_if hE rfl rfl rfl hg117) (Gives.p hE rfl) rfl ?_; clear hE a; intro a hE
                    refine WL.vS hS hE (runs_plain rfl) (Gives.pickT hE rfl hg117 rfl) rfl ?_; clear hE a; intro a hE
                    refine WL.vS hS hE (runs_plain rfl) (Gives.p hE rfl) rfl ?_; clear hE a; intro a hE
                    refine WL.nil ?_
                    subst hK116
                    exact ⟨(x90 != 0), hq111, hE.pick _ ⟨rfl, rfl, rfl, rfl, rfl, rfl, rfl, rfl, rfl, rfl, rfl, trivial⟩, hS⟩
                  · replace hq111 := iteF hg117 hq111
                    refine WL.no hE (runs_not hE rfl rfl rfl (by rw [hg117]; decide)) rfl ?_; clear hE a; intro a hE
                    refine WL.no hE (runs_not hE rfl rfl rfl (by rw [hg117]; decide)) rfl ?_; clear hE a; intro a hE
                    refine WL.vS hS hE (runs_plain rfl) (Gives.pickF hE rfl hg117 rfl) rfl ?_; clear hE a; intro a hE
                    refine WL.vS hS hE (runs_plain rfl) (Gives.p hE rfl) rfl ?_; clear hE a; intro a hE
                    refine WL.nil ?_
                    subst hK116
                    exact ⟨false, hq111, hE.pick _ ⟨rfl, rfl, rfl, rfl, rfl, rfl, rfl, rfl, rfl, rfl, rfl, trivial⟩, hS⟩
                · clear hE hS a w; rintro a w ⟨q115, rfl, hE, hS⟩
                  refine W.cond hE rfl (fun hc118 => ?_) (fun hc118 => ?_)
                  · replace hq87 := iteT hc118 hq87
                    refine W.seq ?_
                    refine W.region ?_
                    refine WL.vS hS hE (runs_plain rfl) (Gives.p hE rfl) rfl ?_; clear hE a; intro a hE
                    refine WL.vS hS hE (runs_plain rfl) (Gives.p hE rfl) rfl ?_; clear hE a; intro a hE
                    refine WL.nil ?_
                    refine W.ret ?_
                    subst hK104
                    subst hK79
                    rw [← Option.some.inj hq87] at hq62
                    dsimp only at hq62
                    rw [← Option.some.inj hq62] at hr
                    dsimp only at hr
                    replace hS := hS.vecNil 65 3
                    refine finG (fn := Try.f25) (rs := [.tmp 2, .tmp 3]) (vs := [_, _]) hE rfl ⟨rfl, rfl, trivial⟩ ?_
                    obtain rfl := Option.some.inj hr
                    replace hS := hS.dropAt 1
                    replace hS := hS.dropAt 1
                    exact ⟨none, 0, 0, [], s, rfl, (Sg.Le.refl _), (Ev.nil), (rfl), hS⟩
                  · replace hq87 := iteF hc118 hq87
                    refine W.skip ?_
                    refine W.seq ?_
                    refine W.region ?_
                    refine WL.vS hS hE (runs_plain rfl) (Gives.p hE rfl) rfl ?_; clear hE a; intro a hE
                    refine WL.vS hS hE (runs_plain rfl) (Gives.p hE rfl) rfl ?_; clear hE a; intro a hE
                    obtain ⟨x120, hx121, hq87⟩ := bindS hq87
                    obtain ⟨hi122, hlt123, hy124⟩ := gx_some hx121
                    obtain ⟨vs125, hl126, hR127, hd128, hget129⟩ := h101.at hy124
                    subst hR127
                    refine WL.vS hS hE (runs_plain rfl) (Gives.idx hE ((((k64 : Nat) : Int)).toNat) rfl rfl sl41 hi122 (by have := hn103; omega) (hS.vecAok 0 rfl (by have := hn103; omega : (((k64 : Nat) : Int)).toNat < x56.length))) rfl ?_; clear hE a; intro a hE
                    refine WL.vS hS hE (runs_plain rfl) (Gives.load1 hE rfl (fun w h => St.vecSees h 0 rfl ((((k64 : Nat) : Int)).toNat * 1) _ hget129) ty3) rfl ?_; clear hE a; intro a hE
                    refine WL.vS hS hE (runs_plain rfl) (Gives.p hE rfl) rfl ?_; clear hE a; intro a hE
                    refine WL.vS hS hE (runs_plain rfl) (Gives.p hE rfl) rfl ?_; clear hE a; intro a hE
                    obtain ⟨_, hx131, hq87⟩ := bindS hq87
                    obtain ⟨h132, h133⟩ := ix_some hx131
                    refine WL.vS hS hE (runs_plain rfl) (Gives.idx hE ((((k64 : Nat) : Int)).toNat) rfl rfl sl41 h132 (by have := hn103; omega) (hS.vecAok 0 rfl (by have := hn103; omega : (((k64 : Nat) : Int)).toNat < x56.length))) rfl ?_; clear hE a; intro a hE
                    obtain ⟨x135, hx136, hq87⟩ := bindS hq87
                    refine WL.setD hE hS 0 rfl (runs_plain rfl) rfl rfl (vs := [.int .i64 (w64 (x120 + x90))]) rfl ty3 rfl rfl rfl h101 hn103 (sx_some hx136).1 hx136 rfl rfl ?_; clear hE hS a w; intro cs137 a w h138 hn139 hE hS
                    refine WL.nil ?_
                    refine W.region ?_
                    refine WL.vS hS hE (runs_plain rfl) (Gives.p hE rfl) rfl ?_; clear hE a; intro a hE
                    refine WL.vS hS hE (runs_plain rfl) (Gives.p hE rfl) rfl ?_; clear hE a; intro a hE
                    obtain ⟨x140, hx141, hq87⟩ := bindS hq87
                    obtain ⟨hi142, hlt143, hy144⟩ := gx_some hx141
                    obtain ⟨vs145, hl146, hR147, hd148, hget149⟩ := h138.at hy144
                    subst hR147
                    refine WL.vS hS hE (runs_plain rfl) (Gives.idx hE ((((k89 : Nat) : Int)).toNat) rfl rfl sl41 hi142 (by have := hn139; omega) (hS.vecAok 0 rfl (by have := hn139; omega : (((k89 : Nat) : Int)).toNat < x56.length))) rfl ?_; clear hE a; intro a hE
                    refine WL.vS hS hE (runs_plain rfl) (Gives.load1 hE rfl (fun w h => St.vecSees h 0 rfl ((((k89 : Nat) : Int)).toNat * 1) _ hget149) ty3) rfl ?_; clear hE a; intro a hE
                    refine WL.vS hS hE (runs_plain rfl) (Gives.p hE rfl) rfl ?_; clear hE a; intro a hE
                    refine WL.vS hS hE (runs_plain rfl) (Gives.p hE rfl) rfl ?_; clear hE a; intro a hE
                    obtain ⟨_, hx151, hq87⟩ := bindS hq87
                    obtain ⟨h152, h153⟩ := ix_some hx151
                    refine WL.vS hS hE (runs_plain rfl) (Gives.idx hE ((((k89 : Nat) : Int)).toNat) rfl rfl sl41 h152 (by have := hn139; omega) (hS.vecAok 0 rfl (by have := hn139; omega : (((k89 : Nat) : Int)).toNat < x56.length))) rfl ?_; clear hE a; intro a hE
                    obtain ⟨x155, hx156, hq87⟩ := bindS hq87
                    refine WL.setD hE hS 0 rfl (runs_plain rfl) rfl rfl (vs := [.int .i64 (w64 (x140 - x90))]) rfl ty3 rfl rfl rfl h138 hn139 (sx_some hx156).1 hx156 rfl rfl ?_; clear hE hS a w; intro cs157 a w h158 hn159 hE hS
                    refine WL.nil ?_
                    refine W.region ?_
                    refine WL.vS hS hE (runs_plain rfl) (Gives.inc hE rfl (by have := h86.small; omega)) rfl ?_; clear hE a; intro a hE
                    refine WL.vS hS hE (runs_plain rfl) (Gives.p hE rfl) rfl ?_; clear hE a; intro a hE
                    refine WL.nil ?_
                    subst hK104
                    exact ⟨rest91.length, Nat.lt_succ_self _, rest91, k89 + 1, x155, cs157, rfl, hd92, hq87, h158, hn159, hE.pick _ ⟨rfl, rfl, rfl, rfl, rfl, rfl, rfl, rfl, trivial⟩, hS⟩
          · clear hE hS a w; rintro a w ⟨q98, cs102, rfl, h101, hn103, hE, hS⟩
            dsimp only at hq62
            refine W.region ?_
            refine WL.vS hS hE (runs_plain rfl) (Gives.inc hE rfl (by have := h0.small; omega)) rfl ?_; clear hE a; intro a hE
            refine WL.vS hS hE (runs_plain rfl) (Gives.p hE rfl) rfl ?_; clear hE a; intro a hE
            refine WL.nil ?_
            subst hK79
            exact ⟨rest66.length, Nat.lt_succ_self _, rest66, k64 + 1, q98, cs102, rfl, hd67, hq62, h101, hn103, hE.pick _ ⟨rfl, rfl, rfl, rfl, trivial⟩, hS⟩
      · clear hE hS a w; rintro a w ⟨q73, cs77, rfl, h76, hn78, hE, hS⟩
        dsimp only at hr
        refine W.seq ?_
        refine W.region ?_
        replace hS := hS.vecNil 65 3
        refine WL.vS hS hE (runs_plain rfl) (Gives.p hE rfl) rfl ?_; clear hE a; intro a hE
        refine WL.nil ?_
        refine W.seq ?_
        refine W.seq ?_
        refine W.region ?_
        refine WL.vS hS hE (runs_plain rfl) (Gives.p hE rfl) rfl ?_; clear hE a; intro a hE
        obtain ⟨q161, hq162, hr⟩ := bindS hr
        replace hS := hS.front 1 rfl
        have hc_ := Faregroups_v1_ok hS h76 hn78 hq162
        refine WL.fnq hE (hc_) (runs_plain rfl) bd78 rfl rfl rfl ?_
        clear hE hS hc_; rintro e w ⟨a163, c164, n165, cs166, s169, rfl, hle170, h167, rfl, hS⟩; refine ⟨_, rfl, ?_⟩; clear a; intro a hE
        replace h76 := Ev.mono RI.mono hle170 h76
        refine WL.vS hS hE (runs_plain rfl) (Gives.len hE rfl sl57) rfl ?_; clear hE a; intro a hE
        refine WL.vS hS hE (runs_plain rfl) (Gives.p hE rfl) rfl ?_; clear hE a; intro a hE
        refine WL.nil ?_
        have hb182 : q161.length ≤ 9223372036854775807 := by have := hS.vecCap 0 rfl; unfold maxLen at this; omega
        obtain ⟨q172, hq171, hr⟩ := bindS hr
        refine W.cut (fun a w => ∃ (q183 : List FarePayment), ∃ (a184 : Option Addr), ∃ (c185 : Nat), ∃ (n187 : Nat), ∃ (cs188 : List Value), q183 = q172 ∧ Ev 3 RFarePayment s169 cs188 q183 ∧ q183.length = n187 ∧ Rep a 119 [(10, .slice a184 n187 c185)] ∧ St w s169 (vecC 41 1 a163 c164 q161.length cs166 :: vecC 3 1 (some ⟨b58, 0, none⟩) x56.length x56.length cs77 :: vecC 65 3 a184 c185 n187 cs188 :: pt b51 (.cells #[.int .i64 ((x0).length : Int)] 3 (0, 0)) :: R)) ?_ ?_
        · refine W.block ?_
          refine W.loop (fun m a w => ∃ (rest175 : Nat) (k173 : Nat), ∃ (q183 : List FarePayment), ∃ (a184 : Option Addr), ∃ (c185 : Nat), ∃ (n187 : Nat), ∃ (cs188 : List Value), rest175 = m ∧ k173 + rest175 = q161.length ∧ FareSettle.loop3 q73 q161 rest175 k173 q183 = some q172 ∧ Ev 3 RFarePayment s169 cs188 q183 ∧ q183.length = n187 ∧ Rep a 119 [(5, .slice (some ⟨b58, 0, none⟩) x56.length x56.length), (10, .slice a184 n187 c185), (69, .slice a163 q161.length c164), (70, .int .i64 ((q161.length : Nat) : Int)), (71, .int .i64 ((k173 : Nat) : Int))] ∧ St w s169 (vecC 41 1 a163 c164 q161.length cs166 :: vecC 3 1 (some ⟨b58, 0, none⟩) x56.length x56.length cs77 :: vecC 65 3 a184 c185 n187 cs188 :: pt b51 (.cells #[.int .i64 ((x0).length : Int)] 3 (0, 0)) :: R)) (m := q161.length) ⟨q161.length, 0, [], none, 0, 0, [], rfl, by omega, hq171, (Ev.nil), (rfl), hE.pick _ ⟨rfl, rfl, rfl, rfl, rfl, trivial⟩, hS⟩ ?_
          clear hE hS a w hq171; rintro m179 a w ⟨rest175, k173, q183, a184, c185, n187, cs188, rfl, hd176, hq171, h186, rfl, hE, hS⟩
          refine W.gen fun K190 hK190 => ?_
          rcases rest175 with _ | rest175
          · skip
            refine W.seq ?_
            refine W.region ?_
            refine WL.vS hS hE (runs_plain rfl) (Gives.p hE rfl) rfl ?_; clear hE a; intro a hE
            refine WL.nil ?_
            refine W.seq ?_
            refine W.condF hE rfl (decide_eq_false (by omega)) ?_
            subst hK190
            refine W.exit rfl ?_
            exact ⟨q183, a184, c185, q183.length, cs188, Option.some.inj hq171, h186, rfl, hE.pick _ ⟨rfl, trivial⟩, hS⟩
          · have hlt177 : k173 < q161.length := by omega
            rw [FareSettle.loop3] at hq171
            refine W.seq ?_
            refine W.region ?_
            refine WL.vS hS hE (runs_plain rfl) (Gives.p hE rfl) rfl ?_; clear hE a; intro a hE
            refine WL.nil ?_
            refine W.seq ?_
            refine W.condT hE rfl (decide_eq_true (by omega)) ?_
            refine W.skip ?_
            refine W.seq ?_
            refine W.block ?_
            refine W.seq ?_
            refine W.region ?_
            obtain ⟨x191, hx192, hq171⟩ := bindS hq171
            obtain ⟨hi193, hlt194, hy195⟩ := gx_some hx192
            obtain ⟨vs196, hl197, hR198, hd199, hget200⟩ := h167.at hy195
            obtain ⟨a201, c202, rfl, h203⟩ := hR198
            refine WL.vS hS hE (runs_plain rfl) (Gives.idx hE ((((k173 : Nat) : Int)).toNat) rfl rfl sl57 hi193 (by omega) (hS.vecAok 0 rfl (by omega : (((k173 : Nat) : Int)).toNat < q161.length))) rfl ?_; clear hE a; intro a hE
            refine WL.vS hS hE (runs_plain rfl) (Gives.load1 hE rfl (fun w h => St.vecSees h 0 rfl ((((k173 : Nat) : Int)).toNat * 1) _ hget200) ty41) rfl ?_; clear hE a; intro a hE
            refine WL.vS hS hE (runs_plain rfl) (Gives.p hE rfl) rfl ?_; clear hE a; intro a hE
            refine WL.nil ?_
            refine W.seq ?_
            refine W.region ?_
            refine WL.vS hS hE (runs_plain rfl) (Gives.p hE rfl) rfl ?_; clear hE a; intro a hE
            refine WL.nil ?_
            refine W.seq ?_
            refine W.region ?_
            refine WL.vS hS hE (runs_plain rfl) (Gives.p hE rfl) rfl ?_; clear hE a; intro a hE
            refine WL.vS hS hE (runs_plain rfl) (Gives.len hE rfl sl41) rfl ?_; clear hE a; intro a hE
            refine WL.vS hS hE (runs_plain rfl) (Gives.p hE rfl) rfl ?_; clear hE a; intro a hE
            refine WL.nil ?_
            obtain ⟨q205, hq204, hq171⟩ := bindS hq171
            refine W.cut (fun a w => ∃ (q215 : List FarePayment), ∃ (q222 : Int), ∃ (a216 : Option Addr), ∃ (c217 : Nat), ∃ (n219 : Nat), ∃ (cs220 : List Value), (q215, q222) = q205 ∧ Ev 3 RFarePayment s169 cs220 q215 ∧ q215.length = n219 ∧ Rep a 119 [(5, .slice (some ⟨b58, 0, none⟩) x56.length x56.length), (10, .slice a216 n219 c217), (69, .slice a163 q161.length c164), (70, .int .i64 ((q161.length : Nat) : Int)), (71, .int .i64 ((k173 : Nat) : Int))] ∧ St w s169 (vecC 41 1 a163 c164 q161.length cs166 :: vecC 3 1 (some ⟨b58, 0, none⟩) x56.length x56.length cs77 :: vecC 65 3 a216 c217 n219 cs220 :: pt b51 (.cells #[.int .i64 ((x0).length : Int)] 3 (0, 0)) :: R)) ?_ ?_
            · refine W.block ?_
              refine W.loop (fun m a w => ∃ (rest208 : List Int) (k206 : Nat), ∃ (q215 : List FarePayment), ∃ (q222 : Int), ∃ (a216 : Option Addr), ∃ (c217 : Nat), ∃ (n219 : Nat), ∃ (cs220 : List Value), rest208.length = m ∧ x191.drop k206 = rest208 ∧ FareSettle.loop4 q73 x191 rest208 k206 q215 q222 = some q205 ∧ Ev 3 RFarePayment s169 cs220 q215 ∧ q215.length = n219 ∧ Rep a 119 [(5, .slice (some ⟨b58, 0, none⟩) x56.length x56.length), (10, .slice a216 n219 c217), (12, .slice a201 x191.length c202), (13, .int .i64 q222), (69, .slice a163 q161.length c164), (70, .int .i64 ((q161.length : Nat) : Int)), (71, .int .i64 ((k173 : Nat) : Int)), (75, .slice a201 x191.length c202), (76, .int .i64 ((x191).length : Int)), (77, .int .i64 ((k206 : Nat) : Int))] ∧ St w s169 (vecC 41 1 a163 c164 q161.length cs166 :: vecC 3 1 (some ⟨b58, 0, none⟩) x56.length x56.length cs77 :: vecC 65 3 a216 c217 n219 cs220 :: pt b51 (.cells #[.int .i64 ((x0).length : Int)] 3 (0, 0)) :: R)) (m := x191.length) ⟨x191, 0, q183, 0, a184, c185, q183.length, cs188, rfl, rfl, hq204, h186, rfl, hE.pick _ ⟨rfl, rfl, rfl, rfl, rfl, rfl, rfl, rfl, rfl, rfl, trivial⟩, hS⟩ ?_
              clear hE hS a w hq204; rintro m212 a w ⟨rest208, k206, q215, q222, a216, c217, n219, cs220, rfl, hd209, hq204, h218, rfl, hE, hS⟩
              refine W.gen fun K223 hK223 => ?_
              rcases rest208 with _ | ⟨x207, rest208⟩
              · have hlt210 := drop_nil hd209
                refine W.seq ?_
                refine W.region ?_
                refine WL.vS hS hE (runs_plain rfl) (Gives.p hE rfl) rfl ?_; clear hE a; intro a hE
                refine WL.nil ?_
                refine W.seq ?_
                refine W.condF hE rfl (decide_eq_false (by omega)) ?_
                subst hK223
                refine W.exit rfl ?_
                exact ⟨q215, q222, a216, c217, q215.length, cs220, Option.some.inj hq204, h218, rfl, hE.pick _ ⟨rfl, rfl, rfl, rfl, rfl, trivial⟩, hS⟩
              · obtain ⟨hlt210, hx211, hd209⟩ := drop_cons hd209
                rw [FareSettle.loop4] at hq204
                refine W.seq ?_
                refine W.region ?_
                refine WL.vS hS hE (runs_plain rfl) (Gives.p hE rfl) rfl ?_; clear hE a; intro a hE
                refine WL.nil ?_
                refine W.seq ?_
                refine W.condT hE rfl (decide_eq_true (by omega)) ?_
                refine W.skip ?_
                refine W.seq ?_
                refine W.block ?_
                refine W.seq ?_
                refine W.region ?_
                refine WL.vS hS hE (runs_plain rfl) (Gives.p hE rfl) rfl ?_; clear hE a; intro a hE
                obtain ⟨cs224, hl225, hR226, hat227⟩ := h203.at hx211
                subst hR226
                refine WL.vS hS hE (runs_plain rfl) (Gives.idx hE k206 rfl rfl sl41 rfl hlt210 (h203.aok hlt210)) rfl ?_; clear hE a; intro a hE
                refine WL.vS hS hE (runs_plain rfl) (Gives.load1 hE rfl (fun w h => hat227 w _ h) ty3) rfl ?_; clear hE a; intro a hE
                refine WL.vS hS hE (runs_plain rfl) (Gives.p hE rfl) rfl ?_; clear hE a; intro a hE
                refine WL.vS hS hE (runs_plain rfl) (Gives.p hE rfl) rfl ?_; clear hE a; intro a hE
                refine WL.nil ?_
                refine W.seq ?_
                refine W.seq ?_
                refine W.region ?_
                refine WL.vS hS hE (runs_plain rfl) (Gives.p hE rfl) rfl ?_; clear hE a; intro a hE
                refine WL.vS hS hE (runs_plain rfl) (Gives.p hE rfl) rfl ?_; clear hE a; intro a hE
                refine WL.nil ?_
                obtain ⟨q229, hq228, hq204⟩ := bindS hq204
                refine W.cut (fun a w => ∃ (q232 : List FarePayment), ∃ (a233 : Option Addr), ∃ (c234 : Nat), ∃ (n236 : Nat), ∃ (cs237 : List Value), q232 = q229 ∧ Ev 3 RFarePayment s169 cs237 q232 ∧ q232.length = n236 ∧ Rep a 119 [(5, .slice (some ⟨b58, 0, none⟩) x56.length x56.length), (10, .slice a233 n236 c234), (12, .slice a201 x191.length c202), (13, .int .i64 q222), (15, .int .i64 x207), (69, .slice a163 q161.length c164), (70, .int .i64 ((q161.length : Nat) : Int)), (71, .int .i64 ((k173 : Nat) : Int)), (75, .slice a201 x191.length c202), (76, .int .i64 ((x191).length : Int)), (77, .int .i64 ((k206 : Nat) : Int))] ∧ St w s169 (vecC 41 1 a163 c164 q161.length cs166 :: vecC 3 1 (some ⟨b58, 0, none⟩) x56.length x56.length cs77 :: vecC 65 3 a233 c234 n236 cs237 :: pt b51 (.cells #[.int .i64 ((x0).length : Int)] 3 (0, 0)) :: R)) ?_ ?_
                · refine W.gen fun K239 hK239 => ?_
                  refine W.cond hE rfl (fun hc240 => ?_) (fun hc240 => ?_)
                  · replace hq228 := iteT hc240 hq228
                    refine W.seq ?_
                    refine W.region ?_
                    refine WL.vS hS hE (runs_plain rfl) (Gives.p hE rfl) rfl ?_; clear hE a; intro a hE
                    refine WL.vS hS hE (runs_plain rfl) (Gives.p hE rfl) rfl ?_; clear hE a; intro a hE
                    refine WL.vS hS hE (runs_plain rfl) (Gives.p hE rfl) rfl ?_; clear hE a; intro a hE
                    obtain ⟨x241, hx242, hq228⟩ := bindS hq228
                    obtain ⟨hi243, hlt244, hy245⟩ := gx_some hx242
                    obtain ⟨cs246, hl247, hR248, hat249⟩ := h203.at hy245
                    subst hR248
                    refine WL.vS hS hE (runs_plain rfl) (Gives.idx hE (w64 (((k206 : Nat) : Int) - 1)).toNat rfl rfl sl41 hi243 hlt244 (h203.aok hlt244)) rfl ?_; clear hE a; intro a hE
                    refine WL.vS hS hE (runs_plain rfl) (Gives.load1 hE rfl (fun w h => hat249 w _ h) ty3) rfl ?_; clear hE a; intro a hE
                    refine WL.vS hS hE (runs_plain rfl) (Gives.p hE rfl) rfl ?_; clear hE a; intro a hE
                    refine WL.nil ?_
                    refine W.seq ?_
                    refine W.region ?_
                    refine WL.vS hS hE (runs_plain rfl) (Gives.p hE rfl) rfl ?_; clear hE a; intro a hE
                    refine WL.vS hS hE (runs_plain rfl) (Gives.p hE rfl) rfl ?_; clear hE a; intro a hE
                    refine WL.nil ?_
                    obtain ⟨q251, hq250, hq228⟩ := bindS hq228
                    refine W.cut (fun a w => ∃ (q254 : List FarePayment), ∃ (a255 : Option Addr), ∃ (c256 : Nat), ∃ (n258 : Nat), ∃ (cs259 : List Value), q254 = q251 ∧ Ev 3 RFarePayment s169 cs259 q254 ∧ q254.length = n258 ∧ Rep a 119 [(5, .slice (some ⟨b58, 0, none⟩) x56.length x56.length), (10, .slice a255 n258 c256), (12, .slice a201 x191.length c202), (13, .int .i64 q222), (15, .int .i64 x207), (69, .slice a163 q161.length c164), (70, .int .i64 ((q161.length : Nat) : Int)), (71, .int .i64 ((k173 : Nat) : Int)), (75, .slice a201 x191.length c202), (76, .int .i64 ((x191).length : Int)), (77, .int .i64 ((k206 : Nat) : Int))] ∧ St w s169 (vecC 41 1 a163 c164 q161.length cs166 :: vecC 3 1 (some ⟨b58, 0, none⟩) x56.length x56.length cs77 :: vecC 65 3 a255 c256 n258 cs259 :: pt b51 (.cells #[.int .i64 ((x0).length : Int)] 3 (0, 0)) :: R)) ?_ ?_
                    · refine W.gen fun K261 hK261 => ?_
                      refine W.cond hE rfl (fun hc262 => ?_) (fun hc262 => ?_)
                      · replace hq250 := iteT hc262 hq250
                        refine W.region ?_
                        refine WL.vS hS hE (runs_plain rfl) (Gives.p hE rfl) rfl ?_; clear hE a; intro a hE
                        refine WL.vS hS hE (runs_plain rfl) (Gives.p hE rfl) rfl ?_; clear hE a; intro a hE
                        refine WL.vS hS hE (runs_plain rfl) (Gives.p hE rfl) rfl ?_; clear hE a; intro a hE
                        refine WL.vS hS hE (runs_plain rfl) (Gives.p hE rfl) rfl ?_; clear hE a; intro a hE
                        refine WL.vS hS hE (runs_plain rfl) (Gives.build hE (vs := [(0, .int .i64 x241), (1, .int .i64 x207), (2, .int .i64 q222)]) [.int .i64 x241, .int .i64 x207, .int .i64 q222] rfl (by kernel_rfl)) rfl ?_; clear hE a; intro a hE
                        refine WL.lit hE hS (e := 65) (es := 3) (vs := [(0, .agg [.int .i64 x241, .int .i64 x207, .int .i64 q222].toArray)]) (cs := [.int .i64 x241, .int .i64 x207, .int .i64 q222]) (runs_plain rfl) rfl (by kernel_rfl) rfl ?_; clear hE hS a w; intro b263 a w hE hS
                        obtain ⟨x264, hx265, hq250⟩ := bindS hq250
                        refine WL.appD hE hS 2 (m := 1) (runs_plain rfl) rfl rfl rfl ap58 rfl h218 rfl (xs := [(FarePayment.mk x241 x207 q222)]) (Ev.cons (c1 := [.int .i64 x241, .int .i64 x207, .int .i64 q222]) rfl rfl (Ev.nil)) rfl rfl hx265 rfl ?_; clear hE hS a w; intro a266 c267 cs268 a w h269 hE hS
                        refine WL.vS hS hE (runs_plain rfl) (Gives.p hE rfl) rfl ?_; clear hE a; intro a hE
                        refine WL.nil ?_
                        subst hK261
                        exact ⟨x264, a266, c267, x264.length, cs268, Option.some.inj hq250, h269, (rfl), hE.pick _ ⟨rfl, rfl, rfl, rfl, rfl, rfl, rfl, rfl, rfl, rfl, rfl, trivial⟩, hS⟩
                      · replace hq250 := iteF hc262 hq250
                        refine W.seq ?_
                        refine W.region ?_
                        refine WL.vS hS hE (runs_plain rfl) (Gives.p hE rfl) rfl ?_; clear hE a; intro a hE
                        refine WL.vS hS hE (runs_plain rfl) (Gives.p hE rfl) rfl ?_; clear hE a; intro a hE
                        refine WL.nil ?_
                        obtain ⟨q271, hq270, hq250⟩ := bindS hq250
                        refine W.cut (fun a w => ∃ (q274 : List FarePayment), ∃ (a275 : Option Addr), ∃ (c276 : Nat), ∃ (n278 : Nat), ∃ (cs279 : List Value), q274 = q271 ∧ Ev 3 RFarePayment s169 cs279 q274 ∧ q274.length = n278 ∧ Rep a 119 [(5, .slice (some ⟨b58, 0, none⟩) x56.length x56.length), (10, .slice a275 n278 c276), (12, .slice a201 x191.length c202), (13, .int .i64 q222), (15, .int .i64 x207), (69, .slice a163 q161.length c164), (70, .int .i64 ((q161.length : Nat) : Int)), (71, .int .i64 ((k173 : Nat) : Int)), (75, .slice a201 x191.length c202), (76, .int .i64 ((x191).length : Int)), (77, .int .i64 ((k206 : Nat) : Int))] ∧ St w s169 (vecC 41 1 a163 c164 q161.length cs166 :: vecC 3 1 (some ⟨b58, 0, none⟩) x56.length x56.length cs77 :: vecC 65 3 a275 c276 n278 cs279 :: pt b51 (.cells #[.int .i64 ((x0).length : Int)] 3 (0, 0)) :: R)) ?_ ?_
                        · refine W.gen fun K281 hK281 => ?_
                          refine W.cond hE rfl (fun hc282 => ?_) (fun hc282 => ?_)
                          · replace hq270 := iteT hc282 hq270
                            refine W.region ?_
                            refine WL.vS hS hE (runs_plain rfl) (Gives.p hE rfl) rfl ?_; clear hE a; intro a hE
                            refine WL.vS hS hE (runs_plain rfl) (Gives.p hE rfl) rfl ?_; clear hE a; intro a hE
                            refine WL.vS hS hE (runs_plain rfl) (Gives.p hE rfl) rfl ?_; clear hE a; intro a hE
                            refine WL.vS hS hE (runs_plain rfl) (Gives.p hE rfl) rfl ?_; clear hE a; intro a hE
                            refine WL.vS hS hE (runs_plain rfl) (Gives.p hE rfl) rfl ?_; clear hE a; intro a hE
                            refine WL.vS hS hE (runs_plain rfl) (Gives.build hE (vs := [(0, .int .i64 x207), (1, .int .i64 x241), (2, .int .i64 (w64 (0 - q222)))]) [.int .i64 x207, .int .i64 x241, .int .i64 (w64 (0 - q222))] rfl (by kernel_rfl)) rfl ?_; clear hE a; intro a hE
                            refine WL.lit hE hS (e := 65) (es := 3) (vs := [(0, .agg [.int .i64 x207, .int .i64 x241, .int .i64 (w64 (0 - q222))].toArray)]) (cs := [.int .i64 x207, .int .i64 x241, .int .i64 (w64 (0 - q222))]) (runs_plain rfl) rfl (by kernel_rfl) rfl ?_; clear hE hS a w; intro b283 a w hE hS
                            obtain ⟨x284, hx285, hq270⟩ := bindS hq270
                            refine WL.appD hE hS 2 (m := 1) (runs_plain rfl) rfl rfl rfl ap58 rfl h218 rfl (xs := [(FarePayment.mk x207 x241 (w64 (0 - q222)))]) (Ev.cons (c1 := [.int .i64 x207, .int .i64 x241, .int .i64 (w64 (0 - q222))]) rfl rfl (Ev.nil)) rfl rfl hx285 rfl ?_; clear hE hS a w; intro a286 c287 cs288 a w h289 hE hS
                            refine WL.vS hS hE (runs_plain rfl) (Gives.p hE rfl) rfl ?_; clear hE a; intro a hE
                            refine WL.nil ?_
                            subst hK281
                            exact ⟨x284, a286, c287, x284.length, cs288, Option.some.inj hq270, h289, (rfl), hE.pick _ ⟨rfl, rfl, rfl, rfl, rfl, rfl, rfl, rfl, rfl, rfl, rfl, trivial⟩, hS⟩
                          · replace hq270 := iteF hc282 hq270
                            refine W.skip ?_
                            subst hK281
                            exact ⟨q215, a216, c217, q215.length, cs220, Option.some.inj hq270, h218, rfl, hE.pick _ ⟨rfl, rfl, rfl, rfl, rfl, rfl, rfl, rfl, rfl, rfl, rfl, trivial⟩, hS⟩
                        · clear hE hS a w; rintro a w ⟨q274, a275, c276, n278, cs279, rfl, h277, rfl, hE, hS⟩
                          subst hK261
                          exact ⟨q274, a275, c276, q274.length, cs279, Option.some.inj hq250, h277, rfl, hE.pick _ ⟨rfl, rfl, rfl, rfl, rfl, rfl, rfl, rfl, rfl, rfl, rfl, trivial⟩, hS⟩
                    · clear hE hS a w; rintro a w ⟨q254, a255, c256, n258, cs259, rfl, h257, rfl, hE, hS⟩
                      subst hK239
                      exact ⟨q254, a255, c256, q254.length, cs259, Option.some.inj hq228, h257, rfl, hE.pick _ ⟨rfl, rfl, rfl, rfl, rfl, rfl, rfl, rfl, rfl, rfl, rfl, trivial⟩, hS⟩
                  · replace hq228 := iteF hc240 hq228
                    refine W.skip ?_
                    subst hK239
                    exact ⟨q215, a216, c217, q215.length, cs220, Option.some.inj hq228, h218, rfl, hE.pick _ ⟨rfl, rfl, rfl, rfl, rfl, rfl, rfl, rfl, rfl, rfl, rfl, trivial⟩, hS⟩
                · clear hE hS a w; rintro a w ⟨q232, a233, c234, n236, cs237, rfl, h235, rfl, hE, hS⟩
                  refine W.region ?_
                  refine WL.vS hS hE (runs_plain rfl) (Gives.p hE rfl) rfl ?_; clear hE a; intro a hE
                  refine WL.vS hS hE (runs_plain rfl) (Gives.p hE rfl) rfl ?_; clear hE a; intro a hE
                  refine WL.vS hS hE (runs_plain rfl) (Gives.p hE rfl) rfl ?_; clear hE a; intro a hE
                  obtain ⟨x290, hx291, hq204⟩ := bindS hq204
                  obtain ⟨hi292, hlt293, hy294⟩ := gx_some hx291
                  obtain ⟨vs295, hl296, hR297, hd298, hget299⟩ := h76.at hy294
                  subst hR297
                  refine WL.vS hS hE (runs_plain rfl) (Gives.idx hE ((x207).toNat) rfl rfl sl41 hi292 (by have := hn78; omega) (hS.vecAok 1 rfl (by have := hn78; omega : (x207).toNat < x56.length))) rfl ?_; clear hE a; intro a hE
                  refine WL.vS hS hE (runs_plain rfl) (Gives.load1 hE rfl (fun w h => St.vecSees h 1 rfl ((x207).toNat * 1) _ hget299) ty3) rfl ?_; clear hE a; intro a hE
                  refine WL.vS hS hE (runs_plain rfl) (Gives.p hE rfl) rfl ?_; clear hE a; intro a hE
                  refine WL.vS hS hE (runs_plain rfl) (Gives.p hE rfl) rfl ?_; clear hE a; intro a hE
                  refine WL.nil ?_
                  refine W.region ?_
                  refine WL.vS hS hE (runs_plain rfl) (Gives.inc hE rfl (by have := h203.small; omega)) rfl ?_; clear hE a; intro a hE
                  refine WL.vS hS hE (runs_plain rfl) (Gives.p hE rfl) rfl ?_; clear hE a; intro a hE
                  refine WL.nil ?_
                  subst hK223
                  exact ⟨rest208.length, Nat.lt_succ_self _, rest208, k206 + 1, q232, (w64 (q222 + x290)), a233, c234, q232.length, cs237, rfl, hd209, hq204, h235, rfl, hE.pick _ ⟨rfl, rfl, rfl, rfl, rfl, rfl, rfl, rfl, rfl, rfl, trivial⟩, hS⟩
            · clear hE hS a w; rintro a w ⟨q215, q222, a216, c217, n219, cs220, rfl, h218, rfl, hE, hS⟩
              dsimp only at hq171
              refine W.region ?_
              refine WL.vS hS hE (runs_plain rfl) (Gives.inc hE rfl (by omega)) rfl ?_; clear hE a; intro a hE
              refine WL.vS hS hE (runs_plain rfl) (Gives.p hE rfl) rfl ?_; clear hE a; intro a hE
              refine WL.nil ?_
              subst hK190
              exact ⟨rest175, Nat.lt_succ_self _, rest175, k173 + 1, q215, a216, c217, q215.length, cs220, rfl, (by omega), hq171, h218, rfl, hE.pick _ ⟨rfl, rfl, rfl, rfl, rfl, trivial⟩, hS⟩
        · clear hE hS a w; rintro a w ⟨q183, a184, c185, n187, cs188, rfl, h186, rfl, hE, hS⟩
          refine W.seq ?_
          refine W.region ?_
          refine WL.vS hS hE (runs_plain rfl) (Gives.p hE rfl) rfl ?_; clear hE a; intro a hE
          obtain ⟨q300, hq301, hr⟩ := bindS hr
          replace hS := hS.front 2 rfl
          have hc_ := SlicesSortFuncLfarePayment_v1_ok hS h186 rfl hq301
          refine WL.fnq hE (hc_) (runs_plain rfl) bd79 rfl rfl rfl ?_
          clear hE hS hc_; rintro e w ⟨cs302, rfl, h303, hn304, hS⟩; refine ⟨_, rfl, ?_⟩; clear a; intro a hE
          refine WL.nil ?_
          refine W.seq ?_
          refine W.region ?_
          refine WL.vS hS hE (runs_plain rfl) (Gives.p hE rfl) rfl ?_; clear hE a; intro a hE
          refine WL.vS hS hE (runs_plain rfl) (Gives.p hE rfl) rfl ?_; clear hE a; intro a hE
          refine WL.vS hS hE (runs_plain rfl) (Gives.p hE rfl) rfl ?_; clear hE a; intro a hE
          refine WL.nil ?_
          refine W.ret ?_
          refine finG (fn := Try.f25) (rs := [.tmp 2, .tmp 3]) (vs := [_, _]) hE rfl ⟨rfl, rfl, trivial⟩ ?_
          obtain rfl := Option.some.inj hr
          replace hS := hS.dropAt 1
          replace hS := hS.dropAt 1
          replace hS := hS.dropAt 1
          exact ⟨a184, c185, q183.length, cs302, s169, rfl, hle170, h303, hn304, hS⟩
set_option maxHeartbeats 8000000 in
theorem Fishref2within_ok  {w : World} {s : Sg} {R : List HP} {x0 : Int} {x1 : Int} {x2 : Int} (hS : St w s (R))  {r : Bool} (hr : Fishref2within x0 x1 x2 = r) :
    Calls Try.prog 61 [.int .i64 x0, .int .i64 x1, .int .i64 x2].toArray w (fun e w => e = .returned (.bool r) ∧ St w s (R)) := by
  refine enter Try.func61 rfl rfl rfl fun a hE => ?_
  rw [Fishref2within] at hr
  refine W.seq ?_
  refine W.region ?_
  refine WL.vS hS hE (runs_plain rfl) (Gives.p hE rfl) rfl ?_; clear hE a; intro a hE
  refine WL.nil ?_
  refine W.seq ?_
  obtain ⟨q52, hq51, hr⟩ := bndS hr
  refine W.cut (fun a w => ∃ (q55 : Bool), q55 = q52 ∧ Rep a 15 [(6, .bool q55)] ∧ St w s (R)) ?_ ?_
  · refine W.gen fun K56 hK56 => ?_
    refine W.region ?_
    refine WL.vS hS hE (runs_plain rfl) (Gives.p hE rfl) rfl ?_; clear hE a; intro a hE
    refine WL.vS hS hE (runs_plain rfl) (Gives.p hE rfl) rfl ?_; clear hE a; intro a hE
    refine WL.vS hS hE (runs_plain rfl) (Gives.p hE rfl) rfl ?_; clear hE a; intro a hE
    refine WL.vS hS hE (runs_plain rfl) (Gives.p hE rfl) rfl ?_; clear hE a; intro a hE
    rcases Bool.eq_false_or_eq_true (decide (x0 ≥ x1)) with hg57 | hg57
    · replace hq51 := iteT hg57 hq51
      refine WL.vS hS hE (runs_if hE rfl rfl rfl hg57) (Gives.p hE rfl) rfl ?_; clear hE a; intro a hE
      refine WL.vS hS hE (runs_if hE rfl rfl rfl hg57) (Gives.p hE rfl) rfl ?_; clear hE a; intro a hE
      refine WL.vS hS hE (runs_if hE rfl rfl rfl hg57) (Gives.p hE rfl) rfl ?_; clear hE a; intro a hE
      refine WL.vS hS hE (runs_plain rfl) (Gives.pickT hE rfl hg57 rfl) rfl ?_; clear hE a; intro a hE
      refine WL.vS hS hE (runs_plain rfl) (Gives.p hE rfl) rfl ?_; clear hE a; intro a hE
      refine WL.nil ?_
      subst hK56
      exact ⟨decide (x0 ≤ x2), hq51, hE.pick _ ⟨rfl, trivial⟩, hS⟩
    · replace hq51 := iteF hg57 hq51
      refine WL.no hE (runs_not hE rfl rfl rfl (by rw [hg57]; decide)) rfl ?_; clear hE a; intro a hE
      refine WL.no hE (runs_not hE rfl rfl rfl (by rw [hg57]; decide)) rfl ?_; clear hE a; intro a hE
      refine WL.no hE (runs_not hE rfl rfl rfl (by rw [hg57]; decide)) rfl ?_; clear hE a; intro a hE
      refine WL.vS hS hE (runs_plain rfl) (Gives.pickF hE rfl hg57 rfl) rfl ?_; clear hE a; intro a hE
      refine WL.vS hS hE (runs_plain rfl) (Gives.p hE rfl) rfl ?_; clear hE a; intro a hE
      refine WL.nil ?_
      subst hK56
      exact ⟨false, hq51, hE.pick _ ⟨rfl, trivial⟩, hS⟩
  · clear hE hS a w; rintro a w ⟨q55, rfl, hE, hS⟩
    refine W.ret ?_
    refine finG (fn := Try.f61) (rs := [.tmp 6]) (vs := [_]) hE rfl ⟨rfl, trivial⟩ ?_
    subst hr
    exact ⟨rfl, hS⟩
set_option maxHeartbeats 8000000 in
theorem Fishref2DebtsFault_ok  {w : World} {s : Sg} {R : List HP} {x0 : List (List Int)} {a0 : Option Addr} {c0 : Nat} (hS : St w s (R)) (h0 : Sl 1 (RL 1 (RI .i64)) s a0 c0 x0) {r : Int} (hr : Fishref2DebtsFault x0 = r) :
    Calls Try.prog 26 [.slice a0 x0.length c0].toArray w (fun e w => e = .returned (.int .i64 r) ∧ St w s (R)) := by
  refine enter Try.func26 rfl rfl rfl fun a hE => ?_
  rw [Fishref2DebtsFault] at hr
  refine W.seq ?_
  refine W.region ?_
  refine WL.vS hS hE (runs_plain rfl) (Gives.p hE rfl) rfl ?_; clear hE a; intro a hE
  refine WL.nil ?_
  refine W.seq ?_
  refine W.seq ?_
  refine W.region ?_
  refine WL.vS hS hE (runs_plain rfl) (Gives.p hE rfl) rfl ?_; clear hE a; intro a hE
  refine WL.vS hS hE (runs_plain rfl) (Gives.len hE rfl sl57) rfl ?_; clear hE a; intro a hE
  refine WL.vS hS hE (runs_plain rfl) (Gives.p hE rfl) rfl ?_; clear hE a; intro a hE
  refine WL.nil ?_
  refine W.cond hE rfl (fun hc51 => ?_) (fun hc51 => ?_)
  · replace hr := iteT hc51 hr
    refine W.seq ?_
    refine W.region ?_
    refine WL.vS hS hE (runs_plain rfl) (Gives.p hE rfl) rfl ?_; clear hE a; intro a hE
    refine WL.nil ?_
    refine W.ret ?_
    refine finG (fn := Try.f26) (rs := [.tmp 2]) (vs := [_]) hE rfl ⟨rfl, trivial⟩ ?_
    subst hr
    exact ⟨rfl, hS⟩
  · replace hr := iteF hc51 hr
    refine W.skip ?_
    refine W.seq ?_
    refine W.seq ?_
    refine W.region ?_
    refine WL.vS hS hE (runs_plain rfl) (Gives.p hE rfl) rfl ?_; clear hE a; intro a hE
    refine WL.vS hS hE (runs_plain rfl) (Gives.len hE rfl sl57) rfl ?_; clear hE a; intro a hE
    refine WL.vS hS hE (runs_plain rfl) (Gives.p hE rfl) rfl ?_; clear hE a; intro a hE
    refine WL.nil ?_
    obtain ⟨q53, hq52, hr⟩ := bndS hr
    refine W.cut (fun a w => (.next ()) = q53 ∧ Rep a 50 [(0, .slice a0 x0.length c0)] ∧ St w s (R)) ?_ ?_
    · refine W.block ?_
      refine W.loop (fun m a w => ∃ (rest56 : List (List Int)) (k54 : Nat), rest56.length = m ∧ x0.drop k54 = rest56 ∧ Fishref2DebtsFault.loop1 x0 rest56 = q53 ∧ Rep a 50 [(0, .slice a0 x0.length c0), (12, .slice a0 x0.length c0), (13, .int .i64 ((x0).length : Int)), (14, .int .i64 ((k54 : Nat) : Int))] ∧ St w s (R)) (m := x0.length) ⟨x0, 0, rfl, rfl, hq52, hE.pick _ ⟨rfl, rfl, rfl, rfl, trivial⟩, hS⟩ ?_
      clear hE hS a w hq52; rintro m60 a w ⟨rest56, k54, rfl, hd57, hq52, hE, hS⟩
      refine W.gen fun K63 hK63 => ?_
      rcases rest56 with _ | ⟨x55, rest56⟩
      · have hlt58 := drop_nil hd57
        refine W.seq ?_
        refine W.region ?_
        refine WL.vS hS hE (runs_plain rfl) (Gives.p hE rfl) rfl ?_; clear hE a; intro a hE
        refine WL.nil ?_
        refine W.seq ?_
        refine W.condF hE rfl (decide_eq_false (by omega)) ?_
        subst hK63
        refine W.exit rfl ?_
        exact ⟨hq52, hE.pick _ ⟨rfl, trivial⟩, hS⟩
      · obtain ⟨hlt58, hx59, hd57⟩ := drop_cons hd57
        rw [Fishref2DebtsFault.loop1] at hq52
        refine W.seq ?_
        refine W.region ?_
        refine WL.vS hS hE (runs_plain rfl) (Gives.p hE rfl) rfl ?_; clear hE a; intro a hE
        refine WL.nil ?_
        refine W.seq ?_
        refine W.condT hE rfl (decide_eq_true (by omega)) ?_
        refine W.skip ?_
        refine W.seq ?_
        refine W.block ?_
        refine W.seq ?_
        refine W.region ?_
        obtain ⟨cs64, hl65, hR66, hat67⟩ := h0.at hx59
        obtain ⟨a68, c69, rfl, h70⟩ := hR66
        refine WL.vS hS hE (runs_plain rfl) (Gives.idx hE k54 rfl rfl sl57 rfl hlt58 (h0.aok hlt58)) rfl ?_; clear hE a; intro a hE
        refine WL.vS hS hE (runs_plain rfl) (Gives.load1 hE rfl (fun w h => hat67 w _ h) ty41) rfl ?_; clear hE a; intro a hE
        refine WL.vS hS hE (runs_plain rfl) (Gives.p hE rfl) rfl ?_; clear hE a; intro a hE
        refine WL.nil ?_
        refine W.seq ?_
        refine W.region ?_
        refine WL.vS hS hE (runs_plain rfl) (Gives.p hE rfl) rfl ?_; clear hE a; intro a hE
        refine WL.vS hS hE (runs_plain rfl) (Gives.len hE rfl sl41) rfl ?_; clear hE a; intro a hE
        refine WL.vS hS hE (runs_plain rfl) (Gives.p hE rfl) rfl ?_; clear hE a; intro a hE
        refine WL.vS hS hE (runs_plain rfl) (Gives.len hE rfl sl57) rfl ?_; clear hE a; intro a hE
        refine WL.vS hS hE (runs_plain rfl) (Gives.p hE rfl) rfl ?_; clear hE a; intro a hE
        refine WL.nil ?_
        refine W.cond hE rfl (fun hc71 => ?_) (fun hc71 => ?_)
        · replace hq52 := iteT hc71 hq52
          refine W.seq ?_
          refine W.region ?_
          refine WL.vS hS hE (runs_plain rfl) (Gives.p hE rfl) rfl ?_; clear hE a; intro a hE
          refine WL.nil ?_
          refine W.ret ?_
          subst hK63
          rw [← hq52] at hr
          dsimp only at hr
          refine finG (fn := Try.f26) (rs := [.tmp 2]) (vs := [_]) hE rfl ⟨rfl, trivial⟩ ?_
          subst hr
          exact ⟨rfl, hS⟩
        · replace hq52 := iteF hc71 hq52
          refine W.skip ?_
          refine W.region ?_
          refine WL.vS hS hE (runs_plain rfl) (Gives.inc hE rfl (by have := h0.small; omega)) rfl ?_; clear hE a; intro a hE
          refine WL.vS hS hE (runs_plain rfl) (Gives.p hE rfl) rfl ?_; clear hE a; intro a hE
          refine WL.nil ?_
          subst hK63
          exact ⟨rest56.length, Nat.lt_succ_self _, rest56, k54 + 1, rfl, hd57, hq52, hE.pick _ ⟨rfl, rfl, rfl, rfl, trivial⟩, hS⟩
    · clear hE hS a w; rintro a w ⟨rfl, hE, hS⟩
      dsimp only at hr
      refine W.seq ?_
      refine W.seq ?_
      refine W.region ?_
      refine WL.vS hS hE (runs_plain rfl) (Gives.p hE rfl) rfl ?_; clear hE a; intro a hE
      refine WL.vS hS hE (runs_plain rfl) (Gives.len hE rfl sl57) rfl ?_; clear hE a; intro a hE
      refine WL.vS hS hE (runs_plain rfl) (Gives.p hE rfl) rfl ?_; clear hE a; intro a hE
      refine WL.nil ?_
      obtain ⟨q73, hq72, hr⟩ := bndS hr
      refine W.cut (fun a w => (.next ()) = q73 ∧ Rep a 50 [] ∧ St w s (R)) ?_ ?_
      · refine W.block ?_
        refine W.loop (fun m a w => ∃ (rest76 : List (List Int)) (k74 : Nat), rest76.length = m ∧ x0.drop k74 = rest76 ∧ Fishref2DebtsFault.loop2 rest76 k74 = q73 ∧ Rep a 50 [(24, .slice a0 x0.length c0), (25, .int .i64 ((x0).length : Int)), (26, .int .i64 ((k74 : Nat) : Int))] ∧ St w s (R)) (m := x0.length) ⟨x0, 0, rfl, rfl, hq72, hE.pick _ ⟨rfl, rfl, rfl, trivial⟩, hS⟩ ?_
        clear hE hS a w hq72; rintro m80 a w ⟨rest76, k74, rfl, hd77, hq72, hE, hS⟩
        refine W.gen fun K83 hK83 => ?_
        rcases rest76 with _ | ⟨x75, rest76⟩
        · have hlt78 := drop_nil hd77
          refine W.seq ?_
          refine W.region ?_
          refine WL.vS hS hE (runs_plain rfl) (Gives.p hE rfl) rfl ?_; clear hE a; intro a hE
          refine WL.nil ?_
          refine W.seq ?_
          refine W.condF hE rfl (decide_eq_false (by omega)) ?_
          subst hK83
          refine W.exit rfl ?_
          exact ⟨hq72, hE.pick _ trivial, hS⟩
        · obtain ⟨hlt78, hx79, hd77⟩ := drop_cons hd77
          rw [Fishref2DebtsFault.loop2] at hq72
          refine W.seq ?_
          refine W.region ?_
          refine WL.vS hS hE (runs_plain rfl) (Gives.p hE rfl) rfl ?_; clear hE a; intro a hE
          refine WL.nil ?_
          refine W.seq ?_
          refine W.condT hE rfl (decide_eq_true (by omega)) ?_
          refine W.skip ?_
          refine W.seq ?_
          refine W.block ?_
          refine W.seq ?_
          refine W.region ?_
          refine WL.vS hS hE (runs_plain rfl) (Gives.p hE rfl) rfl ?_; clear hE a; intro a hE
          obtain ⟨cs84, hl85, hR86, hat87⟩ := h0.at hx79
          obtain ⟨a88, c89, rfl, h90⟩ := hR86
          refine WL.vS hS hE (runs_plain rfl) (Gives.idx hE k74 rfl rfl sl57 rfl hlt78 (h0.aok hlt78)) rfl ?_; clear hE a; intro a hE
          refine WL.vS hS hE (runs_plain rfl) (Gives.load1 hE rfl (fun w h => hat87 w _ h) ty41) rfl ?_; clear hE a; intro a hE
          refine WL.vS hS hE (runs_plain rfl) (Gives.p hE rfl) rfl ?_; clear hE a; intro a hE
          refine WL.vS hS hE (runs_plain rfl) (Gives.p hE rfl) rfl ?_; clear hE a; intro a hE
          refine WL.nil ?_
          refine W.seq ?_
          refine W.region ?_
          refine WL.vS hS hE (runs_plain rfl) (Gives.p hE rfl) rfl ?_; clear hE a; intro a hE
          refine WL.vS hS hE (runs_plain rfl) (Gives.len hE rfl sl41) rfl ?_; clear hE a; intro a hE
          refine WL.vS hS hE (runs_plain rfl) (Gives.p hE rfl) rfl ?_; clear hE a; intro a hE
          refine WL.nil ?_
          obtain ⟨q92, hq91, hq72⟩ := bndS hq72
          refine W.cut (fun a w => (.next ()) = q92 ∧ Rep a 50 [(24, .slice a0 x0.length c0), (25, .int .i64 ((x0).length : Int)), (26, .int .i64 ((k74 : Nat) : Int))] ∧ St w s (R)) ?_ ?_
          · refine W.block ?_
            refine W.loop (fun m a w => ∃ (rest95 : List Int) (k93 : Nat), rest95.length = m ∧ x75.drop k93 = rest95 ∧ Fishref2DebtsFault.loop3 k74 rest95 k93 = q92 ∧ Rep a 50 [(5, .int .i64 ((k74 : Nat) : Int)), (24, .slice a0 x0.length c0), (25, .int .i64 ((x0).length : Int)), (26, .int .i64 ((k74 : Nat) : Int)), (31, .slice a88 x75.length c89), (32, .int .i64 ((x75).length : Int)), (33, .int .i64 ((k93 : Nat) : Int))] ∧ St w s (R)) (m := x75.length) ⟨x75, 0, rfl, rfl, hq91, hE.pick _ ⟨rfl, rfl, rfl, rfl, rfl, rfl, rfl, trivial⟩, hS⟩ ?_
            clear hE hS a w hq91; rintro m99 a w ⟨rest95, k93, rfl, hd96, hq91, hE, hS⟩
            refine W.gen fun K102 hK102 => ?_
            rcases rest95 with _ | ⟨x94, rest95⟩
            · have hlt97 := drop_nil hd96
              refine W.seq ?_
              refine W.region ?_
              refine WL.vS hS hE (runs_plain rfl) (Gives.p hE rfl) rfl ?_; clear hE a; intro a hE
              refine WL.nil ?_
              refine W.seq ?_
              refine W.condF hE rfl (decide_eq_false (by omega)) ?_
              subst hK102
              refine W.exit rfl ?_
              exact ⟨hq91, hE.pick _ ⟨rfl, rfl, rfl, trivial⟩, hS⟩
            · obtain ⟨hlt97, hx98, hd96⟩ := drop_cons hd96
              rw [Fishref2DebtsFault.loop3] at hq91
              refine W.seq ?_
              refine W.region ?_
              refine WL.vS hS hE (runs_plain rfl) (Gives.p hE rfl) rfl ?_; clear hE a; intro a hE
              refine WL.nil ?_
              refine W.seq ?_
              refine W.condT hE rfl (decide_eq_true (by omega)) ?_
              refine W.skip ?_
              refine W.seq ?_
              refine W.block ?_
              refine W.seq ?_
              refine W.region ?_
              refine WL.vS hS hE (runs_plain rfl) (Gives.p hE rfl) rfl ?_; clear hE a; intro a hE
              obtain ⟨cs103, hl104, hR105, hat106⟩ := h90.at hx98
              subst hR105
              refine WL.vS hS hE (runs_plain rfl) (Gives.idx hE k93 rfl rfl sl41 rfl hlt97 (h90.aok hlt97)) rfl ?_; clear hE a; intro a hE
              refine WL.vS hS hE (runs_plain rfl) (Gives.load1 hE rfl (fun w h => hat106 w _ h) ty3) rfl ?_; clear hE a; intro a hE
              refine WL.vS hS hE (runs_plain rfl) (Gives.p hE rfl) rfl ?_; clear hE a; intro a hE
              refine WL.vS hS hE (runs_plain rfl) (Gives.p hE rfl) rfl ?_; clear hE a; intro a hE
              refine WL.nil ?_
              refine W.seq ?_
              refine W.seq ?_
              refine W.region ?_
              refine WL.vS hS hE (runs_plain rfl) (Gives.p hE rfl) rfl ?_; clear hE a; intro a hE
              refine WL.fnq hE (Fishref2within_ok hS  rfl (r := Fishref2within x94 0 100000)) (runs_plain rfl) bd61 rfl rfl rfl ?_
              clear hE hS; rintro e w ⟨rfl, hS⟩; refine ⟨_, rfl, ?_⟩; clear a; intro a hE
              refine WL.vS hS hE (runs_plain rfl) (Gives.p hE rfl) rfl ?_; clear hE a; intro a hE
              refine WL.nil ?_
              refine W.cond hE rfl (fun hc107 => ?_) (fun hc107 => ?_)
              · replace hq91 := iteT hc107 hq91
                refine W.seq ?_
                refine W.region ?_
                refine WL.vS hS hE (runs_plain rfl) (Gives.p hE rfl) rfl ?_; clear hE a; intro a hE
                refine WL.nil ?_
                refine W.ret ?_
                subst hK102
                subst hK83
                rw [← hq91] at hq72
                dsimp only at hq72
                rw [← hq72] at hr
                dsimp only at hr
                refine finG (fn := Try.f26) (rs := [.tmp 2]) (vs := [_]) hE rfl ⟨rfl, trivial⟩ ?_
                subst hr
                exact ⟨rfl, hS⟩
              · replace hq91 := iteF hc107 hq91
                refine W.skip ?_
                refine W.seq ?_
                obtain ⟨q109, hq108, hq91⟩ := bndS hq91
                refine W.cut (fun a w => ∃ (q112 : Bool), q112 = q109 ∧ Rep a 50 [(5, .int .i64 ((k74 : Nat) : Int)), (24, .slice a0 x0.length c0), (25, .int .i64 ((x0).length : Int)), (26, .int .i64 ((k74 : Nat) : Int)), (31, .slice a88 x75.length c89), (32, .int .i64 ((x75).length : Int)), (33, .int .i64 ((k93 : Nat) : Int)), (47, .bool q112)] ∧ St w s (R)) ?_ ?_
                · refine W.gen fun K113 hK113 => ?_
                  refine W.region ?_
                  refine WL.vS hS hE (runs_plain rfl) (Gives.p hE rfl) rfl ?_; clear hE a; intro a hE
                  refine WL.vS hS hE (runs_plain rfl) (Gives.p hE rfl) rfl ?_; clear hE a; intro a hE
                  refine WL.vS hS hE (runs_plain rfl) (Gives.p hE rfl) rfl ?_; clear hE a; intro a hE
                  refine WL.vS hS hE (runs_plain rfl) (Gives.p hE rfl) rfl ?_; clear hE a; intro a hE
                  rcases Bool.eq_false_or_eq_true (((k74 : Nat) : Int) == ((k93 : Nat) : Int)) with hg114 | hg114
                  · replace hq108 := iteT hg114 hq108
                    refine WL.vS hS hE (runs_if hE rfl rfl rfl hg114) (Gives.p hE rfl) rfl ?_; clear hE a; intro a hE
                    refine WL.vS hS hE (runs_if hE rfl rfl rfl hg114) (Gives.p hE rfl) rfl ?_; clear hE a; intro a hE
                    refine WL.vS hS hE (runs_plain rfl) (Gives.pickT hE rfl hg114 rfl) rfl ?_; clear hE a; intro a hE
                    refine WL.nil ?_
                    subst hK113
                    exact ⟨(x94 != 0), hq108, hE.pick _ ⟨rfl, rfl, rfl, rfl, rfl, rfl, rfl, rfl, trivial⟩, hS⟩
                  · replace hq108 := iteF hg114 hq108
                    refine WL.no hE (runs_not hE rfl rfl rfl (by rw [hg114]; decide)) rfl ?_; clear hE a; intro a hE
                    refine WL.no hE (runs_not hE rfl rfl rfl (by rw [hg114]; decide)) rfl ?_; clear hE a; intro a hE
                    refine WL.vS hS hE (runs_plain rfl) (Gives.pickF hE rfl hg114 rfl) rfl ?_; clear hE a; intro a hE
                    refine WL.nil ?_
                    subst hK113
                    exact ⟨false, hq108, hE.pick _ ⟨rfl, rfl, rfl, rfl, rfl, rfl, rfl, rfl, trivial⟩, hS⟩
                · clear hE hS a w; rintro a w ⟨q112, rfl, hE, hS⟩
                  refine W.cond hE rfl (fun hc115 => ?_) (fun hc115 => ?_)
                  · replace hq91 := iteT hc115 hq91
                    refine W.seq ?_
                    refine W.region ?_
                    refine WL.vS hS hE (runs_plain rfl) (Gives.p hE rfl) rfl ?_; clear hE a; intro a hE
                    refine WL.nil ?_
                    refine W.ret ?_
                    subst hK102
                    subst hK83
                    rw [← hq91] at hq72
                    dsimp only at hq72
                    rw [← hq72] at hr
                    dsimp only at hr
                    refine finG (fn := Try.f26) (rs := [.tmp 2]) (vs := [_]) hE rfl ⟨rfl, trivial⟩ ?_
                    subst hr
                    exact ⟨rfl, hS⟩
                  · replace hq91 := iteF hc115 hq91
                    refine W.skip ?_
                    refine W.region ?_
                    refine WL.vS hS hE (runs_plain rfl) (Gives.inc hE rfl (by have := h90.small; omega)) rfl ?_; clear hE a; intro a hE
                    refine WL.vS hS hE (runs_plain rfl) (Gives.p hE rfl) rfl ?_; clear hE a; intro a hE
                    refine WL.nil ?_
                    subst hK102
                    exact ⟨rest95.length, Nat.lt_succ_self _, rest95, k93 + 1, rfl, hd96, hq91, hE.pick _ ⟨rfl, rfl, rfl, rfl, rfl, rfl, rfl, trivial⟩, hS⟩
          · clear hE hS a w; rintro a w ⟨rfl, hE, hS⟩
            dsimp only at hq72
            refine W.region ?_
            refine WL.vS hS hE (runs_plain rfl) (Gives.inc hE rfl (by have := h0.small; omega)) rfl ?_; clear hE a; intro a hE
            refine WL.vS hS hE (runs_plain rfl) (Gives.p hE rfl) rfl ?_; clear hE a; intro a hE
            refine WL.nil ?_
            subst hK83
            exact ⟨rest76.length, Nat.lt_succ_self _, rest76, k74 + 1, rfl, hd77, hq72, hE.pick _ ⟨rfl, rfl, rfl, trivial⟩, hS⟩
      · clear hE hS a w; rintro a w ⟨rfl, hE, hS⟩
        dsimp only at hr
        refine W.seq ?_
        refine W.region ?_
        refine WL.vS hS hE (runs_plain rfl) (Gives.p hE rfl) rfl ?_; clear hE a; intro a hE
        refine WL.nil ?_
        refine W.ret ?_
        refine finG (fn := Try.f26) (rs := [.tmp 2]) (vs := [_]) hE rfl ⟨rfl, trivial⟩ ?_
        subst hr
        exact ⟨rfl, hS⟩
set_option maxHeartbeats 8000000 in
theorem FareCondsize_ok : ∀ {fu : Nat} {w : World} {s : Sg} {R : List HP} {x0 : FareCond} {a0_0 : Option Addr} {c0_0 : Nat} (_hS : St w s (R)) (_h0_0 : Sl 4 RFareCond s a0_0 c0_0 x0.Kids) {r : Int × Int} (_hr : FareCondsize fu x0 = some r),
    Calls Try.prog 114 [.agg [.int .i64 x0.Kind, .int .i64 x0.A, .int .i64 x0.B, .slice a0_0 x0.Kids.length c0_0].toArray].toArray w (fun e w => e = .returned (.tuple #[.int .i64 r.1, .int .i64 r.2]) ∧ St w s (R)) := by
  intro fu
  induction fu with
  | zero => intro w s R x0 a0_0 c0_0 hS h0_0 r hr; rw [FareCondsize] at hr; exact absurd hr (by simp)
  | succ fu ih_FareCondsize =>
    intro w s R x0 a0_0 c0_0 hS h0_0 r hr
    rw [FareCondsize] at hr
    generalize FareCondsize fu = self_FareCondsize at hr ih_FareCondsize
    refine enter Try.func114 rfl rfl rfl fun a hE => ?_
    refine W.seq ?_
    refine W.region ?_
    refine WL.box hE hS (runs_plain rfl) rfl rfl rfl ?_; clear hE hS a w; intro b51 a w hE hS
    refine WL.vS hS hE (runs_plain rfl) (Gives.p hE rfl) rfl ?_; clear hE a; intro a hE
    refine WL.vS hS hE (runs_plain rfl) (Gives.p hE rfl) rfl ?_; clear hE a; intro a hE
    refine WL.nil ?_
    refine W.seq ?_
    refine W.region ?_
    refine WL.vS hS hE (runs_plain rfl) (Gives.p hE rfl) rfl ?_; clear hE a; intro a hE
    refine WL.nil ?_
    refine W.seq ?_
    refine W.seq ?_
    refine W.region ?_
    refine WL.vS hS hE (runs_plain rfl) (Gives.fld hE rfl fl111_3) rfl ?_; clear hE a; intro a hE
    refine WL.vS hS hE (runs_plain rfl) (Gives.loadB hE 0 rfl rfl rfl ty109) rfl ?_; clear hE a; intro a hE
    refine WL.vS hS hE (runs_plain rfl) (Gives.len hE rfl sl109) rfl ?_; clear hE a; intro a hE
    refine WL.vS hS hE (runs_plain rfl) (Gives.p hE rfl) rfl ?_; clear hE a; intro a hE
    refine WL.nil ?_
    obtain ⟨q53, hq52, hr⟩ := bindS hr
    refine W.cut (fun a w => ∃ (q63 : Int), ∃ (q64 : Int), (q63, q64) = q53 ∧ Rep a 30 [(2, .int .i64 q63), (3, .int .i64 q64)] ∧ St w s (pt b51 (.cells #[.int .i64 x0.Kind, .int .i64 x0.A, .int .i64 x0.B, .slice a0_0 x0.Kids.length c0_0] 111 (0, 0)) :: R)) ?_ ?_
    · refine W.block ?_
      refine W.loop (fun m a w => ∃ (rest56 : List FareCond) (k54 : Nat), ∃ (q63 : Int), ∃ (q64 : Int), rest56.length = m ∧ x0.Kids.drop k54 = rest56 ∧ FareCondsize.loop1 self_FareCondsize rest56 q63 q64 = some q53 ∧ Rep a 30 [(2, .int .i64 q63), (3, .int .i64 q64), (9, .slice a0_0 x0.Kids.length c0_0), (10, .int .i64 ((x0.Kids).length : Int)), (11, .int .i64 ((k54 : Nat) : Int))] ∧ St w s (pt b51 (.cells #[.int .i64 x0.Kind, .int .i64 x0.A, .int .i64 x0.B, .slice a0_0 x0.Kids.length c0_0] 111 (0, 0)) :: R)) (m := x0.Kids.length) ⟨x0.Kids, 0, 1, 0, rfl, rfl, hq52, hE.pick _ ⟨rfl, rfl, rfl, rfl, rfl, trivial⟩, hS⟩ ?_
      clear hE hS a w hq52; rintro m60 a w ⟨rest56, k54, q63, q64, rfl, hd57, hq52, hE, hS⟩
      refine W.gen fun K65 hK65 => ?_
      rcases rest56 with _ | ⟨x55, rest56⟩
      · have hlt58 := drop_nil hd57
        refine W.seq ?_
        refine W.region ?_
        refine WL.vS hS hE (runs_plain rfl) (Gives.p hE rfl) rfl ?_; clear hE a; intro a hE
        refine WL.nil ?_
        refine W.seq ?_
        refine W.condF hE rfl (decide_eq_false (by omega)) ?_
        subst hK65
        refine W.exit rfl ?_
        exact ⟨q63, q64, Option.some.inj hq52, hE.pick _ ⟨rfl, rfl, trivial⟩, hS⟩
      · obtain ⟨hlt58, hx59, hd57⟩ := drop_cons hd57
        rw [FareCondsize.loop1] at hq52
        refine W.seq ?_
        refine W.region ?_
        refine WL.vS hS hE (runs_plain rfl) (Gives.p hE rfl) rfl ?_; clear hE a; intro a hE
        refine WL.nil ?_
        refine W.seq ?_
        refine W.condT hE rfl (decide_eq_true (by omega)) ?_
        refine W.skip ?_
        refine W.seq ?_
        refine W.block ?_
        refine W.seq ?_
        refine W.region ?_
        obtain ⟨cs66, hl67, hR68, hat69⟩ := h0_0.at hx59
        obtain ⟨a70, c71, rfl, h72⟩ := hR68.unf
        refine WL.vS hS hE (runs_plain rfl) (Gives.idx hE k54 rfl rfl sl109 rfl hlt58 (h0_0.aok hlt58)) rfl ?_; clear hE a; intro a hE
        refine WL.vS hS hE (runs_plain rfl) (Gives.loadA hE rfl (fun w h => hat69 w _ h) ty111) rfl ?_; clear hE a; intro a hE
        refine WL.alloc hE hS (runs_plain rfl) zr111 rfl ?_; clear hE hS a w; intro b73 a w hE hS
        refine WL.storeI hE hS 0 rfl [.int .i64 x55.Kind, .int .i64 x55.A, .int .i64 x55.B, .slice a70 x55.Kids.length c71] (runs_plain rfl) rfl rfl rfl ty111 rfl rfl rfl rfl ?_; clear hE hS a w; intro a w hE hS
        refine WL.nil ?_
        refine W.seq ?_
        refine W.region ?_
        refine WL.vS hS hE (runs_plain rfl) (Gives.loadBA hE 0 rfl rfl ty111) rfl ?_; clear hE a; intro a hE
        obtain ⟨q74, hq75, hq52⟩ := bindS hq52
        have hc_ := ih_FareCondsize hS h72 hq75
        refine WL.fnq hE (hc_) (runs_plain rfl) bd114 rfl rfl rfl ?_
        clear hE hS hc_; rintro e w ⟨rfl, hS⟩; refine ⟨_, rfl, ?_⟩; clear a; intro a hE
        refine WL.vS hS hE (runs_plain rfl) (Gives.p hE rfl) rfl ?_; clear hE a; intro a hE
        refine WL.vS hS hE (runs_plain rfl) (Gives.p hE rfl) rfl ?_; clear hE a; intro a hE
        refine WL.vS hS hE (runs_plain rfl) (Gives.p hE rfl) rfl ?_; clear hE a; intro a hE
        refine WL.vS hS hE (runs_plain rfl) (Gives.p hE rfl) rfl ?_; clear hE a; intro a hE
        refine WL.vS hS hE (runs_plain rfl) (Gives.p hE rfl) rfl ?_; clear hE a; intro a hE
        refine WL.nil ?_
        refine W.seq ?_
        refine W.region ?_
        refine WL.vS hS hE (runs_plain rfl) (Gives.p hE rfl) rfl ?_; clear hE a; intro a hE
        refine WL.vS hS hE (runs_plain rfl) (Gives.p hE rfl) rfl ?_; clear hE a; intro a hE
        refine WL.vS hS hE (runs_plain rfl) (Gives.p hE rfl) rfl ?_; clear hE a; intro a hE
        refine WL.vS hS hE (runs_plain rfl) (Gives.p hE rfl) rfl ?_; clear hE a; intro a hE
        refine WL.nil ?_
        refine W.region ?_
        refine WL.vS hS hE (runs_plain rfl) (Gives.p hE rfl) rfl ?_; clear hE a; intro a hE
        refine WL.vS hS hE (runs_plain rfl) (Gives.p hE rfl) rfl ?_; clear hE a; intro a hE
        refine WL.vS hS hE (runs_plain rfl) (Gives.max2 hE rfl rfl) rfl ?_; clear hE a; intro a hE
        refine WL.vS hS hE (runs_plain rfl) (Gives.p hE rfl) rfl ?_; clear hE a; intro a hE
        refine WL.nil ?_
        refine W.region ?_
        refine WL.vS hS hE (runs_plain rfl) (Gives.inc hE rfl (by have := h0_0.small; omega)) rfl ?_; clear hE a; intro a hE
        refine WL.vS hS hE (runs_plain rfl) (Gives.p hE rfl) rfl ?_; clear hE a; intro a hE
        refine WL.nil ?_
        replace hS := hS.tail
        subst hK65
        exact ⟨rest56.length, Nat.lt_succ_self _, rest56, k54 + 1, (w64 (q63 + q74.1)), (mx q64 q74.2), rfl, hd57, hq52, hE.pick _ ⟨rfl, rfl, rfl, rfl, rfl, trivial⟩, hS⟩
    · clear hE hS a w; rintro a w ⟨q63, q64, rfl, hE, hS⟩
      dsimp only at hr
      refine W.seq ?_
      refine W.region ?_
      refine WL.vS hS hE (runs_plain rfl) (Gives.p hE rfl) rfl ?_; clear hE a; intro a hE
      refine WL.vS hS hE (runs_plain rfl) (Gives.p hE rfl) rfl ?_; clear hE a; intro a hE
      refine WL.vS hS hE (runs_plain rfl) (Gives.p hE rfl) rfl ?_; clear hE a; intro a hE
      refine WL.vS hS hE (runs_plain rfl) (Gives.p hE rfl) rfl ?_; clear hE a; intro a hE
      refine WL.vS hS hE (runs_plain rfl) (Gives.p hE rfl) rfl ?_; clear hE a; intro a hE
      refine WL.nil ?_
      refine W.ret ?_
      refine finG (fn := Try.f114) (rs := [.tmp 2, .tmp 3]) (vs := [_, _]) hE rfl ⟨rfl, rfl, trivial⟩ ?_
      obtain rfl := Option.some.inj hr
      replace hS := hS.tail
      exact ⟨rfl, hS⟩
set_option maxHeartbeats 8000000 in
theorem Farenumbers_ok  {w : World} {s : Sg} {R : List HP} {x0 : Int} (hS : St w s (R))  {r : Int} (hr : Farenumbers x0 = r) :
    Calls Try.prog 141 [.int .i64 x0].toArray w (fun e w => e = .returned (.int .i64 r) ∧ St w s (R)) := by
  refine enter Try.func141 rfl rfl rfl fun a hE => ?_
  rw [Farenumbers] at hr
  refine W.seq ?_
  refine W.region ?_
  refine WL.vS hS hE (runs_plain rfl) (Gives.p hE rfl) rfl ?_; clear hE a; intro a hE
  refine WL.nil ?_
  refine W.seq ?_
  refine W.seq ?_
  refine W.region ?_
  refine WL.vS hS hE (runs_plain rfl) (Gives.p hE rfl) rfl ?_; clear hE a; intro a hE
  refine WL.nil ?_
  refine W.block ?_
  refine W.seq ?_
  refine W.seq ?_
  refine W.region ?_
  refine WL.vS hS hE (runs_plain rfl) (Gives.p hE rfl) rfl ?_; clear hE a; intro a hE
  refine WL.vS hS hE (runs_plain rfl) (Gives.p hE rfl) rfl ?_; clear hE a; intro a hE
  refine WL.nil ?_
  obtain ⟨q52, hq51, hr⟩ := bndS hr
  refine W.cut (fun a w => ∃ (q55 : Bool), q55 = q52 ∧ Rep a 13 [(3, .int .i64 x0), (4, .bool q55)] ∧ St w s (R)) ?_ ?_
  · refine W.gen fun K56 hK56 => ?_
    refine W.cond hE rfl (fun hc57 => ?_) (fun hc57 => ?_)
    · replace hq51 := iteT hc57 hq51
      refine W.skip ?_
      subst hK56
      exact ⟨(x0 == 2), hq51, hE.pick _ ⟨rfl, rfl, trivial⟩, hS⟩
    · replace hq51 := iteF hc57 hq51
      refine W.seq ?_
      refine W.region ?_
      refine WL.vS hS hE (runs_plain rfl) (Gives.p hE rfl) rfl ?_; clear hE a; intro a hE
      refine WL.vS hS hE (runs_plain rfl) (Gives.p hE rfl) rfl ?_; clear hE a; intro a hE
      refine WL.nil ?_
      obtain ⟨q59, hq58, hq51⟩ := bndS hq51
      refine W.cut (fun a w => ∃ (q62 : Bool), q62 = q59 ∧ Rep a 13 [(3, .int .i64 x0), (4, .bool q62)] ∧ St w s (R)) ?_ ?_
      · refine W.gen fun K63 hK63 => ?_
        refine W.cond hE rfl (fun hc64 => ?_) (fun hc64 => ?_)
        · replace hq58 := iteT hc64 hq58
          refine W.skip ?_
          subst hK63
          exact ⟨(x0 == 3), hq58, hE.pick _ ⟨rfl, rfl, trivial⟩, hS⟩
        · replace hq58 := iteF hc64 hq58
          refine W.seq ?_
          refine W.region ?_
          refine WL.vS hS hE (runs_plain rfl) (Gives.p hE rfl) rfl ?_; clear hE a; intro a hE
          refine WL.vS hS hE (runs_plain rfl) (Gives.p hE rfl) rfl ?_; clear hE a; intro a hE
          refine WL.nil ?_
          obtain ⟨q66, hq65, hq58⟩ := bndS hq58
          refine W.cut (fun a w => ∃ (q69 : Bool), q69 = q66 ∧ Rep a 13 [(3, .int .i64 x0), (4, .bool q69)] ∧ St w s (R)) ?_ ?_
          · refine W.gen fun K70 hK70 => ?_
            refine W.cond hE rfl (fun hc71 => ?_) (fun hc71 => ?_)
            · replace hq65 := iteT hc71 hq65
              refine W.skip ?_
              subst hK70
              exact ⟨(x0 == 4), hq65, hE.pick _ ⟨rfl, rfl, trivial⟩, hS⟩
            · replace hq65 := iteF hc71 hq65
              refine W.region ?_
              refine WL.vS hS hE (runs_plain rfl) (Gives.p hE rfl) rfl ?_; clear hE a; intro a hE
              refine WL.vS hS hE (runs_plain rfl) (Gives.p hE rfl) rfl ?_; clear hE a; intro a hE
              refine WL.nil ?_
              subst hK70
              exact ⟨(x0 == 5), hq65, hE.pick _ ⟨rfl, rfl, trivial⟩, hS⟩
          · clear hE hS a w; rintro a w ⟨q69, rfl, hE, hS⟩
            subst hK63
            exact ⟨q69, hq58, hE.pick _ ⟨rfl, rfl, trivial⟩, hS⟩
      · clear hE hS a w; rintro a w ⟨q62, rfl, hE, hS⟩
        subst hK56
        exact ⟨q62, hq51, hE.pick _ ⟨rfl, rfl, trivial⟩, hS⟩
  · clear hE hS a w; rintro a w ⟨q55, rfl, hE, hS⟩
    refine W.cond hE rfl (fun hc72 => ?_) (fun hc72 => ?_)
    · replace hr := iteT hc72 hr
      refine W.seq ?_
      refine W.region ?_
      refine WL.vS hS hE (runs_plain rfl) (Gives.p hE rfl) rfl ?_; clear hE a; intro a hE
      refine WL.nil ?_
      refine W.ret ?_
      refine finG (fn := Try.f141) (rs := [.tmp 2]) (vs := [_]) hE rfl ⟨rfl, trivial⟩ ?_
      subst hr
      exact ⟨rfl, hS⟩
    · replace hr := iteF hc72 hr
      refine W.seq ?_
      refine W.seq ?_
      refine W.region ?_
      refine WL.vS hS hE (runs_plain rfl) (Gives.p hE rfl) rfl ?_; clear hE a; intro a hE
      refine WL.vS hS hE (runs_plain rfl) (Gives.p hE rfl) rfl ?_; clear hE a; intro a hE
      refine WL.nil ?_
      obtain ⟨q74, hq73, hr⟩ := bndS hr
      refine W.cut (fun a w => ∃ (q77 : Bool), q77 = q74 ∧ Rep a 13 [(9, .bool q77)] ∧ St w s (R)) ?_ ?_
      · refine W.gen fun K78 hK78 => ?_
        refine W.cond hE rfl (fun hc79 => ?_) (fun hc79 => ?_)
        · replace hq73 := iteT hc79 hq73
          refine W.skip ?_
          subst hK78
          exact ⟨(x0 == 6), hq73, hE.pick _ ⟨rfl, trivial⟩, hS⟩
        · replace hq73 := iteF hc79 hq73
          refine W.seq ?_
          refine W.region ?_
          refine WL.vS hS hE (runs_plain rfl) (Gives.p hE rfl) rfl ?_; clear hE a; intro a hE
          refine WL.vS hS hE (runs_plain rfl) (Gives.p hE rfl) rfl ?_; clear hE a; intro a hE
          refine WL.nil ?_
          obtain ⟨q81, hq80, hq73⟩ := bndS hq73
          refine W.cut (fun a w => ∃ (q84 : Bool), q84 = q81 ∧ Rep a 13 [(9, .bool q84)] ∧ St w s (R)) ?_ ?_
          · refine W.gen fun K85 hK85 => ?_
            refine W.cond hE rfl (fun hc86 => ?_) (fun hc86 => ?_)
            · replace hq80 := iteT hc86 hq80
              refine W.skip ?_
              subst hK85
              exact ⟨(x0 == 7), hq80, hE.pick _ ⟨rfl, trivial⟩, hS⟩
            · replace hq80 := iteF hc86 hq80
              refine W.region ?_
              refine WL.vS hS hE (runs_plain rfl) (Gives.p hE rfl) rfl ?_; clear hE a; intro a hE
              refine WL.vS hS hE (runs_plain rfl) (Gives.p hE rfl) rfl ?_; clear hE a; intro a hE
              refine WL.nil ?_
              subst hK85
              exact ⟨(x0 == 8), hq80, hE.pick _ ⟨rfl, trivial⟩, hS⟩
          · clear hE hS a w; rintro a w ⟨q84, rfl, hE, hS⟩
            subst hK78
            exact ⟨q84, hq73, hE.pick _ ⟨rfl, trivial⟩, hS⟩
      · clear hE hS a w; rintro a w ⟨q77, rfl, hE, hS⟩
        refine W.cond hE rfl (fun hc87 => ?_) (fun hc87 => ?_)
        · replace hr := iteT hc87 hr
          refine W.seq ?_
          refine W.region ?_
          refine WL.vS hS hE (runs_plain rfl) (Gives.p hE rfl) rfl ?_; clear hE a; intro a hE
          refine WL.nil ?_
          refine W.ret ?_
          refine finG (fn := Try.f141) (rs := [.tmp 2]) (vs := [_]) hE rfl ⟨rfl, trivial⟩ ?_
          subst hr
          exact ⟨rfl, hS⟩
        · replace hr := iteF hc87 hr
          refine W.skip ?_
          refine W.seq ?_
          refine W.region ?_
          refine WL.vS hS hE (runs_plain rfl) (Gives.p hE rfl) rfl ?_; clear hE a; intro a hE
          refine WL.nil ?_
          refine W.ret ?_
          refine finG (fn := Try.f141) (rs := [.tmp 2]) (vs := [_]) hE rfl ⟨rfl, trivial⟩ ?_
          subst hr
          exact ⟨rfl, hS⟩
end Go.Proofs.Ytdioaeeaifahnaa
