/- The walks of the functions that MendProducts reaches: each call comes to what its mirror says. The conditions are those of each contract. -/
import Derived.Test.YtfioafdipipcaaaProg
import Derived.Test.YtfioafdipipcaaaMendProductsM
import Derived.Test.YtfioafdipipcaaaFpMore
namespace Go.Proofs.Ytfioafdipipcaaa
open Go Go.Fp
theorem ap22 : apOk Try.prog 22 3 1 = true := by kernel_rfl
theorem ap40 : apOk Try.prog 40 22 1 = true := by kernel_rfl
theorem ar112 : arOk Try.prog 112 2 = true := by kernel_rfl
theorem bd15 : bodied Try.prog 15 = true := by kernel_rfl
theorem bd16 : bodied Try.prog 16 = true := by kernel_rfl
theorem bd21 : bodied Try.prog 21 = true := by kernel_rfl
theorem bd28 : bodied Try.prog 28 = true := by kernel_rfl
theorem bd29 : bodied Try.prog 29 = true := by kernel_rfl
theorem bd30 : bodied Try.prog 30 = true := by kernel_rfl
theorem bd31 : bodied Try.prog 31 = true := by kernel_rfl
theorem bd32 : bodied Try.prog 32 = true := by kernel_rfl
theorem bd34 : bodied Try.prog 34 = true := by kernel_rfl
theorem bd47 : bodied Try.prog 47 = true := by kernel_rfl
theorem bd51 : bodied Try.prog 51 = true := by kernel_rfl
theorem bd54 : bodied Try.prog 54 = true := by kernel_rfl
theorem bd55 : bodied Try.prog 55 = true := by kernel_rfl
theorem bd56 : bodied Try.prog 56 = true := by kernel_rfl
theorem bd57 : bodied Try.prog 57 = true := by kernel_rfl
theorem bd61 : bodied Try.prog 61 = true := by kernel_rfl
theorem bd67 : bodied Try.prog 67 = true := by kernel_rfl
theorem bd70 : bodied Try.prog 70 = true := by kernel_rfl
theorem bd71 : bodied Try.prog 71 = true := by kernel_rfl
theorem bd72 : bodied Try.prog 72 = true := by kernel_rfl
theorem bd73 : bodied Try.prog 73 = true := by kernel_rfl
theorem bd74 : bodied Try.prog 74 = true := by kernel_rfl
theorem bd75 : bodied Try.prog 75 = true := by kernel_rfl
theorem bd82 : bodied Try.prog 82 = true := by kernel_rfl
theorem bd85 : bodied Try.prog 85 = true := by kernel_rfl
theorem bd90 : bodied Try.prog 90 = true := by kernel_rfl
theorem bd91 : bodied Try.prog 91 = true := by kernel_rfl
theorem bd93 : bodied Try.prog 93 = true := by kernel_rfl
theorem cp22 : cpOk Try.prog 22 3 1 = true := by kernel_rfl
theorem fl25_0 : fldOk Try.prog 25 0 0 = true := by kernel_rfl
theorem fl25_1 : fldOk Try.prog 25 1 1 = true := by kernel_rfl
theorem fl25_2 : fldOk Try.prog 25 2 2 = true := by kernel_rfl
theorem fl36_0 : fldOk Try.prog 36 0 0 = true := by kernel_rfl
theorem fl36_1 : fldOk Try.prog 36 1 1 = true := by kernel_rfl
theorem fl36_2 : fldOk Try.prog 36 2 2 = true := by kernel_rfl
theorem fl36_3 : fldOk Try.prog 36 3 3 = true := by kernel_rfl
theorem hu123 : (Try.prog.underlying 123).isSome = true := by kernel_rfl
theorem hu3 : (Try.prog.underlying 3).isSome = true := by kernel_rfl
theorem isl22 : isSl Try.prog 22 = true := by kernel_rfl
theorem mixed : Try.prog.follows .mixedOrders = true := by kernel_rfl
theorem sl114 : slOk Try.prog 114 40 1 = true := by kernel_rfl
theorem sl22 : slOk Try.prog 22 3 1 = true := by kernel_rfl
theorem sl23 : slOk Try.prog 23 36 4 = true := by kernel_rfl
theorem sl40 : slOk Try.prog 40 22 1 = true := by kernel_rfl
theorem ty22 : tyOk Try.prog 22 false 1 = true := by kernel_rfl
theorem ty23 : tyOk Try.prog 23 false 1 = true := by kernel_rfl
theorem ty25 : tyOk Try.prog 25 true 3 = true := by kernel_rfl
theorem ty3 : tyOk Try.prog 3 false 1 = true := by kernel_rfl
theorem ty36 : tyOk Try.prog 36 true 4 = true := by kernel_rfl
theorem ty40 : tyOk Try.prog 40 false 1 = true := by kernel_rfl
theorem ui123 : Try.prog.underlying 123 = some (.int .u64) := by kernel_rfl
theorem ui3 : Try.prog.underlying 3 = some (.int .i64) := by kernel_rfl
theorem zr22 : (Try.prog.info? 22).bind (fun i => i.zero.map fun z => z.cells.toList) = some [.slice none 0 0] := by kernel_rfl
theorem zr25 : (Try.prog.info? 25).bind (fun i => i.zero.map fun z => z.cells.toList) = some [.int .i64 0, .slice none 0 0, .slice none 0 0] := by kernel_rfl
theorem zr3 : (Try.prog.info? 3).bind (fun i => i.zero.map fun z => z.cells.toList) = some [.int .i64 0] := by kernel_rfl
theorem zr36 : (Try.prog.info? 36).bind (fun i => i.zero.map fun z => z.cells.toList) = some [.int .i64 0, .int .i64 0, .int .i64 0, .int .i64 0] := by kernel_rfl
set_option maxHeartbeats 8000000 in
theorem MendProduct_1_v1_ok  {w : World} {s : Sg} {R : List HP} {pb0 : Nat} {x0 : List Int} {a0 : Option Addr} {c0 : Nat} {y0 : List (List Int)} {a_y0_0 : Option Addr} {c_y0_0 : Nat} (hS : St w s (pt pb0 (.cells #[.slice a_y0_0 y0.length c_y0_0] 40 (0, 0)) :: R)) (_h0 : Sl 1 (RI .i64) s a0 c0 x0) (_h_y0_0 : Sl 1 (RL 1 (RI .i64)) s a_y0_0 c_y0_0 y0) {r : Bool} (hr : MendProduct_1_v1 x0 y0 = r) :
    Calls Try.prog 71 [.slice a0 x0.length c0, .pointer (some ⟨pb0, 0, none⟩)].toArray w (fun e w => e = .returned (.bool r) ∧ St w s (pt pb0 (.cells #[.slice a_y0_0 y0.length c_y0_0] 40 (0, 0)) :: R)) := by
  refine enter Try.func71 rfl rfl rfl fun a hE => ?_
  rw [MendProduct_1_v1] at hr
  refine W.seq ?_
  refine W.region ?_
  refine WL.vS hS hE (runs_plain rfl) (Gives.p hE rfl) rfl ?_; clear hE a; intro a hE
  refine WL.nil ?_
  refine W.seq ?_
  refine W.region ?_
  refine WL.vS hS hE (runs_plain rfl) (Gives.p hE rfl) rfl ?_; clear hE a; intro a hE
  refine WL.vS hS hE (runs_plain rfl) (Gives.len hE rfl sl22) rfl ?_; clear hE a; intro a hE
  refine WL.vS hS hE (runs_plain rfl) (Gives.loadB hE 0 rfl rfl rfl ty40) rfl ?_; clear hE a; intro a hE
  refine WL.vS hS hE (runs_plain rfl) (Gives.len hE rfl sl40) rfl ?_; clear hE a; intro a hE
  refine WL.vS hS hE (runs_plain rfl) (Gives.p hE rfl) rfl ?_; clear hE a; intro a hE
  refine WL.vS hS hE (runs_plain rfl) (Gives.p hE rfl) rfl ?_; clear hE a; intro a hE
  refine WL.nil ?_
  refine W.ret ?_
  refine finG (fn := Try.f71) (rs := [.tmp 3]) (vs := [_]) hE rfl ⟨rfl, trivial⟩ ?_
  subst hr
  exact ⟨rfl, hS⟩
set_option maxHeartbeats 8000000 in
theorem SlicesIndexFuncLLint_v1_ok  {w : World} {s : Sg} {R : List HP} {pb0 : Nat} {x0 : List (List Int)} {a0 : Option Addr} {c0 : Nat} {y0 : List (List Int)} {a_y0_0 : Option Addr} {c_y0_0 : Nat} (hS : St w s (pt pb0 (.cells #[.slice a_y0_0 y0.length c_y0_0] 40 (0, 0)) :: R)) (h0 : Sl 1 (RL 1 (RI .i64)) s a0 c0 x0) (h_y0_0 : Sl 1 (RL 1 (RI .i64)) s a_y0_0 c_y0_0 y0) {r : Int} (hr : SlicesIndexFuncLLint_v1 x0 y0 = r) :
    Calls Try.prog 90 [.slice a0 x0.length c0, .func (.func 71) #[] #[.pointer (some ⟨pb0, 0, none⟩)]].toArray w (fun e w => e = .returned (.int .i64 r) ∧ St w s (pt pb0 (.cells #[.slice a_y0_0 y0.length c_y0_0] 40 (0, 0)) :: R)) := by
  refine enter Try.func90 rfl rfl rfl fun a hE => ?_
  rw [SlicesIndexFuncLLint_v1] at hr
  refine W.seq ?_
  refine W.region ?_
  refine WL.vS hS hE (runs_plain rfl) (Gives.p hE rfl) rfl ?_; clear hE a; intro a hE
  refine WL.nil ?_
  refine W.seq ?_
  refine W.seq ?_
  refine W.region ?_
  refine WL.vS hS hE (runs_plain rfl) (Gives.p hE rfl) rfl ?_; clear hE a; intro a hE
  refine WL.vS hS hE (runs_plain rfl) (Gives.len hE rfl sl40) rfl ?_; clear hE a; intro a hE
  refine WL.vS hS hE (runs_plain rfl) (Gives.p hE rfl) rfl ?_; clear hE a; intro a hE
  refine WL.nil ?_
  obtain ⟨q52, hq51, hr⟩ := bndS hr
  refine W.cut (fun a w => (.next ()) = q52 ∧ Rep a 19 [] ∧ St w s (pt pb0 (.cells #[.slice a_y0_0 y0.length c_y0_0] 40 (0, 0)) :: R)) ?_ ?_
  · refine W.block ?_
    refine W.loop (fun m a w => ∃ (rest55 : List (List Int)) (k53 : Nat), rest55.length = m ∧ x0.drop k53 = rest55 ∧ SlicesIndexFuncLLint_v1.loop1 y0 rest55 k53 = q52 ∧ Rep a 19 [(0, .slice a0 x0.length c0), (1, .func (.func 71) #[] #[.pointer (some ⟨pb0, 0, none⟩)]), (7, .int .i64 ((x0).length : Int)), (8, .int .i64 ((k53 : Nat) : Int))] ∧ St w s (pt pb0 (.cells #[.slice a_y0_0 y0.length c_y0_0] 40 (0, 0)) :: R)) (m := x0.length) ⟨x0, 0, rfl, rfl, hq51, hE.pick _ ⟨rfl, rfl, rfl, rfl, trivial⟩, hS⟩ ?_
    clear hE hS a w hq51; rintro m59 a w ⟨rest55, k53, rfl, hd56, hq51, hE, hS⟩
    refine W.gen fun K62 hK62 => ?_
    rcases rest55 with _ | ⟨x54, rest55⟩
    · have hlt57 := drop_nil hd56
      refine W.seq ?_
      refine W.region ?_
      refine WL.vS hS hE (runs_plain rfl) (Gives.p hE rfl) rfl ?_; clear hE a; intro a hE
      refine WL.nil ?_
      refine W.seq ?_
      refine W.condF hE rfl (decide_eq_false (by omega)) ?_
      subst hK62
      refine W.exit rfl ?_
      exact ⟨hq51, hE.pick _ trivial, hS⟩
    · obtain ⟨hlt57, hx58, hd56⟩ := drop_cons hd56
      rw [SlicesIndexFuncLLint_v1.loop1] at hq51
      refine W.seq ?_
      refine W.region ?_
      refine WL.vS hS hE (runs_plain rfl) (Gives.p hE rfl) rfl ?_; clear hE a; intro a hE
      refine WL.nil ?_
      refine W.seq ?_
      refine W.condT hE rfl (decide_eq_true (by omega)) ?_
      refine W.skip ?_
      refine W.seq ?_
      refine W.block ?_
      refine W.seq ?_
      refine W.region ?_
      refine WL.vS hS hE (runs_plain rfl) (Gives.p hE rfl) rfl ?_; clear hE a; intro a hE
      refine WL.vS hS hE (runs_plain rfl) (Gives.p hE rfl) rfl ?_; clear hE a; intro a hE
      refine WL.nil ?_
      refine W.seq ?_
      refine W.region ?_
      refine WL.vS hS hE (runs_plain rfl) (Gives.p hE rfl) rfl ?_; clear hE a; intro a hE
      refine WL.vS hS hE (runs_plain rfl) (Gives.p hE rfl) rfl ?_; clear hE a; intro a hE
      refine WL.vS hS hE (runs_plain rfl) (Gives.p hE rfl) rfl ?_; clear hE a; intro a hE
      obtain ⟨cs63, hl64, hR65, hat66⟩ := h0.at hx58
      obtain ⟨a67, c68, rfl, h69⟩ := hR65
      refine WL.vS hS hE (runs_plain rfl) (Gives.idx hE k53 rfl rfl sl40 rfl hlt57 (h0.aok hlt57)) rfl ?_; clear hE a; intro a hE
      refine WL.vS hS hE (runs_plain rfl) (Gives.load1 hE rfl (fun w h => hat66 w _ h) ty22) rfl ?_; clear hE a; intro a hE
      refine WL.fnw hE (MendProduct_1_v1_ok hS h69 h_y0_0 rfl (r := MendProduct_1_v1 x54 y0)) rfl (runs_plain rfl) bd71 rfl rfl rfl ?_
      clear hE hS; rintro e w ⟨rfl, hS⟩; refine ⟨_, rfl, ?_⟩; clear a; intro a hE
      refine WL.nil ?_
      refine W.cond hE rfl (fun hc70 => ?_) (fun hc70 => ?_)
      · replace hq51 := iteT hc70 hq51
        refine W.seq ?_
        refine W.region ?_
        refine WL.vS hS hE (runs_plain rfl) (Gives.p hE rfl) rfl ?_; clear hE a; intro a hE
        refine WL.vS hS hE (runs_plain rfl) (Gives.p hE rfl) rfl ?_; clear hE a; intro a hE
        refine WL.nil ?_
        refine W.ret ?_
        subst hK62
        rw [← hq51] at hr
        dsimp only at hr
        refine finG (fn := Try.f90) (rs := [.tmp 4]) (vs := [_]) hE rfl ⟨rfl, trivial⟩ ?_
        subst hr
        exact ⟨rfl, hS⟩
      · replace hq51 := iteF hc70 hq51
        refine W.skip ?_
        refine W.region ?_
        refine WL.vS hS hE (runs_plain rfl) (Gives.inc hE rfl (by have := h0.small; omega)) rfl ?_; clear hE a; intro a hE
        refine WL.vS hS hE (runs_plain rfl) (Gives.p hE rfl) rfl ?_; clear hE a; intro a hE
        refine WL.nil ?_
        subst hK62
        exact ⟨rest55.length, Nat.lt_succ_self _, rest55, k53 + 1, rfl, hd56, hq51, hE.pick _ ⟨rfl, rfl, rfl, rfl, trivial⟩, hS⟩
  · clear hE hS a w; rintro a w ⟨rfl, hE, hS⟩
    dsimp only at hr
    refine W.seq ?_
    refine W.region ?_
    refine WL.vS hS hE (runs_plain rfl) (Gives.p hE rfl) rfl ?_; clear hE a; intro a hE
    refine WL.nil ?_
    refine W.ret ?_
    refine finG (fn := Try.f90) (rs := [.tmp 4]) (vs := [_]) hE rfl ⟨rfl, trivial⟩ ?_
    subst hr
    exact ⟨rfl, hS⟩
set_option maxHeartbeats 8000000 in
theorem SlicesContainsFuncLLint_v1_ok  {w : World} {s : Sg} {R : List HP} {pb0 : Nat} {x0 : List (List Int)} {a0 : Option Addr} {c0 : Nat} {y0 : List (List Int)} {a_y0_0 : Option Addr} {c_y0_0 : Nat} (hS : St w s (pt pb0 (.cells #[.slice a_y0_0 y0.length c_y0_0] 40 (0, 0)) :: R)) (h0 : Sl 1 (RL 1 (RI .i64)) s a0 c0 x0) (h_y0_0 : Sl 1 (RL 1 (RI .i64)) s a_y0_0 c_y0_0 y0) {r : Bool} (hr : SlicesContainsFuncLLint_v1 x0 y0 = r) :
    Calls Try.prog 70 [.slice a0 x0.length c0, .func (.func 71) #[] #[.pointer (some ⟨pb0, 0, none⟩)]].toArray w (fun e w => e = .returned (.bool r) ∧ St w s (pt pb0 (.cells #[.slice a_y0_0 y0.length c_y0_0] 40 (0, 0)) :: R)) := by
  refine enter Try.func70 rfl rfl rfl fun a hE => ?_
  rw [SlicesContainsFuncLLint_v1] at hr
  refine W.seq ?_
  refine W.region ?_
  refine WL.vS hS hE (runs_plain rfl) (Gives.p hE rfl) rfl ?_; clear hE a; intro a hE
  refine WL.nil ?_
  refine W.seq ?_
  refine W.region ?_
  refine WL.vS hS hE (runs_plain rfl) (Gives.p hE rfl) rfl ?_; clear hE a; intro a hE
  refine WL.vS hS hE (runs_plain rfl) (Gives.p hE rfl) rfl ?_; clear hE a; intro a hE
  refine WL.fnq hE (SlicesIndexFuncLLint_v1_ok hS h0 h_y0_0 rfl (r := SlicesIndexFuncLLint_v1 x0 y0)) (runs_plain rfl) bd90 rfl rfl rfl ?_
  clear hE hS; rintro e w ⟨rfl, hS⟩; refine ⟨_, rfl, ?_⟩; clear a; intro a hE
  refine WL.vS hS hE (runs_plain rfl) (Gives.p hE rfl) rfl ?_; clear hE a; intro a hE
  refine WL.vS hS hE (runs_plain rfl) (Gives.p hE rfl) rfl ?_; clear hE a; intro a hE
  refine WL.nil ?_
  refine W.ret ?_
  refine finG (fn := Try.f70) (rs := [.tmp 4]) (vs := [_]) hE rfl ⟨rfl, trivial⟩ ?_
  subst hr
  exact ⟨rfl, hS⟩
set_option maxHeartbeats 8000000 in
theorem MendProduct_2_v1_ok  {w : World} {s : Sg} {R : List HP} {pb0 : Nat} {x0 : List Int} {a0 : Option Addr} {c0 : Nat} {y0 : List (List Int)} {a_y0_0 : Option Addr} {c_y0_0 : Nat} (hS : St w s (pt pb0 (.cells #[.slice a_y0_0 y0.length c_y0_0] 40 (0, 0)) :: R)) (_h0 : Sl 1 (RI .i64) s a0 c0 x0) (h_y0_0 : Sl 1 (RL 1 (RI .i64)) s a_y0_0 c_y0_0 y0) {r : Bool} (hr : MendProduct_2_v1 x0 y0 = some r) :
    Calls Try.prog 72 [.slice a0 x0.length c0, .pointer (some ⟨pb0, 0, none⟩)].toArray w (fun e w => e = .returned (.bool r) ∧ St w s (pt pb0 (.cells #[.slice a_y0_0 y0.length c_y0_0] 40 (0, 0)) :: R)) := by
  refine enter Try.func72 rfl rfl rfl fun a hE => ?_
  rw [MendProduct_2_v1] at hr
  refine W.seq ?_
  refine W.region ?_
  refine WL.vS hS hE (runs_plain rfl) (Gives.p hE rfl) rfl ?_; clear hE a; intro a hE
  refine WL.nil ?_
  refine W.seq ?_
  refine W.region ?_
  refine WL.vS hS hE (runs_plain rfl) (Gives.p hE rfl) rfl ?_; clear hE a; intro a hE
  refine WL.vS hS hE (runs_plain rfl) (Gives.len hE rfl sl22) rfl ?_; clear hE a; intro a hE
  refine WL.vS hS hE (runs_plain rfl) (Gives.loadB hE 0 rfl rfl rfl ty40) rfl ?_; clear hE a; intro a hE
  obtain ⟨x51, hx52, hr⟩ := bindS hr
  obtain ⟨hi53, hlt54, hy55⟩ := gx_some hx52
  obtain ⟨cs56, hl57, hR58, hat59⟩ := h_y0_0.at hy55
  obtain ⟨a60, c61, rfl, h62⟩ := hR58
  refine WL.vS hS hE (runs_plain rfl) (Gives.idx hE ((0 : Int)).toNat rfl rfl sl40 hi53 hlt54 (h_y0_0.aok hlt54)) rfl ?_; clear hE a; intro a hE
  refine WL.vS hS hE (runs_plain rfl) (Gives.load1 hE rfl (fun w h => hat59 w _ h) ty22) rfl ?_; clear hE a; intro a hE
  refine WL.vS hS hE (runs_plain rfl) (Gives.len hE rfl sl22) rfl ?_; clear hE a; intro a hE
  refine WL.vS hS hE (runs_plain rfl) (Gives.p hE rfl) rfl ?_; clear hE a; intro a hE
  refine WL.vS hS hE (runs_plain rfl) (Gives.p hE rfl) rfl ?_; clear hE a; intro a hE
  refine WL.nil ?_
  refine W.ret ?_
  refine finG (fn := Try.f72) (rs := [.tmp 3]) (vs := [_]) hE rfl ⟨rfl, trivial⟩ ?_
  obtain rfl := Option.some.inj hr
  exact ⟨rfl, hS⟩
set_option maxHeartbeats 8000000 in
theorem SlicesIndexFuncLLint_v2_ok  {w : World} {s : Sg} {R : List HP} {pb0 : Nat} {x0 : List (List Int)} {a0 : Option Addr} {c0 : Nat} {y0 : List (List Int)} {a_y0_0 : Option Addr} {c_y0_0 : Nat} (hS : St w s (pt pb0 (.cells #[.slice a_y0_0 y0.length c_y0_0] 40 (0, 0)) :: R)) (h0 : Sl 1 (RL 1 (RI .i64)) s a0 c0 x0) (h_y0_0 : Sl 1 (RL 1 (RI .i64)) s a_y0_0 c_y0_0 y0) {r : Int} (hr : SlicesIndexFuncLLint_v2 x0 y0 = some r) :
    Calls Try.prog 90 [.slice a0 x0.length c0, .func (.func 72) #[] #[.pointer (some ⟨pb0, 0, none⟩)]].toArray w (fun e w => e = .returned (.int .i64 r) ∧ St w s (pt pb0 (.cells #[.slice a_y0_0 y0.length c_y0_0] 40 (0, 0)) :: R)) := by
  refine enter Try.func90 rfl rfl rfl fun a hE => ?_
  rw [SlicesIndexFuncLLint_v2] at hr
  refine W.seq ?_
  refine W.region ?_
  refine WL.vS hS hE (runs_plain rfl) (Gives.p hE rfl) rfl ?_; clear hE a; intro a hE
  refine WL.nil ?_
  refine W.seq ?_
  refine W.seq ?_
  refine W.region ?_
  refine WL.vS hS hE (runs_plain rfl) (Gives.p hE rfl) rfl ?_; clear hE a; intro a hE
  refine WL.vS hS hE (runs_plain rfl) (Gives.len hE rfl sl40) rfl ?_; clear hE a; intro a hE
  refine WL.vS hS hE (runs_plain rfl) (Gives.p hE rfl) rfl ?_; clear hE a; intro a hE
  refine WL.nil ?_
  obtain ⟨q52, hq51, hr⟩ := bindS hr
  refine W.cut (fun a w => (.next ()) = q52 ∧ Rep a 19 [] ∧ St w s (pt pb0 (.cells #[.slice a_y0_0 y0.length c_y0_0] 40 (0, 0)) :: R)) ?_ ?_
  · refine W.block ?_
    refine W.loop (fun m a w => ∃ (rest55 : List (List Int)) (k53 : Nat), rest55.length = m ∧ x0.drop k53 = rest55 ∧ SlicesIndexFuncLLint_v2.loop1 y0 rest55 k53 = some q52 ∧ Rep a 19 [(0, .slice a0 x0.length c0), (1, .func (.func 72) #[] #[.pointer (some ⟨pb0, 0, none⟩)]), (7, .int .i64 ((x0).length : Int)), (8, .int .i64 ((k53 : Nat) : Int))] ∧ St w s (pt pb0 (.cells #[.slice a_y0_0 y0.length c_y0_0] 40 (0, 0)) :: R)) (m := x0.length) ⟨x0, 0, rfl, rfl, hq51, hE.pick _ ⟨rfl, rfl, rfl, rfl, trivial⟩, hS⟩ ?_
    clear hE hS a w hq51; rintro m59 a w ⟨rest55, k53, rfl, hd56, hq51, hE, hS⟩
    refine W.gen fun K62 hK62 => ?_
    rcases rest55 with _ | ⟨x54, rest55⟩
    · have hlt57 := drop_nil hd56
      refine W.seq ?_
      refine W.region ?_
      refine WL.vS hS hE (runs_plain rfl) (Gives.p hE rfl) rfl ?_; clear hE a; intro a hE
      refine WL.nil ?_
      refine W.seq ?_
      refine W.condF hE rfl (decide_eq_false (by omega)) ?_
      subst hK62
      refine W.exit rfl ?_
      exact ⟨Option.some.inj hq51, hE.pick _ trivial, hS⟩
    · obtain ⟨hlt57, hx58, hd56⟩ := drop_cons hd56
      rw [SlicesIndexFuncLLint_v2.loop1] at hq51
      refine W.seq ?_
      refine W.region ?_
      refine WL.vS hS hE (runs_plain rfl) (Gives.p hE rfl) rfl ?_; clear hE a; intro a hE
      refine WL.nil ?_
      refine W.seq ?_
      refine W.condT hE rfl (decide_eq_true (by omega)) ?_
      refine W.skip ?_
      refine W.seq ?_
      refine W.block ?_
      refine W.seq ?_
      refine W.region ?_
      refine WL.vS hS hE (runs_plain rfl) (Gives.p hE rfl) rfl ?_; clear hE a; intro a hE
      refine WL.vS hS hE (runs_plain rfl) (Gives.p hE rfl) rfl ?_; clear hE a; intro a hE
      refine WL.nil ?_
      refine W.seq ?_
      refine W.region ?_
      refine WL.vS hS hE (runs_plain rfl) (Gives.p hE rfl) rfl ?_; clear hE a; intro a hE
      refine WL.vS hS hE (runs_plain rfl) (Gives.p hE rfl) rfl ?_; clear hE a; intro a hE
      refine WL.vS hS hE (runs_plain rfl) (Gives.p hE rfl) rfl ?_; clear hE a; intro a hE
      obtain ⟨cs63, hl64, hR65, hat66⟩ := h0.at hx58
      obtain ⟨a67, c68, rfl, h69⟩ := hR65
      refine WL.vS hS hE (runs_plain rfl) (Gives.idx hE k53 rfl rfl sl40 rfl hlt57 (h0.aok hlt57)) rfl ?_; clear hE a; intro a hE
      refine WL.vS hS hE (runs_plain rfl) (Gives.load1 hE rfl (fun w h => hat66 w _ h) ty22) rfl ?_; clear hE a; intro a hE
      obtain ⟨q70, hq71, hq51⟩ := bindS hq51
      have hc_ := MendProduct_2_v1_ok hS h69 h_y0_0 hq71
      refine WL.fnw hE (hc_) rfl (runs_plain rfl) bd72 rfl rfl rfl ?_
      clear hE hS hc_; rintro e w ⟨rfl, hS⟩; refine ⟨_, rfl, ?_⟩; clear a; intro a hE
      refine WL.nil ?_
      refine W.cond hE rfl (fun hc72 => ?_) (fun hc72 => ?_)
      · replace hq51 := iteT hc72 hq51
        refine W.seq ?_
        refine W.region ?_
        refine WL.vS hS hE (runs_plain rfl) (Gives.p hE rfl) rfl ?_; clear hE a; intro a hE
        refine WL.vS hS hE (runs_plain rfl) (Gives.p hE rfl) rfl ?_; clear hE a; intro a hE
        refine WL.nil ?_
        refine W.ret ?_
        subst hK62
        rw [← Option.some.inj hq51] at hr
        dsimp only at hr
        refine finG (fn := Try.f90) (rs := [.tmp 4]) (vs := [_]) hE rfl ⟨rfl, trivial⟩ ?_
        obtain rfl := Option.some.inj hr
        exact ⟨rfl, hS⟩
      · replace hq51 := iteF hc72 hq51
        refine W.skip ?_
        refine W.region ?_
        refine WL.vS hS hE (runs_plain rfl) (Gives.inc hE rfl (by have := h0.small; omega)) rfl ?_; clear hE a; intro a hE
        refine WL.vS hS hE (runs_plain rfl) (Gives.p hE rfl) rfl ?_; clear hE a; intro a hE
        refine WL.nil ?_
        subst hK62
        exact ⟨rest55.length, Nat.lt_succ_self _, rest55, k53 + 1, rfl, hd56, hq51, hE.pick _ ⟨rfl, rfl, rfl, rfl, trivial⟩, hS⟩
  · clear hE hS a w; rintro a w ⟨rfl, hE, hS⟩
    dsimp only at hr
    refine W.seq ?_
    refine W.region ?_
    refine WL.vS hS hE (runs_plain rfl) (Gives.p hE rfl) rfl ?_; clear hE a; intro a hE
    refine WL.nil ?_
    refine W.ret ?_
    refine finG (fn := Try.f90) (rs := [.tmp 4]) (vs := [_]) hE rfl ⟨rfl, trivial⟩ ?_
    obtain rfl := Option.some.inj hr
    exact ⟨rfl, hS⟩
set_option maxHeartbeats 8000000 in
theorem SlicesContainsFuncLLint_v2_ok  {w : World} {s : Sg} {R : List HP} {pb0 : Nat} {x0 : List (List Int)} {a0 : Option Addr} {c0 : Nat} {y0 : List (List Int)} {a_y0_0 : Option Addr} {c_y0_0 : Nat} (hS : St w s (pt pb0 (.cells #[.slice a_y0_0 y0.length c_y0_0] 40 (0, 0)) :: R)) (h0 : Sl 1 (RL 1 (RI .i64)) s a0 c0 x0) (h_y0_0 : Sl 1 (RL 1 (RI .i64)) s a_y0_0 c_y0_0 y0) {r : Bool} (hr : SlicesContainsFuncLLint_v2 x0 y0 = some r) :
    Calls Try.prog 70 [.slice a0 x0.length c0, .func (.func 72) #[] #[.pointer (some ⟨pb0, 0, none⟩)]].toArray w (fun e w => e = .returned (.bool r) ∧ St w s (pt pb0 (.cells #[.slice a_y0_0 y0.length c_y0_0] 40 (0, 0)) :: R)) := by
  refine enter Try.func70 rfl rfl rfl fun a hE => ?_
  rw [SlicesContainsFuncLLint_v2] at hr
  refine W.seq ?_
  refine W.region ?_
  refine WL.vS hS hE (runs_plain rfl) (Gives.p hE rfl) rfl ?_; clear hE a; intro a hE
  refine WL.nil ?_
  refine W.seq ?_
  refine W.region ?_
  refine WL.vS hS hE (runs_plain rfl) (Gives.p hE rfl) rfl ?_; clear hE a; intro a hE
  refine WL.vS hS hE (runs_plain rfl) (Gives.p hE rfl) rfl ?_; clear hE a; intro a hE
  obtain ⟨q51, hq52, hr⟩ := bindS hr
  have hc_ := SlicesIndexFuncLLint_v2_ok hS h0 h_y0_0 hq52
  refine WL.fnq hE (hc_) (runs_plain rfl) bd90 rfl rfl rfl ?_
  clear hE hS hc_; rintro e w ⟨rfl, hS⟩; refine ⟨_, rfl, ?_⟩; clear a; intro a hE
  refine WL.vS hS hE (runs_plain rfl) (Gives.p hE rfl) rfl ?_; clear hE a; intro a hE
  refine WL.vS hS hE (runs_plain rfl) (Gives.p hE rfl) rfl ?_; clear hE a; intro a hE
  refine WL.nil ?_
  refine W.ret ?_
  refine finG (fn := Try.f70) (rs := [.tmp 4]) (vs := [_]) hE rfl ⟨rfl, trivial⟩ ?_
  obtain rfl := Option.some.inj hr
  exact ⟨rfl, hS⟩
set_option maxHeartbeats 8000000 in
theorem Mendwithin_ok  {w : World} {s : Sg} {R : List HP} {x0 : Int} {x1 : Int} {x2 : Int} (hS : St w s (R))  {r : Bool} (hr : Mendwithin x0 x1 x2 = r) :
    Calls Try.prog 54 [.int .i64 x0, .int .i64 x1, .int .i64 x2].toArray w (fun e w => e = .returned (.bool r) ∧ St w s (R)) := by
  refine enter Try.func54 rfl rfl rfl fun a hE => ?_
  rw [Mendwithin] at hr
  refine W.seq ?_
  refine W.region ?_
  refine WL.vS hS hE (runs_plain rfl) (Gives.p hE rfl) rfl ?_; clear hE a; intro a hE
  refine WL.nil ?_
  refine W.seq ?_
  obtain ⟨q52, hq51, hr⟩ := bndS hr
  refine W.cut (fun a w => ∃ (q55 : Bool), q55 = q52 ∧ Rep a 15 [(6, .bool q55)] ∧ St w s (R)) ?_ ?_
  · refine W.gen fun K56 hK56 => ?_
    refine W.region ?_
    refine WL.vS hS hE (runs_plain rfl) (Gives.p hE rfl) rfl ?_; clear hE a; intro a hE
    refine WL.vS hS hE (runs_plain rfl) (Gives.p hE rfl) rfl ?_; clear hE a; intro a hE
    refine WL.vS hS hE (runs_plain rfl) (Gives.p hE rfl) rfl ?_; clear hE a; intro a hE
    refine WL.vS hS hE (runs_plain rfl) (Gives.p hE rfl) rfl ?_; clear hE a; intro a hE
    rcases Bool.eq_false_or_eq_true (decide (x0 ≥ x1)) with hg57 | hg57
    · replace hq51 := iteT hg57 hq51
      refine WL.vS hS hE (runs_if hE rfl rfl rfl hg57) (Gives.p hE rfl) rfl ?_; clear hE a; intro a hE
      refine WL.vS hS hE (runs_if hE rfl rfl rfl hg57) (Gives.p hE rfl) rfl ?_; clear hE a; intro a hE
      refine WL.vS hS hE (runs_if hE rfl rfl rfl hg57) (Gives.p hE rfl) rfl ?_; clear hE a; intro a hE
      refine WL.vS hS hE (runs_plain rfl) (Gives.pickT hE rfl hg57 rfl) rfl ?_; clear hE a; intro a hE
      refine WL.vS hS hE (runs_plain rfl) (Gives.p hE rfl) rfl ?_; clear hE a; intro a hE
      refine WL.nil ?_
      subst hK56
      exact ⟨decide (x0 ≤ x2), hq51, hE.pick _ ⟨rfl, trivial⟩, hS⟩
    · replace hq51 := iteF hg57 hq51
      refine WL.no hE (runs_not hE rfl rfl rfl (by rw [hg57]; decide)) rfl ?_; clear hE a; intro a hE
      refine WL.no hE (runs_not hE rfl rfl rfl (by rw [hg57]; decide)) rfl ?_; clear hE a; intro a hE
      refine WL.no hE (runs_not hE rfl rfl rfl (by rw [hg57]; decide)) rfl ?_; clear hE a; intro a hE
      refine WL.vS hS hE (runs_plain rfl) (Gives.pickF hE rfl hg57 rfl) rfl ?_; clear hE a; intro a hE
      refine WL.vS hS hE (runs_plain rfl) (Gives.p hE rfl) rfl ?_; clear hE a; intro a hE
      refine WL.nil ?_
      subst hK56
      exact ⟨false, hq51, hE.pick _ ⟨rfl, trivial⟩, hS⟩
  · clear hE hS a w; rintro a w ⟨q55, rfl, hE, hS⟩
    refine W.ret ?_
    refine finG (fn := Try.f54) (rs := [.tmp 6]) (vs := [_]) hE rfl ⟨rfl, trivial⟩ ?_
    subst hr
    exact ⟨rfl, hS⟩
set_option maxHeartbeats 8000000 in
theorem MendcheckTable_1_ok  {w : World} {s : Sg} {R : List HP} {x0 : Int} (hS : St w s (R))  {r : Bool} (hr : MendcheckTable_1 x0 = r) :
    Calls Try.prog 91 [.int .i64 x0].toArray w (fun e w => e = .returned (.bool r) ∧ St w s (R)) := by
  refine enter Try.func91 rfl rfl rfl fun a hE => ?_
  rw [MendcheckTable_1] at hr
  refine W.seq ?_
  refine W.region ?_
  refine WL.vS hS hE (runs_plain rfl) (Gives.p hE rfl) rfl ?_; clear hE a; intro a hE
  refine WL.nil ?_
  refine W.seq ?_
  obtain ⟨q52, hq51, hr⟩ := bndS hr
  refine W.cut (fun a w => ∃ (q55 : Bool), q55 = q52 ∧ Rep a 10 [(2, .bool q55)] ∧ St w s (R)) ?_ ?_
  · refine W.gen fun K56 hK56 => ?_
    refine W.region ?_
    refine WL.vS hS hE (runs_plain rfl) (Gives.p hE rfl) rfl ?_; clear hE a; intro a hE
    refine WL.vS hS hE (runs_plain rfl) (Gives.p hE rfl) rfl ?_; clear hE a; intro a hE
    refine WL.vS hS hE (runs_plain rfl) (Gives.p hE rfl) rfl ?_; clear hE a; intro a hE
    rcases Bool.eq_false_or_eq_true (x0 != (-4611686018427387904)) with hg57 | hg57
    · replace hq51 := iteT hg57 hq51
      refine WL.vS hS hE (runs_if hE rfl rfl rfl hg57) (Gives.p hE rfl) rfl ?_; clear hE a; intro a hE
      refine WL.fnq hE (Mendwithin_ok hS  rfl (r := Mendwithin x0 (-1099511627776) 1099511627776)) (runs_if hE rfl rfl rfl hg57) bd54 rfl rfl rfl ?_
      clear hE hS; rintro e w ⟨rfl, hS⟩; refine ⟨_, rfl, ?_⟩; clear a; intro a hE
      refine WL.vS hS hE (runs_if hE rfl rfl rfl hg57) (Gives.p hE rfl) rfl ?_; clear hE a; intro a hE
      refine WL.vS hS hE (runs_plain rfl) (Gives.pickT hE rfl hg57 rfl) rfl ?_; clear hE a; intro a hE
      refine WL.vS hS hE (runs_plain rfl) (Gives.p hE rfl) rfl ?_; clear hE a; intro a hE
      refine WL.nil ?_
      subst hK56
      exact ⟨!(Mendwithin x0 (-1099511627776) 1099511627776), hq51, hE.pick _ ⟨rfl, trivial⟩, hS⟩
    · replace hq51 := iteF hg57 hq51
      refine WL.no hE (runs_not hE rfl rfl rfl (by rw [hg57]; decide)) rfl ?_; clear hE a; intro a hE
      refine WL.no hE (runs_not hE rfl rfl rfl (by rw [hg57]; decide)) rfl ?_; clear hE a; intro a hE
      refine WL.no hE (runs_not hE rfl rfl rfl (by rw [hg57]; decide)) rfl ?_; clear hE a; intro a hE
      refine WL.vS hS hE (runs_plain rfl) (Gives.pickF hE rfl hg57 rfl) rfl ?_; clear hE a; intro a hE
      refine WL.vS hS hE (runs_plain rfl) (Gives.p hE rfl) rfl ?_; clear hE a; intro a hE
      refine WL.nil ?_
      subst hK56
      exact ⟨false, hq51, hE.pick _ ⟨rfl, trivial⟩, hS⟩
  · clear hE hS a w; rintro a w ⟨q55, rfl, hE, hS⟩
    refine W.ret ?_
    refine finG (fn := Try.f91) (rs := [.tmp 2]) (vs := [_]) hE rfl ⟨rfl, trivial⟩ ?_
    subst hr
    exact ⟨rfl, hS⟩
set_option maxHeartbeats 8000000 in
theorem SlicesIndexFuncLint_v1_ok  {w : World} {s : Sg} {R : List HP} {x0 : List Int} {a0 : Option Addr} {c0 : Nat} (hS : St w s (R)) (h0 : Sl 1 (RI .i64) s a0 c0 x0) {r : Int} (hr : SlicesIndexFuncLint_v1 x0 = r) :
    Calls Try.prog 82 [.slice a0 x0.length c0, .func (.func 91) #[] #[]].toArray w (fun e w => e = .returned (.int .i64 r) ∧ St w s (R)) := by
  refine enter Try.func82 rfl rfl rfl fun a hE => ?_
  rw [SlicesIndexFuncLint_v1] at hr
  refine W.seq ?_
  refine W.region ?_
  refine WL.vS hS hE (runs_plain rfl) (Gives.p hE rfl) rfl ?_; clear hE a; intro a hE
  refine WL.nil ?_
  refine W.seq ?_
  refine W.seq ?_
  refine W.region ?_
  refine WL.vS hS hE (runs_plain rfl) (Gives.p hE rfl) rfl ?_; clear hE a; intro a hE
  refine WL.vS hS hE (runs_plain rfl) (Gives.len hE rfl sl22) rfl ?_; clear hE a; intro a hE
  refine WL.vS hS hE (runs_plain rfl) (Gives.p hE rfl) rfl ?_; clear hE a; intro a hE
  refine WL.nil ?_
  obtain ⟨q52, hq51, hr⟩ := bndS hr
  refine W.cut (fun a w => (.next ()) = q52 ∧ Rep a 19 [] ∧ St w s (R)) ?_ ?_
  · refine W.block ?_
    refine W.loop (fun m a w => ∃ (rest55 : List Int) (k53 : Nat), rest55.length = m ∧ x0.drop k53 = rest55 ∧ SlicesIndexFuncLint_v1.loop1 rest55 k53 = q52 ∧ Rep a 19 [(0, .slice a0 x0.length c0), (1, .func (.func 91) #[] #[]), (7, .int .i64 ((x0).length : Int)), (8, .int .i64 ((k53 : Nat) : Int))] ∧ St w s (R)) (m := x0.length) ⟨x0, 0, rfl, rfl, hq51, hE.pick _ ⟨rfl, rfl, rfl, rfl, trivial⟩, hS⟩ ?_
    clear hE hS a w hq51; rintro m59 a w ⟨rest55, k53, rfl, hd56, hq51, hE, hS⟩
    refine W.gen fun K62 hK62 => ?_
    rcases rest55 with _ | ⟨x54, rest55⟩
    · have hlt57 := drop_nil hd56
      refine W.seq ?_
      refine W.region ?_
      refine WL.vS hS hE (runs_plain rfl) (Gives.p hE rfl) rfl ?_; clear hE a; intro a hE
      refine WL.nil ?_
      refine W.seq ?_
      refine W.condF hE rfl (decide_eq_false (by omega)) ?_
      subst hK62
      refine W.exit rfl ?_
      exact ⟨hq51, hE.pick _ trivial, hS⟩
    · obtain ⟨hlt57, hx58, hd56⟩ := drop_cons hd56
      rw [SlicesIndexFuncLint_v1.loop1] at hq51
      refine W.seq ?_
      refine W.region ?_
      refine WL.vS hS hE (runs_plain rfl) (Gives.p hE rfl) rfl ?_; clear hE a; intro a hE
      refine WL.nil ?_
      refine W.seq ?_
      refine W.condT hE rfl (decide_eq_true (by omega)) ?_
      refine W.skip ?_
      refine W.seq ?_
      refine W.block ?_
      refine W.seq ?_
      refine W.region ?_
      refine WL.vS hS hE (runs_plain rfl) (Gives.p hE rfl) rfl ?_; clear hE a; intro a hE
      refine WL.vS hS hE (runs_plain rfl) (Gives.p hE rfl) rfl ?_; clear hE a; intro a hE
      refine WL.nil ?_
      refine W.seq ?_
      refine W.region ?_
      refine WL.vS hS hE (runs_plain rfl) (Gives.p hE rfl) rfl ?_; clear hE a; intro a hE
      refine WL.vS hS hE (runs_plain rfl) (Gives.p hE rfl) rfl ?_; clear hE a; intro a hE
      refine WL.vS hS hE (runs_plain rfl) (Gives.p hE rfl) rfl ?_; clear hE a; intro a hE
      obtain ⟨cs63, hl64, hR65, hat66⟩ := h0.at hx58
      subst hR65
      refine WL.vS hS hE (runs_plain rfl) (Gives.idx hE k53 rfl rfl sl22 rfl hlt57 (h0.aok hlt57)) rfl ?_; clear hE a; intro a hE
      refine WL.vS hS hE (runs_plain rfl) (Gives.load1 hE rfl (fun w h => hat66 w _ h) ty3) rfl ?_; clear hE a; intro a hE
      refine WL.fnw hE (MendcheckTable_1_ok hS  rfl (r := MendcheckTable_1 x54)) rfl (runs_plain rfl) bd91 rfl rfl rfl ?_
      clear hE hS; rintro e w ⟨rfl, hS⟩; refine ⟨_, rfl, ?_⟩; clear a; intro a hE
      refine WL.nil ?_
      refine W.cond hE rfl (fun hc67 => ?_) (fun hc67 => ?_)
      · replace hq51 := iteT hc67 hq51
        refine W.seq ?_
        refine W.region ?_
        refine WL.vS hS hE (runs_plain rfl) (Gives.p hE rfl) rfl ?_; clear hE a; intro a hE
        refine WL.vS hS hE (runs_plain rfl) (Gives.p hE rfl) rfl ?_; clear hE a; intro a hE
        refine WL.nil ?_
        refine W.ret ?_
        subst hK62
        rw [← hq51] at hr
        dsimp only at hr
        refine finG (fn := Try.f82) (rs := [.tmp 4]) (vs := [_]) hE rfl ⟨rfl, trivial⟩ ?_
        subst hr
        exact ⟨rfl, hS⟩
      · replace hq51 := iteF hc67 hq51
        refine W.skip ?_
        refine W.region ?_
        refine WL.vS hS hE (runs_plain rfl) (Gives.inc hE rfl (by have := h0.small; omega)) rfl ?_; clear hE a; intro a hE
        refine WL.vS hS hE (runs_plain rfl) (Gives.p hE rfl) rfl ?_; clear hE a; intro a hE
        refine WL.nil ?_
        subst hK62
        exact ⟨rest55.length, Nat.lt_succ_self _, rest55, k53 + 1, rfl, hd56, hq51, hE.pick _ ⟨rfl, rfl, rfl, rfl, trivial⟩, hS⟩
  · clear hE hS a w; rintro a w ⟨rfl, hE, hS⟩
    dsimp only at hr
    refine W.seq ?_
    refine W.region ?_
    refine WL.vS hS hE (runs_plain rfl) (Gives.p hE rfl) rfl ?_; clear hE a; intro a hE
    refine WL.nil ?_
    refine W.ret ?_
    refine finG (fn := Try.f82) (rs := [.tmp 4]) (vs := [_]) hE rfl ⟨rfl, trivial⟩ ?_
    subst hr
    exact ⟨rfl, hS⟩
set_option maxHeartbeats 8000000 in
theorem SlicesContainsFuncLint_v1_ok  {w : World} {s : Sg} {R : List HP} {x0 : List Int} {a0 : Option Addr} {c0 : Nat} (hS : St w s (R)) (h0 : Sl 1 (RI .i64) s a0 c0 x0) {r : Bool} (hr : SlicesContainsFuncLint_v1 x0 = r) :
    Calls Try.prog 47 [.slice a0 x0.length c0, .func (.func 91) #[] #[]].toArray w (fun e w => e = .returned (.bool r) ∧ St w s (R)) := by
  refine enter Try.func47 rfl rfl rfl fun a hE => ?_
  rw [SlicesContainsFuncLint_v1] at hr
  refine W.seq ?_
  refine W.region ?_
  refine WL.vS hS hE (runs_plain rfl) (Gives.p hE rfl) rfl ?_; clear hE a; intro a hE
  refine WL.nil ?_
  refine W.seq ?_
  refine W.region ?_
  refine WL.vS hS hE (runs_plain rfl) (Gives.p hE rfl) rfl ?_; clear hE a; intro a hE
  refine WL.vS hS hE (runs_plain rfl) (Gives.p hE rfl) rfl ?_; clear hE a; intro a hE
  refine WL.fnq hE (SlicesIndexFuncLint_v1_ok hS h0 rfl (r := SlicesIndexFuncLint_v1 x0)) (runs_plain rfl) bd82 rfl rfl rfl ?_
  clear hE hS; rintro e w ⟨rfl, hS⟩; refine ⟨_, rfl, ?_⟩; clear a; intro a hE
  refine WL.vS hS hE (runs_plain rfl) (Gives.p hE rfl) rfl ?_; clear hE a; intro a hE
  refine WL.vS hS hE (runs_plain rfl) (Gives.p hE rfl) rfl ?_; clear hE a; intro a hE
  refine WL.nil ?_
  refine W.ret ?_
  refine finG (fn := Try.f47) (rs := [.tmp 4]) (vs := [_]) hE rfl ⟨rfl, trivial⟩ ?_
  subst hr
  exact ⟨rfl, hS⟩
set_option maxHeartbeats 8000000 in
theorem MendcheckTable_ok  {w : World} {s : Sg} {R : List HP} {x0 : List (List Int)} {a0 : Option Addr} {c0 : Nat} (hS : St w s (R)) (h0 : Sl 1 (RL 1 (RI .i64)) s a0 c0 x0) {r : Int} (hr : MendcheckTable x0 = r) :
    Calls Try.prog 73 [.slice a0 x0.length c0].toArray w (fun e w => e = .returned (.int .i64 r) ∧ St w s (R)) := by
  refine enter Try.func73 rfl rfl rfl fun a hE => ?_
  rw [MendcheckTable] at hr
  refine W.seq ?_
  refine W.region ?_
  refine WL.vS hS hE (runs_plain rfl) (Gives.p hE rfl) rfl ?_; clear hE a; intro a hE
  refine WL.nil ?_
  refine W.seq ?_
  refine W.seq ?_
  refine W.region ?_
  refine WL.vS hS hE (runs_plain rfl) (Gives.p hE rfl) rfl ?_; clear hE a; intro a hE
  refine WL.vS hS hE (runs_plain rfl) (Gives.len hE rfl sl40) rfl ?_; clear hE a; intro a hE
  refine WL.vS hS hE (runs_plain rfl) (Gives.p hE rfl) rfl ?_; clear hE a; intro a hE
  refine WL.nil ?_
  obtain ⟨q52, hq51, hr⟩ := bndS hr
  refine W.cut (fun a w => (.next ()) = q52 ∧ Rep a 14 [] ∧ St w s (R)) ?_ ?_
  · refine W.block ?_
    refine W.loop (fun m a w => ∃ (rest55 : List (List Int)) (k53 : Nat), rest55.length = m ∧ x0.drop k53 = rest55 ∧ MendcheckTable.loop1 rest55 = q52 ∧ Rep a 14 [(5, .slice a0 x0.length c0), (6, .int .i64 ((x0).length : Int)), (7, .int .i64 ((k53 : Nat) : Int))] ∧ St w s (R)) (m := x0.length) ⟨x0, 0, rfl, rfl, hq51, hE.pick _ ⟨rfl, rfl, rfl, trivial⟩, hS⟩ ?_
    clear hE hS a w hq51; rintro m59 a w ⟨rest55, k53, rfl, hd56, hq51, hE, hS⟩
    refine W.gen fun K62 hK62 => ?_
    rcases rest55 with _ | ⟨x54, rest55⟩
    · have hlt57 := drop_nil hd56
      refine W.seq ?_
      refine W.region ?_
      refine WL.vS hS hE (runs_plain rfl) (Gives.p hE rfl) rfl ?_; clear hE a; intro a hE
      refine WL.nil ?_
      refine W.seq ?_
      refine W.condF hE rfl (decide_eq_false (by omega)) ?_
      subst hK62
      refine W.exit rfl ?_
      exact ⟨hq51, hE.pick _ trivial, hS⟩
    · obtain ⟨hlt57, hx58, hd56⟩ := drop_cons hd56
      rw [MendcheckTable.loop1] at hq51
      refine W.seq ?_
      refine W.region ?_
      refine WL.vS hS hE (runs_plain rfl) (Gives.p hE rfl) rfl ?_; clear hE a; intro a hE
      refine WL.nil ?_
      refine W.seq ?_
      refine W.condT hE rfl (decide_eq_true (by omega)) ?_
      refine W.skip ?_
      refine W.seq ?_
      refine W.block ?_
      refine W.seq ?_
      refine W.region ?_
      obtain ⟨cs63, hl64, hR65, hat66⟩ := h0.at hx58
      obtain ⟨a67, c68, rfl, h69⟩ := hR65
      refine WL.vS hS hE (runs_plain rfl) (Gives.idx hE k53 rfl rfl sl40 rfl hlt57 (h0.aok hlt57)) rfl ?_; clear hE a; intro a hE
      refine WL.vS hS hE (runs_plain rfl) (Gives.load1 hE rfl (fun w h => hat66 w _ h) ty22) rfl ?_; clear hE a; intro a hE
      refine WL.vS hS hE (runs_plain rfl) (Gives.p hE rfl) rfl ?_; clear hE a; intro a hE
      refine WL.nil ?_
      refine W.seq ?_
      refine W.region ?_
      refine WL.vS hS hE (runs_plain rfl) (Gives.p hE rfl) rfl ?_; clear hE a; intro a hE
      refine WL.fnq hE (SlicesContainsFuncLint_v1_ok hS h69 rfl (r := SlicesContainsFuncLint_v1 x54)) (runs_plain rfl) bd47 rfl rfl rfl ?_
      clear hE hS; rintro e w ⟨rfl, hS⟩; refine ⟨_, rfl, ?_⟩; clear a; intro a hE
      refine WL.nil ?_
      refine W.cond hE rfl (fun hc70 => ?_) (fun hc70 => ?_)
      · replace hq51 := iteT hc70 hq51
        refine W.seq ?_
        refine W.region ?_
        refine WL.vS hS hE (runs_plain rfl) (Gives.p hE rfl) rfl ?_; clear hE a; intro a hE
        refine WL.nil ?_
        refine W.ret ?_
        subst hK62
        rw [← hq51] at hr
        dsimp only at hr
        refine finG (fn := Try.f73) (rs := [.tmp 2]) (vs := [_]) hE rfl ⟨rfl, trivial⟩ ?_
        subst hr
        exact ⟨rfl, hS⟩
      · replace hq51 := iteF hc70 hq51
        refine W.skip ?_
        refine W.region ?_
        refine WL.vS hS hE (runs_plain rfl) (Gives.inc hE rfl (by have := h0.small; omega)) rfl ?_; clear hE a; intro a hE
        refine WL.vS hS hE (runs_plain rfl) (Gives.p hE rfl) rfl ?_; clear hE a; intro a hE
        refine WL.nil ?_
        subst hK62
        exact ⟨rest55.length, Nat.lt_succ_self _, rest55, k53 + 1, rfl, hd56, hq51, hE.pick _ ⟨rfl, rfl, rfl, trivial⟩, hS⟩
  · clear hE hS a w; rintro a w ⟨rfl, hE, hS⟩
    dsimp only at hr
    refine W.seq ?_
    refine W.region ?_
    refine WL.vS hS hE (runs_plain rfl) (Gives.p hE rfl) rfl ?_; clear hE a; intro a hE
    refine WL.nil ?_
    refine W.ret ?_
    refine finG (fn := Try.f73) (rs := [.tmp 2]) (vs := [_]) hE rfl ⟨rfl, trivial⟩ ?_
    subst hr
    exact ⟨rfl, hS⟩
set_option maxHeartbeats 8000000 in
theorem MathBitsMul64_ok  {w : World} {s : Sg} {R : List HP} {x0 : Int} {x1 : Int} (hS : St w s (R))  {r : Int × Int} (hr : MathBitsMul64 x0 x1 = r) :
    Calls Try.prog 93 [.int .u64 x0, .int .u64 x1].toArray w (fun e w => e = .returned (.tuple #[.int .u64 r.1, .int .u64 r.2]) ∧ St w s (R)) := by
  refine enter Try.func93 rfl rfl rfl fun a hE => ?_
  rw [MathBitsMul64] at hr
  refine W.seq ?_
  refine W.region ?_
  refine WL.vS hS hE (runs_plain rfl) (Gives.p hE rfl) rfl ?_; clear hE a; intro a hE
  refine WL.vS hS hE (runs_plain rfl) (Gives.p hE rfl) rfl ?_; clear hE a; intro a hE
  refine WL.nil ?_
  refine W.seq ?_
  refine W.region ?_
  refine WL.vS hS hE (runs_plain rfl) (Gives.p hE rfl) rfl ?_; clear hE a; intro a hE
  refine WL.vS hS hE (runs_plain rfl) (Gives.p hE rfl) rfl ?_; clear hE a; intro a hE
  refine WL.vS hS hE (runs_plain rfl) (Gives.p hE rfl) rfl ?_; clear hE a; intro a hE
  refine WL.nil ?_
  refine W.seq ?_
  refine W.region ?_
  refine WL.vS hS hE (runs_plain rfl) (Gives.p hE rfl) rfl ?_; clear hE a; intro a hE
  refine WL.vS hS hE (runs_plain rfl) (Gives.shr hE rfl rfl (by decide)) rfl ?_; clear hE a; intro a hE
  refine WL.vS hS hE (runs_plain rfl) (Gives.p hE rfl) rfl ?_; clear hE a; intro a hE
  refine WL.nil ?_
  refine W.seq ?_
  refine W.region ?_
  refine WL.vS hS hE (runs_plain rfl) (Gives.p hE rfl) rfl ?_; clear hE a; intro a hE
  refine WL.vS hS hE (runs_plain rfl) (Gives.p hE rfl) rfl ?_; clear hE a; intro a hE
  refine WL.vS hS hE (runs_plain rfl) (Gives.p hE rfl) rfl ?_; clear hE a; intro a hE
  refine WL.nil ?_
  refine W.seq ?_
  refine W.region ?_
  refine WL.vS hS hE (runs_plain rfl) (Gives.p hE rfl) rfl ?_; clear hE a; intro a hE
  refine WL.vS hS hE (runs_plain rfl) (Gives.shr hE rfl rfl (by decide)) rfl ?_; clear hE a; intro a hE
  refine WL.vS hS hE (runs_plain rfl) (Gives.p hE rfl) rfl ?_; clear hE a; intro a hE
  refine WL.nil ?_
  refine W.seq ?_
  refine W.region ?_
  refine WL.vS hS hE (runs_plain rfl) (Gives.p hE rfl) rfl ?_; clear hE a; intro a hE
  refine WL.vS hS hE (runs_plain rfl) (Gives.p hE rfl) rfl ?_; clear hE a; intro a hE
  refine WL.vS hS hE (runs_plain rfl) (Gives.p hE rfl) rfl ?_; clear hE a; intro a hE
  refine WL.vS hS hE (runs_plain rfl) (Gives.p hE rfl) rfl ?_; clear hE a; intro a hE
  refine WL.nil ?_
  refine W.seq ?_
  refine W.region ?_
  refine WL.vS hS hE (runs_plain rfl) (Gives.p hE rfl) rfl ?_; clear hE a; intro a hE
  refine WL.vS hS hE (runs_plain rfl) (Gives.p hE rfl) rfl ?_; clear hE a; intro a hE
  refine WL.vS hS hE (runs_plain rfl) (Gives.p hE rfl) rfl ?_; clear hE a; intro a hE
  refine WL.vS hS hE (runs_plain rfl) (Gives.p hE rfl) rfl ?_; clear hE a; intro a hE
  refine WL.vS hS hE (runs_plain rfl) (Gives.shr hE rfl rfl (by decide)) rfl ?_; clear hE a; intro a hE
  refine WL.vS hS hE (runs_plain rfl) (Gives.p hE rfl) rfl ?_; clear hE a; intro a hE
  refine WL.vS hS hE (runs_plain rfl) (Gives.p hE rfl) rfl ?_; clear hE a; intro a hE
  refine WL.nil ?_
  refine W.seq ?_
  refine W.region ?_
  refine WL.vS hS hE (runs_plain rfl) (Gives.p hE rfl) rfl ?_; clear hE a; intro a hE
  refine WL.vS hS hE (runs_plain rfl) (Gives.p hE rfl) rfl ?_; clear hE a; intro a hE
  refine WL.vS hS hE (runs_plain rfl) (Gives.p hE rfl) rfl ?_; clear hE a; intro a hE
  refine WL.nil ?_
  refine W.seq ?_
  refine W.region ?_
  refine WL.vS hS hE (runs_plain rfl) (Gives.p hE rfl) rfl ?_; clear hE a; intro a hE
  refine WL.vS hS hE (runs_plain rfl) (Gives.shr hE rfl rfl (by decide)) rfl ?_; clear hE a; intro a hE
  refine WL.vS hS hE (runs_plain rfl) (Gives.p hE rfl) rfl ?_; clear hE a; intro a hE
  refine WL.nil ?_
  refine W.seq ?_
  refine W.region ?_
  refine WL.vS hS hE (runs_plain rfl) (Gives.p hE rfl) rfl ?_; clear hE a; intro a hE
  refine WL.vS hS hE (runs_plain rfl) (Gives.p hE rfl) rfl ?_; clear hE a; intro a hE
  refine WL.vS hS hE (runs_plain rfl) (Gives.p hE rfl) rfl ?_; clear hE a; intro a hE
  refine WL.vS hS hE (runs_plain rfl) (Gives.p hE rfl) rfl ?_; clear hE a; intro a hE
  refine WL.vS hS hE (runs_plain rfl) (Gives.p hE rfl) rfl ?_; clear hE a; intro a hE
  refine WL.vS hS hE (runs_plain rfl) (Gives.p hE rfl) rfl ?_; clear hE a; intro a hE
  refine WL.nil ?_
  refine W.seq ?_
  refine W.region ?_
  refine WL.vS hS hE (runs_plain rfl) (Gives.p hE rfl) rfl ?_; clear hE a; intro a hE
  refine WL.vS hS hE (runs_plain rfl) (Gives.p hE rfl) rfl ?_; clear hE a; intro a hE
  refine WL.vS hS hE (runs_plain rfl) (Gives.p hE rfl) rfl ?_; clear hE a; intro a hE
  refine WL.vS hS hE (runs_plain rfl) (Gives.p hE rfl) rfl ?_; clear hE a; intro a hE
  refine WL.vS hS hE (runs_plain rfl) (Gives.p hE rfl) rfl ?_; clear hE a; intro a hE
  refine WL.vS hS hE (runs_plain rfl) (Gives.p hE rfl) rfl ?_; clear hE a; intro a hE
  refine WL.vS hS hE (runs_plain rfl) (Gives.shr hE rfl rfl (by decide)) rfl ?_; clear hE a; intro a hE
  refine WL.vS hS hE (runs_plain rfl) (Gives.p hE rfl) rfl ?_; clear hE a; intro a hE
  refine WL.vS hS hE (runs_plain rfl) (Gives.p hE rfl) rfl ?_; clear hE a; intro a hE
  refine WL.nil ?_
  refine W.seq ?_
  refine W.region ?_
  refine WL.vS hS hE (runs_plain rfl) (Gives.p hE rfl) rfl ?_; clear hE a; intro a hE
  refine WL.vS hS hE (runs_plain rfl) (Gives.p hE rfl) rfl ?_; clear hE a; intro a hE
  refine WL.vS hS hE (runs_plain rfl) (Gives.p hE rfl) rfl ?_; clear hE a; intro a hE
  refine WL.vS hS hE (runs_plain rfl) (Gives.p hE rfl) rfl ?_; clear hE a; intro a hE
  refine WL.nil ?_
  refine W.ret ?_
  refine finG (fn := Try.f93) (rs := [.tmp 4, .tmp 5]) (vs := [_, _]) hE rfl ⟨rfl, rfl, trivial⟩ ?_
  subst hr
  exact ⟨rfl, hS⟩
set_option maxHeartbeats 8000000 in
theorem MathBitsMul_ok  {w : World} {s : Sg} {R : List HP} {x0 : Int} {x1 : Int} (hS : St w s (R))  {r : Int × Int} (hr : MathBitsMul x0 x1 = r) :
    Calls Try.prog 85 [.int .u64 x0, .int .u64 x1].toArray w (fun e w => e = .returned (.tuple #[.int .u64 r.1, .int .u64 r.2]) ∧ St w s (R)) := by
  refine enter Try.func85 rfl rfl rfl fun a hE => ?_
  rw [MathBitsMul] at hr
  refine W.seq ?_
  refine W.region ?_
  refine WL.vS hS hE (runs_plain rfl) (Gives.p hE rfl) rfl ?_; clear hE a; intro a hE
  refine WL.vS hS hE (runs_plain rfl) (Gives.p hE rfl) rfl ?_; clear hE a; intro a hE
  refine WL.nil ?_
  refine W.seq ?_
  refine W.condF hE rfl rfl ?_
  refine W.skip ?_
  refine W.seq ?_
  refine W.region ?_
  refine WL.vS hS hE (runs_plain rfl) (Gives.p hE rfl) rfl ?_; clear hE a; intro a hE
  refine WL.vS hS hE (runs_plain rfl) (Gives.p hE rfl) rfl ?_; clear hE a; intro a hE
  obtain ⟨q51, hq52, hr⟩ := bndS hr
  have hc_ := MathBitsMul64_ok hS  hq52
  refine WL.fnq hE (hc_) (runs_plain rfl) bd93 rfl rfl rfl ?_
  clear hE hS hc_; rintro e w ⟨rfl, hS⟩; refine ⟨_, rfl, ?_⟩; clear a; intro a hE
  refine WL.vS hS hE (runs_plain rfl) (Gives.p hE rfl) rfl ?_; clear hE a; intro a hE
  refine WL.vS hS hE (runs_plain rfl) (Gives.p hE rfl) rfl ?_; clear hE a; intro a hE
  refine WL.vS hS hE (runs_plain rfl) (Gives.p hE rfl) rfl ?_; clear hE a; intro a hE
  refine WL.vS hS hE (runs_plain rfl) (Gives.p hE rfl) rfl ?_; clear hE a; intro a hE
  refine WL.vS hS hE (runs_plain rfl) (Gives.p hE rfl) rfl ?_; clear hE a; intro a hE
  refine WL.nil ?_
  refine W.seq ?_
  refine W.region ?_
  refine WL.vS hS hE (runs_plain rfl) (Gives.p hE rfl) rfl ?_; clear hE a; intro a hE
  refine WL.vS hS hE (runs_plain rfl) (Gives.p hE rfl) rfl ?_; clear hE a; intro a hE
  refine WL.vS hS hE (runs_plain rfl) (Gives.p hE rfl) rfl ?_; clear hE a; intro a hE
  refine WL.vS hS hE (runs_plain rfl) (Gives.p hE rfl) rfl ?_; clear hE a; intro a hE
  refine WL.nil ?_
  refine W.ret ?_
  refine finG (fn := Try.f85) (rs := [.tmp 4, .tmp 5]) (vs := [_, _]) hE rfl ⟨rfl, rfl, trivial⟩ ?_
  subst hr
  exact ⟨rfl, hS⟩
set_option maxHeartbeats 8000000 in
theorem SlicesRepeatLint_ok {fu : Nat}  {w : World} {s : Sg} {R : List HP} {x0 : List Int} {a0 : Option Addr} {c0 : Nat} {x1 : Int} (hS : St w s (R)) (h0 : Sl 1 (RI .i64) s a0 c0 x0) {r : (List Int)} (hr : SlicesRepeatLint fu x0 x1 = some r) :
    Calls Try.prog 57 [.slice a0 x0.length c0, .int .i64 x1].toArray w (fun e w => ∃ (a0 : Option Addr) (c0 n0 : Nat) (cs0 : List Value), e = .returned (.slice a0 n0 c0) ∧ Ev 1 (RI .i64) s cs0 r ∧ r.length = n0 ∧ St w s (vecC 3 1 a0 c0 n0 cs0 :: R)) := by
  refine enter Try.func57 rfl rfl rfl fun a hE => ?_
  rw [SlicesRepeatLint] at hr
  refine W.seq ?_
  refine W.region ?_
  refine WL.vS hS hE (runs_plain rfl) (Gives.p hE rfl) rfl ?_; clear hE a; intro a hE
  refine WL.nil ?_
  refine W.seq ?_
  refine W.seq ?_
  refine W.region ?_
  refine WL.vS hS hE (runs_plain rfl) (Gives.p hE rfl) rfl ?_; clear hE a; intro a hE
  refine WL.vS hS hE (runs_plain rfl) (Gives.p hE rfl) rfl ?_; clear hE a; intro a hE
  refine WL.nil ?_
  refine W.cond hE rfl (fun hc51 => ?_) (fun hc51 => ?_)
  · replace hr := iteT hc51 hr
    refine W.region ?_
    exact absurd hr (by simp)
  · replace hr := iteF hc51 hr
    refine W.skip ?_
    refine W.seq ?_
    refine W.region ?_
    refine WL.vS hS hE (runs_plain rfl) (Gives.p hE rfl) rfl ?_; clear hE a; intro a hE
    refine WL.vS hS hE (runs_plain rfl) (Gives.len hE rfl sl22) rfl ?_; clear hE a; intro a hE
    refine WL.vS hS hE (runs_plain rfl) (Gives.conv hE rfl hu3 ui123) rfl ?_; clear hE a; intro a hE
    refine WL.vS hS hE (runs_plain rfl) (Gives.p hE rfl) rfl ?_; clear hE a; intro a hE
    refine WL.vS hS hE (runs_plain rfl) (Gives.conv hE rfl hu3 ui123) rfl ?_; clear hE a; intro a hE
    obtain ⟨q52, hq53, hr⟩ := bndS hr
    have hc_ := MathBitsMul_ok hS  hq53
    refine WL.fnq hE (hc_) (runs_plain rfl) bd85 rfl rfl rfl ?_
    clear hE hS hc_; rintro e w ⟨rfl, hS⟩; refine ⟨_, rfl, ?_⟩; clear a; intro a hE
    refine WL.vS hS hE (runs_plain rfl) (Gives.p hE rfl) rfl ?_; clear hE a; intro a hE
    refine WL.vS hS hE (runs_plain rfl) (Gives.p hE rfl) rfl ?_; clear hE a; intro a hE
    refine WL.vS hS hE (runs_plain rfl) (Gives.p hE rfl) rfl ?_; clear hE a; intro a hE
    refine WL.vS hS hE (runs_plain rfl) (Gives.p hE rfl) rfl ?_; clear hE a; intro a hE
    refine WL.vS hS hE (runs_plain rfl) (Gives.p hE rfl) rfl ?_; clear hE a; intro a hE
    refine WL.nil ?_
    refine W.seq ?_
    refine W.seq ?_
    obtain ⟨q55, hq54, hr⟩ := bndS hr
    refine W.cut (fun a w => ∃ (q58 : Bool), q58 = q55 ∧ Rep a 48 [(0, .slice a0 x0.length c0), (6, .int .u64 q52.2), (26, .bool q58)] ∧ St w s (R)) ?_ ?_
    · refine W.gen fun K59 hK59 => ?_
      refine W.region ?_
      refine WL.vS hS hE (runs_plain rfl) (Gives.p hE rfl) rfl ?_; clear hE a; intro a hE
      refine WL.vS hS hE (runs_plain rfl) (Gives.p hE rfl) rfl ?_; clear hE a; intro a hE
      refine WL.vS hS hE (runs_plain rfl) (Gives.p hE rfl) rfl ?_; clear hE a; intro a hE
      rcases Bool.eq_false_or_eq_true (decide (q52.1 > 0)) with hg60 | hg60
      · replace hq54 := iteT hg60 hq54
        refine WL.no hE (runs_not hE rfl rfl rfl (by rw [hg60]; decide)) rfl ?_; clear hE a; intro a hE
        refine WL.no hE (runs_not hE rfl rfl rfl (by rw [hg60]; decide)) rfl ?_; clear hE a; intro a hE
        refine WL.vS hS hE (runs_plain rfl) (Gives.pickT hE rfl hg60 rfl) rfl ?_; clear hE a; intro a hE
        refine WL.nil ?_
        subst hK59
        exact ⟨true, hq54, hE.pick _ ⟨rfl, rfl, rfl, trivial⟩, hS⟩
      · replace hq54 := iteF hg60 hq54
        refine WL.vS hS hE (runs_if hE rfl rfl rfl hg60) (Gives.p hE rfl) rfl ?_; clear hE a; intro a hE
        refine WL.vS hS hE (runs_if hE rfl rfl rfl hg60) (Gives.p hE rfl) rfl ?_; clear hE a; intro a hE
        refine WL.vS hS hE (runs_plain rfl) (Gives.pickF hE rfl hg60 rfl) rfl ?_; clear hE a; intro a hE
        refine WL.nil ?_
        subst hK59
        exact ⟨decide (q52.2 > 9223372036854775807), hq54, hE.pick _ ⟨rfl, rfl, rfl, trivial⟩, hS⟩
    · clear hE hS a w; rintro a w ⟨q58, rfl, hE, hS⟩
      refine W.cond hE rfl (fun hc61 => ?_) (fun hc61 => ?_)
      · replace hr := iteT hc61 hr
        refine W.region ?_
        exact absurd hr (by simp)
      · replace hr := iteF hc61 hr
        refine W.skip ?_
        refine W.seq ?_
        refine W.region ?_
        refine WL.vS hS hE (runs_plain rfl) (Gives.p hE rfl) rfl ?_; clear hE a; intro a hE
        refine WL.vS hS hE (runs_plain rfl) (Gives.conv hE rfl hu123 ui3) rfl ?_; clear hE a; intro a hE
        obtain ⟨x62, hx63, hr⟩ := bindS hr
        refine WL.mkD (Rr := RI .i64) hE hS (runs_plain rfl) rfl rfl ap22 zr3 rfl hx63 rfl ?_; clear hE hS a w; intro b64 cs65 a w h66 hE hS
        refine WL.vS hS hE (runs_plain rfl) (Gives.p hE rfl) rfl ?_; clear hE a; intro a hE
        refine WL.nil ?_
        refine W.seq ?_
        refine W.region ?_
        refine WL.vS hS hE (runs_plain rfl) (Gives.p hE rfl) rfl ?_; clear hE a; intro a hE
        refine WL.vS hS hE (runs_plain rfl) (Gives.p hE rfl) rfl ?_; clear hE a; intro a hE
        obtain ⟨x68, hx69, hr⟩ := bndS hr
        refine WL.cpS hE hS 0 (runs_plain rfl) cp22 (by rw [sliced_zero]; rfl) rfl rfl (Nat.zero_le _) (Nat.le_refl _) h66 rfl RI.one h0 rfl rfl ?_; clear hE hS a w; intro cs70 a w h71 hE hS
        have hn72 : x68.length = x62.length := by rw [← hx69, cpl_length (Nat.zero_le _) (by omega)]; try rfl
        rw [hx69] at h71
        refine WL.vS hS hE (runs_plain rfl) (Gives.p hE rfl) rfl ?_; clear hE a; intro a hE
        refine WL.nil ?_
        refine W.seq ?_
        obtain ⟨q74, hq73, hr⟩ := bindS hr
        refine W.cut (fun a w => ∃ (q79 : Int), ∃ (q80 : List Int), ∃ (cs84 : List Value), (q79, q80) = q74 ∧ Ev 1 (RI .i64) s cs84 q80 ∧ q80.length = x62.length ∧ Rep a 48 [(7, .slice (some ⟨b64, 0, none⟩) x62.length x62.length)] ∧ St w s (vecC 3 1 (some ⟨b64, 0, none⟩) x62.length x62.length cs84 :: R)) ?_ ?_
        · refine W.block ?_
          refine W.loop (fun m a w => ∃ (n75 : Nat), ∃ (q79 : Int), ∃ (q80 : List Int), ∃ (cs84 : List Value), n75 = m ∧ SlicesRepeatLint.loop1 x62 n75 q79 q80 = some q74 ∧ Ev 1 (RI .i64) s cs84 q80 ∧ q80.length = x62.length ∧ Rep a 48 [(7, .slice (some ⟨b64, 0, none⟩) x62.length x62.length), (8, .int .i64 q79)] ∧ St w s (vecC 3 1 (some ⟨b64, 0, none⟩) x62.length x62.length cs84 :: R)) (m := fu) ⟨fu, ((min x0.length (x62.length - 0) : Nat) : Int), x68, cs70, rfl, hq73, h71, hn72, hE.pick _ ⟨rfl, rfl, trivial⟩, hS⟩ ?_
          clear hE hS a w hq73; rintro m76 a w ⟨n75, q79, q80, cs84, rfl, hq73, h83, hn85, hE, hS⟩
          refine W.gen fun K86 hK86 => ?_
          rcases n75 with _ | n75
          · rw [SlicesRepeatLint.loop1] at hq73; exact absurd hq73 (by simp)
          rw [SlicesRepeatLint.loop1] at hq73
          refine W.seq ?_
          refine W.seq ?_
          refine W.region ?_
          refine WL.vS hS hE (runs_plain rfl) (Gives.p hE rfl) rfl ?_; clear hE a; intro a hE
          refine WL.vS hS hE (runs_plain rfl) (Gives.p hE rfl) rfl ?_; clear hE a; intro a hE
          refine WL.vS hS hE (runs_plain rfl) (Gives.len hE rfl sl22) rfl ?_; clear hE a; intro a hE
          refine WL.vS hS hE (runs_plain rfl) (Gives.p hE rfl) rfl ?_; clear hE a; intro a hE
          refine WL.nil ?_
          refine W.cond hE rfl (fun hc87 => ?_) (fun hc87 => ?_)
          · replace hq73 := iteT hc87 hq73
            refine W.skip ?_
            refine W.block ?_
            refine W.gen fun K88 hK88 => ?_
            refine W.regionE (sel (fun w => St w s (R)) (fun w => St w s (R))) (fun b i => cond b ([0, 1, 2, 3, 4, 5, 6, 7, 8, 9].contains i) ([0, 1, 2, 3, 4, 5, 6, 7, 8, 9].contains i)) mixed ?_
            replace hS := hS.drew
            refine Rg.takeP (i := 0) hE rfl (by kernel_rfl) (runs_plain rfl) (Gives.p hE rfl) rfl (tw_sel (fun _ => (hS.tail)) (fun _ => (hS.tail))) ?_; clear hE a; intro a hE
            refine Rg.takeP (i := 1) hE rfl (by kernel_rfl) (runs_plain rfl) (Gives.p hE rfl) rfl (tw_sel (fun _ => (hS.tail)) (fun _ => (hS.tail))) ?_; clear hE a; intro a hE
            refine Rg.takeP (i := 2) hE rfl (by kernel_rfl) (runs_plain rfl) (Gives.p hE rfl) rfl (tw_sel (fun _ => (hS.tail)) (fun _ => (hS.tail))) ?_; clear hE a; intro a hE
            obtain ⟨x89, hx90, hq73⟩ := bindS hq73
            obtain ⟨h91, h92, h93, h94, h95, h96⟩ := cutl_some hx90
            have h97 := (hS.vecCap 0 rfl).1
            refine Rg.takeP (i := 3) hE rfl (by kernel_rfl) (runs_plain rfl) (Gives.slL hE sl22 rfl rfl h91 (by have := hn85; omega) rfl) rfl (tw_sel (fun _ => (hS.tail)) (fun _ => (hS.tail))) ?_; clear hE a; intro a hE
            refine Rg.takeP (i := 4) hE rfl (by kernel_rfl) (runs_plain rfl) (Gives.p hE rfl) rfl (tw_sel (fun _ => (hS.tail)) (fun _ => (hS.tail))) ?_; clear hE a; intro a hE
            refine Rg.takeP (i := 5) hE rfl (by kernel_rfl) (runs_plain rfl) (Gives.p hE rfl) rfl (tw_sel (fun _ => (hS.tail)) (fun _ => (hS.tail))) ?_; clear hE a; intro a hE
            obtain ⟨x98, hx99, hq73⟩ := bindS hq73
            obtain ⟨h100, h101, h102, h103, h104, h105⟩ := cutl_some hx99
            have h106 := (hS.vecCap 0 rfl).1
            refine Rg.takeP (i := 6) hE rfl (by kernel_rfl) (runs_plain rfl) (Gives.slH hE sl22 rfl rfl h101 (Int.le_trans h102 (by have := hn85; omega)) rfl) rfl (tw_sel (fun _ => (hS.tail)) (fun _ => (hS.tail))) ?_; clear hE a; intro a hE
            refine Rg.one (i := 7) true true rfl (by kernel_rfl) (by kernel_rfl) (by kernel_rfl) ?_
            obtain ⟨x107, hx108, hq73⟩ := bndS hq73
            refine WL.cpO (lo2 := 0) (hi2 := (q79).toNat) hE hS 0 (runs_plain rfl) cp22 rfl rfl rfl (by have := hn85; omega) (by have := hn85; omega) (by have := hn85; omega) (by have := hn85; omega) h83 hn85 (h83.allOne RI.one) rfl ?_; clear hE hS a w; intro cs109 a w h110 hE hS
            have hn111 : x107.length = x62.length := by rw [← hx108, cpl_length (by have := hn85; omega) (by have := hn85; omega)]; try exact hn85
            rw [hx108] at h110
            refine WL.nil ?_
            refine ⟨⟨fun _ => (hS.tail), fun _ => (hS.tail)⟩, ?_⟩
            refine Rg.takeP (i := 8) hE rfl (by kernel_rfl) (runs_plain rfl) (Gives.p hE rfl) rfl (tw_sel (fun _ => (hS.tail)) (fun _ => (hS.tail))) ?_; clear hE a; intro a hE
            refine Rg.takeP (i := 9) hE rfl (by kernel_rfl) (runs_plain rfl) (Gives.p hE rfl) rfl (tw_sel (fun _ => (hS.tail)) (fun _ => (hS.tail))) ?_; clear hE a; intro a hE
            refine Rg.done (by kernel_rfl) ?_
            subst hK88
            subst hK86
            exact ⟨n75, Nat.lt_succ_self _, n75, (w64 (q79 + ((min ((q80.take ((q79).toNat)).drop 0).length (x62.length - ((q79).toNat)) : Nat) : Int))), x107, cs109, rfl, hq73, h110, hn111, hE.pick _ ⟨rfl, rfl, trivial⟩, hS⟩
          · replace hq73 := iteF hc87 hq73
            subst hK86
            refine W.exit rfl ?_
            exact ⟨q79, q80, cs84, Option.some.inj hq73, h83, hn85, hE.pick _ ⟨rfl, trivial⟩, hS⟩
        · clear hE hS a w; rintro a w ⟨q79, q80, cs84, rfl, h83, hn85, hE, hS⟩
          dsimp only at hr
          refine W.seq ?_
          refine W.region ?_
          refine WL.vS hS hE (runs_plain rfl) (Gives.p hE rfl) rfl ?_; clear hE a; intro a hE
          refine WL.vS hS hE (runs_plain rfl) (Gives.p hE rfl) rfl ?_; clear hE a; intro a hE
          refine WL.nil ?_
          refine W.ret ?_
          refine finG (fn := Try.f57) (rs := [.tmp 4]) (vs := [_]) hE rfl ⟨rfl, trivial⟩ ?_
          obtain rfl := Option.some.inj hr
          exact ⟨(some ⟨b64, 0, none⟩), x62.length, x62.length, cs84, rfl, h83, hn85, hS⟩
set_option maxHeartbeats 8000000 in
theorem MendProduct_ok {fu : Nat}  {w : World} {s : Sg} {R : List HP} {x0 : List (List Int)} {a0 : Option Addr} {c0 : Nat} {x1 : List (List Int)} {a1 : Option Addr} {c1 : Nat} (hS : St w s (R)) (h0 : Sl 1 (RL 1 (RI .i64)) s a0 c0 x0) (h1 : Sl 1 (RL 1 (RI .i64)) s a1 c1 x1) {r : (List (List Int)) × Int} (hr : MendProduct fu x0 x1 = some r) :
    Calls Try.prog 29 [.slice a0 x0.length c0, .slice a1 x1.length c1].toArray w (fun e w => ∃ (a0 : Option Addr) (c0 : Nat) (t : Sg), e = .returned (.tuple #[.slice a0 r.1.length c0, .int .i64 r.2]) ∧ s.Le t ∧ Sl 1 (RL 1 (RI .i64)) t a0 c0 r.1 ∧ St w t (R)) := by
  refine enter Try.func29 rfl rfl rfl fun a hE => ?_
  rw [MendProduct] at hr
  refine W.seq ?_
  refine W.region ?_
  refine WL.box hE hS (runs_plain rfl) rfl rfl rfl ?_; clear hE hS a w; intro b51 a w hE hS
  refine WL.vS hS hE (runs_plain rfl) (Gives.p hE rfl) rfl ?_; clear hE a; intro a hE
  refine WL.vS hS hE (runs_plain rfl) (Gives.p hE rfl) rfl ?_; clear hE a; intro a hE
  refine WL.nil ?_
  refine W.seq ?_
  refine W.seq ?_
  obtain ⟨q53, hq52, hr⟩ := bndS hr
  refine W.cut (fun a w => ∃ (q56 : Bool), q56 = q53 ∧ Rep a 119 [(0, .slice a0 x0.length c0), (3, .pointer (some ⟨b51, 0, none⟩)), (23, .bool q56)] ∧ St w s (pt b51 (.cells #[.slice a1 x1.length c1] 40 (0, 0)) :: R)) ?_ ?_
  · refine W.gen fun K57 hK57 => ?_
    refine W.region ?_
    refine WL.vS hS hE (runs_plain rfl) (Gives.p hE rfl) rfl ?_; clear hE a; intro a hE
    refine WL.vS hS hE (runs_plain rfl) (Gives.len hE rfl sl40) rfl ?_; clear hE a; intro a hE
    refine WL.vS hS hE (runs_plain rfl) (Gives.p hE rfl) rfl ?_; clear hE a; intro a hE
    refine WL.vS hS hE (runs_plain rfl) (Gives.p hE rfl) rfl ?_; clear hE a; intro a hE
    rcases Bool.eq_false_or_eq_true (decide (((x0).length : Int) > 8)) with hg58 | hg58
    · replace hq52 := iteT hg58 hq52
      refine WL.no hE (runs_not hE rfl rfl rfl (by rw [hg58]; decide)) rfl ?_; clear hE a; intro a hE
      refine WL.no hE (runs_not hE rfl rfl rfl (by rw [hg58]; decide)) rfl ?_; clear hE a; intro a hE
      refine WL.no hE (runs_not hE rfl rfl rfl (by rw [hg58]; decide)) rfl ?_; clear hE a; intro a hE
      refine WL.vS hS hE (runs_plain rfl) (Gives.pickT hE rfl hg58 rfl) rfl ?_; clear hE a; intro a hE
      refine WL.nil ?_
      subst hK57
      exact ⟨true, hq52, hE.pick _ ⟨rfl, rfl, rfl, trivial⟩, hS⟩
    · replace hq52 := iteF hg58 hq52
      refine WL.vS hS hE (runs_if hE rfl rfl rfl hg58) (Gives.loadB hE 0 rfl rfl rfl ty40) rfl ?_; clear hE a; intro a hE
      refine WL.vS hS hE (runs_if hE rfl rfl rfl hg58) (Gives.len hE rfl sl40) rfl ?_; clear hE a; intro a hE
      refine WL.vS hS hE (runs_if hE rfl rfl rfl hg58) (Gives.p hE rfl) rfl ?_; clear hE a; intro a hE
      refine WL.vS hS hE (runs_plain rfl) (Gives.pickF hE rfl hg58 rfl) rfl ?_; clear hE a; intro a hE
      refine WL.nil ?_
      subst hK57
      exact ⟨decide (((x1).length : Int) > 8), hq52, hE.pick _ ⟨rfl, rfl, rfl, trivial⟩, hS⟩
  · clear hE hS a w; rintro a w ⟨q56, rfl, hE, hS⟩
    refine W.cond hE rfl (fun hc59 => ?_) (fun hc59 => ?_)
    · replace hr := iteT hc59 hr
      refine W.seq ?_
      refine W.region ?_
      refine WL.vS hS hE (runs_plain rfl) (Gives.p hE rfl) rfl ?_; clear hE a; intro a hE
      refine WL.vS hS hE (runs_plain rfl) (Gives.p hE rfl) rfl ?_; clear hE a; intro a hE
      refine WL.nil ?_
      refine W.ret ?_
      refine finG (fn := Try.f29) (rs := [.tmp 4, .tmp 5]) (vs := [_, _]) hE rfl ⟨rfl, rfl, trivial⟩ ?_
      obtain rfl := Option.some.inj hr
      replace hS := hS.tail
      exact ⟨none, 0, s, rfl, (Sg.Le.refl _), Sl.nil, hS⟩
    · replace hr := iteF hc59 hr
      refine W.skip ?_
      refine W.seq ?_
      refine W.seq ?_
      obtain ⟨q61, hq60, hr⟩ := bindS hr
      refine W.cut (fun a w => ∃ (q64 : Bool), q64 = q61 ∧ Rep a 119 [(0, .slice a0 x0.length c0), (3, .pointer (some ⟨b51, 0, none⟩)), (31, .bool q64)] ∧ St w s (pt b51 (.cells #[.slice a1 x1.length c1] 40 (0, 0)) :: R)) ?_ ?_
      · refine W.gen fun K65 hK65 => ?_
        refine W.region ?_
        refine WL.vS hS hE (runs_plain rfl) (Gives.p hE rfl) rfl ?_; clear hE a; intro a hE
        refine WL.vS hS hE (runs_plain rfl) (Gives.mkfn hE (vs := [.pointer (some ⟨b51, 0, none⟩)]) rfl) rfl ?_; clear hE a; intro a hE
        refine WL.fnq hE (SlicesContainsFuncLLint_v1_ok hS h0 h1 rfl (r := SlicesContainsFuncLLint_v1 x0 x1)) (runs_plain rfl) bd70 rfl rfl rfl ?_
        clear hE hS; rintro e w ⟨rfl, hS⟩; refine ⟨_, rfl, ?_⟩; clear a; intro a hE
        refine WL.vS hS hE (runs_plain rfl) (Gives.p hE rfl) rfl ?_; clear hE a; intro a hE
        rcases Bool.eq_false_or_eq_true (SlicesContainsFuncLLint_v1 x0 x1) with hg66 | hg66
        · replace hq60 := iteT hg66 hq60
          refine WL.no hE (runs_not hE rfl rfl rfl (by rw [hg66]; decide)) rfl ?_; clear hE a; intro a hE
          refine WL.no hE (runs_not hE rfl rfl rfl (by rw [hg66]; decide)) rfl ?_; clear hE a; intro a hE
          refine WL.no hE (runs_not hE rfl rfl rfl (by rw [hg66]; decide)) rfl ?_; clear hE a; intro a hE
          refine WL.vS hS hE (runs_plain rfl) (Gives.pickT hE rfl hg66 rfl) rfl ?_; clear hE a; intro a hE
          refine WL.nil ?_
          subst hK65
          exact ⟨true, Option.some.inj hq60, hE.pick _ ⟨rfl, rfl, rfl, trivial⟩, hS⟩
        · replace hq60 := iteF hg66 hq60
          refine WL.vS hS hE (runs_if hE rfl rfl rfl hg66) (Gives.loadB hE 0 rfl rfl rfl ty40) rfl ?_; clear hE a; intro a hE
          refine WL.vS hS hE (runs_if hE rfl rfl rfl hg66) (Gives.mkfn hE (vs := [.pointer (some ⟨b51, 0, none⟩)]) rfl) rfl ?_; clear hE a; intro a hE
          obtain ⟨q67, hq68, hq60⟩ := bindS hq60
          have hc_ := SlicesContainsFuncLLint_v2_ok hS h1 h1 hq68
          refine WL.fnq hE (hc_) (runs_if hE rfl rfl rfl hg66) bd70 rfl rfl rfl ?_
          clear hE hS hc_; rintro e w ⟨rfl, hS⟩; refine ⟨_, rfl, ?_⟩; clear a; intro a hE
          refine WL.vS hS hE (runs_plain rfl) (Gives.pickF hE rfl hg66 rfl) rfl ?_; clear hE a; intro a hE
          refine WL.nil ?_
          subst hK65
          exact ⟨q67, Option.some.inj hq60, hE.pick _ ⟨rfl, rfl, rfl, trivial⟩, hS⟩
      · clear hE hS a w; rintro a w ⟨q64, rfl, hE, hS⟩
        refine W.cond hE rfl (fun hc69 => ?_) (fun hc69 => ?_)
        · replace hr := iteT hc69 hr
          refine W.seq ?_
          refine W.region ?_
          refine WL.vS hS hE (runs_plain rfl) (Gives.p hE rfl) rfl ?_; clear hE a; intro a hE
          refine WL.vS hS hE (runs_plain rfl) (Gives.p hE rfl) rfl ?_; clear hE a; intro a hE
          refine WL.nil ?_
          refine W.ret ?_
          refine finG (fn := Try.f29) (rs := [.tmp 4, .tmp 5]) (vs := [_, _]) hE rfl ⟨rfl, rfl, trivial⟩ ?_
          obtain rfl := Option.some.inj hr
          replace hS := hS.tail
          exact ⟨none, 0, s, rfl, (Sg.Le.refl _), Sl.nil, hS⟩
        · replace hr := iteF hc69 hr
          refine W.skip ?_
          refine W.seq ?_
          refine W.region ?_
          refine WL.vS hS hE (runs_plain rfl) (Gives.p hE rfl) rfl ?_; clear hE a; intro a hE
          refine WL.nil ?_
          refine W.seq ?_
          refine W.seq ?_
          refine W.region ?_
          refine WL.vS hS hE (runs_plain rfl) (Gives.loadB hE 0 rfl rfl rfl ty40) rfl ?_; clear hE a; intro a hE
          refine WL.vS hS hE (runs_plain rfl) (Gives.len hE rfl sl40) rfl ?_; clear hE a; intro a hE
          refine WL.vS hS hE (runs_plain rfl) (Gives.p hE rfl) rfl ?_; clear hE a; intro a hE
          refine WL.nil ?_
          obtain ⟨q71, hq70, hr⟩ := bindS hr
          refine W.cut (fun a w => ∃ (q74 : Int), q74 = q71 ∧ Rep a 119 [(0, .slice a0 x0.length c0), (3, .pointer (some ⟨b51, 0, none⟩)), (6, .int .i64 q74)] ∧ St w s (pt b51 (.cells #[.slice a1 x1.length c1] 40 (0, 0)) :: R)) ?_ ?_
          · refine W.gen fun K75 hK75 => ?_
            refine W.cond hE rfl (fun hc76 => ?_) (fun hc76 => ?_)
            · replace hq70 := iteT hc76 hq70
              refine W.region ?_
              refine WL.vS hS hE (runs_plain rfl) (Gives.loadB hE 0 rfl rfl rfl ty40) rfl ?_; clear hE a; intro a hE
              obtain ⟨x77, hx78, hq70⟩ := bindS hq70
              obtain ⟨hi79, hlt80, hy81⟩ := gx_some hx78
              obtain ⟨cs82, hl83, hR84, hat85⟩ := h1.at hy81
              obtain ⟨a86, c87, rfl, h88⟩ := hR84
              refine WL.vS hS hE (runs_plain rfl) (Gives.idx hE ((0 : Int)).toNat rfl rfl sl40 hi79 hlt80 (h1.aok hlt80)) rfl ?_; clear hE a; intro a hE
              refine WL.vS hS hE (runs_plain rfl) (Gives.load1 hE rfl (fun w h => hat85 w _ h) ty22) rfl ?_; clear hE a; intro a hE
              refine WL.vS hS hE (runs_plain rfl) (Gives.len hE rfl sl22) rfl ?_; clear hE a; intro a hE
              refine WL.vS hS hE (runs_plain rfl) (Gives.p hE rfl) rfl ?_; clear hE a; intro a hE
              refine WL.nil ?_
              subst hK75
              exact ⟨((x77).length : Int), Option.some.inj hq70, hE.pick _ ⟨rfl, rfl, rfl, trivial⟩, hS⟩
            · replace hq70 := iteF hc76 hq70
              refine W.skip ?_
              subst hK75
              exact ⟨0, Option.some.inj hq70, hE.pick _ ⟨rfl, rfl, rfl, trivial⟩, hS⟩
          · clear hE hS a w; rintro a w ⟨q74, rfl, hE, hS⟩
            refine W.seq ?_
            refine W.seq ?_
            refine W.region ?_
            refine WL.vS hS hE (runs_plain rfl) (Gives.p hE rfl) rfl ?_; clear hE a; intro a hE
            refine WL.vS hS hE (runs_plain rfl) (Gives.p hE rfl) rfl ?_; clear hE a; intro a hE
            refine WL.nil ?_
            refine W.cond hE rfl (fun hc89 => ?_) (fun hc89 => ?_)
            · replace hr := iteT hc89 hr
              refine W.seq ?_
              refine W.region ?_
              refine WL.vS hS hE (runs_plain rfl) (Gives.p hE rfl) rfl ?_; clear hE a; intro a hE
              refine WL.vS hS hE (runs_plain rfl) (Gives.p hE rfl) rfl ?_; clear hE a; intro a hE
              refine WL.nil ?_
              refine W.ret ?_
              refine finG (fn := Try.f29) (rs := [.tmp 4, .tmp 5]) (vs := [_, _]) hE rfl ⟨rfl, rfl, trivial⟩ ?_
              obtain rfl := Option.some.inj hr
              replace hS := hS.tail
              exact ⟨none, 0, s, rfl, (Sg.Le.refl _), Sl.nil, hS⟩
            · replace hr := iteF hc89 hr
              refine W.skip ?_
              refine W.seq ?_
              refine W.seq ?_
              refine W.region ?_
              refine WL.vS hS hE (runs_plain rfl) (Gives.p hE rfl) rfl ?_; clear hE a; intro a hE
              refine WL.vS hS hE (runs_plain rfl) (Gives.loadB hE 0 rfl rfl rfl ty40) rfl ?_; clear hE a; intro a hE
              refine WL.vS hS hE (runs_plain rfl) (Gives.build hE (vs := [(0, .slice a0 x0.length c0), (1, .slice a1 x1.length c1)]) [.slice a0 x0.length c0, .slice a1 x1.length c1] rfl (by kernel_rfl)) rfl ?_; clear hE a; intro a hE
              refine WL.vS hS hE (runs_plain rfl) (Gives.p hE rfl) rfl ?_; clear hE a; intro a hE
              refine WL.nil ?_
              obtain ⟨q91, hq90, hr⟩ := bindS hr
              refine W.cut (fun a w => (.next ()) = q91 ∧ Rep a 119 [(0, .slice a0 x0.length c0), (3, .pointer (some ⟨b51, 0, none⟩)), (6, .int .i64 q74)] ∧ St w s (pt b51 (.cells #[.slice a1 x1.length c1] 40 (0, 0)) :: R)) ?_ ?_
              · refine W.block ?_
                refine W.loop (fun m a w => ∃ (rest94 : List (List (List Int))) (k92 : Nat), rest94.length = m ∧ [x0, x1].drop k92 = rest94 ∧ MendProduct.loop1 x0 x1 rest94 k92 = some q91 ∧ Rep a 119 [(0, .slice a0 x0.length c0), (3, .pointer (some ⟨b51, 0, none⟩)), (6, .int .i64 q74), (43, .agg [.slice a0 x0.length c0, .slice a1 x1.length c1].toArray), (44, .int .i64 ((k92 : Nat) : Int))] ∧ St w s (pt b51 (.cells #[.slice a1 x1.length c1] 40 (0, 0)) :: R)) (m := [x0, x1].length) ⟨[x0, x1], 0, rfl, rfl, hq90, hE.pick _ ⟨rfl, rfl, rfl, rfl, rfl, trivial⟩, hS⟩ ?_
                clear hE hS a w hq90; rintro m98 a w ⟨rest94, k92, rfl, hd95, hq90, hE, hS⟩
                refine W.gen fun K101 hK101 => ?_
                rcases rest94 with _ | ⟨x93, rest94⟩
                · have hlt96 : 2 ≤ k92 := drop_nil hd95
                  refine W.seq ?_
                  refine W.region ?_
                  refine WL.vS hS hE (runs_plain rfl) (Gives.p hE rfl) rfl ?_; clear hE a; intro a hE
                  refine WL.nil ?_
                  refine W.seq ?_
                  refine W.condF hE rfl (decide_eq_false (by omega)) ?_
                  subst hK101
                  refine W.exit rfl ?_
                  exact ⟨Option.some.inj hq90, hE.pick _ ⟨rfl, rfl, rfl, trivial⟩, hS⟩
                · obtain ⟨hlt96, hx97, hd95⟩ := drop_cons hd95
                  replace hlt96 : k92 < 2 := hlt96
                  rw [MendProduct.loop1] at hq90
                  refine W.seq ?_
                  refine W.region ?_
                  refine WL.vS hS hE (runs_plain rfl) (Gives.p hE rfl) rfl ?_; clear hE a; intro a hE
                  refine WL.nil ?_
                  refine W.seq ?_
                  refine W.condT hE rfl (decide_eq_true (by omega)) ?_
                  refine W.skip ?_
                  refine W.seq ?_
                  refine W.block ?_
                  refine W.seq ?_
                  refine W.region ?_
                  obtain ⟨x102, hx103, hq90⟩ := bindS hq90
                  obtain ⟨hi104, hlt105, hy106⟩ := gx_some hx103
                  have hv110 : ∃ (a : Option Addr) (c : Nat), ([Value.slice a0 x0.length c0, Value.slice a1 x1.length c1] : List Value)[(((k92 : Nat) : Int)).toNat]? = some (.slice a x102.length c) ∧ Sl 1 (RL 1 (RI .i64)) s a c x102 := by
                    have hk : (((k92 : Nat) : Int)).toNat = 0 ∨ (((k92 : Nat) : Int)).toNat = 1 := by simp only [List.length_cons, List.length_nil] at hlt105; omega
                    rcases hk with hk | hk
                    · rw [hk] at hy106 ⊢; have hz := Option.some.inj (show some x0 = some x102 from hy106); rw [← hz]; exact ⟨_, _, rfl, h0⟩
                    · rw [hk] at hy106 ⊢; have hz := Option.some.inj (show some x1 = some x102 from hy106); rw [← hz]; exact ⟨_, _, rfl, h1⟩
                  obtain ⟨a107, c108, hv110, h109⟩ := hv110
                  refine WL.vS hS hE (runs_plain rfl) (Gives.indexMi hE (f := id) (l := [Value.slice a0 x0.length c0, Value.slice a1 x1.length c1]) ar112 rfl rfl (by simp) rfl hi104 hv110) rfl ?_; clear hE a; intro a hE
                  refine WL.vS hS hE (runs_plain rfl) (Gives.p hE rfl) rfl ?_; clear hE a; intro a hE
                  refine WL.nil ?_
                  refine W.seq ?_
                  refine W.region ?_
                  refine WL.vS hS hE (runs_plain rfl) (Gives.p hE rfl) rfl ?_; clear hE a; intro a hE
                  refine WL.fnq hE (MendcheckTable_ok hS h109 rfl (r := MendcheckTable x102)) (runs_plain rfl) bd73 rfl rfl rfl ?_
                  clear hE hS; rintro e w ⟨rfl, hS⟩; refine ⟨_, rfl, ?_⟩; clear a; intro a hE
                  refine WL.vS hS hE (runs_plain rfl) (Gives.p hE rfl) rfl ?_; clear hE a; intro a hE
                  refine WL.nil ?_
                  refine W.seq ?_
                  refine W.region ?_
                  refine WL.vS hS hE (runs_plain rfl) (Gives.p hE rfl) rfl ?_; clear hE a; intro a hE
                  refine WL.vS hS hE (runs_plain rfl) (Gives.p hE rfl) rfl ?_; clear hE a; intro a hE
                  refine WL.nil ?_
                  refine W.cond hE rfl (fun hc111 => ?_) (fun hc111 => ?_)
                  · replace hq90 := iteT hc111 hq90
                    refine W.seq ?_
                    refine W.region ?_
                    refine WL.vS hS hE (runs_plain rfl) (Gives.p hE rfl) rfl ?_; clear hE a; intro a hE
                    refine WL.vS hS hE (runs_plain rfl) (Gives.p hE rfl) rfl ?_; clear hE a; intro a hE
                    refine WL.vS hS hE (runs_plain rfl) (Gives.p hE rfl) rfl ?_; clear hE a; intro a hE
                    refine WL.nil ?_
                    refine W.ret ?_
                    subst hK101
                    rw [← Option.some.inj hq90] at hr
                    dsimp only at hr
                    refine finG (fn := Try.f29) (rs := [.tmp 4, .tmp 5]) (vs := [_, _]) hE rfl ⟨rfl, rfl, trivial⟩ ?_
                    obtain rfl := Option.some.inj hr
                    replace hS := hS.tail
                    exact ⟨none, 0, s, rfl, (Sg.Le.refl _), Sl.nil, hS⟩
                  · replace hq90 := iteF hc111 hq90
                    refine W.skip ?_
                    refine W.region ?_
                    refine WL.vS hS hE (runs_plain rfl) (Gives.inc hE rfl (by omega)) rfl ?_; clear hE a; intro a hE
                    refine WL.vS hS hE (runs_plain rfl) (Gives.p hE rfl) rfl ?_; clear hE a; intro a hE
                    refine WL.nil ?_
                    subst hK101
                    exact ⟨rest94.length, Nat.lt_succ_self _, rest94, k92 + 1, rfl, hd95, hq90, hE.pick _ ⟨rfl, rfl, rfl, rfl, rfl, trivial⟩, hS⟩
              · clear hE hS a w; rintro a w ⟨rfl, hE, hS⟩
                dsimp only at hr
                refine W.seq ?_
                refine W.region ?_
                refine WL.vS hS hE (runs_plain rfl) (Gives.p hE rfl) rfl ?_; clear hE a; intro a hE
                refine WL.vS hS hE (runs_plain rfl) (Gives.len hE rfl sl40) rfl ?_; clear hE a; intro a hE
                obtain ⟨x112, hx113, hr⟩ := bindS hr
                refine WL.mkND (Rr := RI .i64) (Ti := 3) (es := 1) hE hS (runs_plain rfl) rfl rfl ap40 zr22 hx113 rfl ?_; clear hE hS a w; intro b114 ds115 a w h116 hE hS
                refine WL.vS hS hE (runs_plain rfl) (Gives.p hE rfl) rfl ?_; clear hE a; intro a hE
                refine WL.nil ?_
                refine W.seq ?_
                refine W.seq ?_
                refine W.region ?_
                refine WL.vS hS hE (runs_plain rfl) (Gives.p hE rfl) rfl ?_; clear hE a; intro a hE
                refine WL.vS hS hE (runs_plain rfl) (Gives.len hE rfl sl40) rfl ?_; clear hE a; intro a hE
                refine WL.vS hS hE (runs_plain rfl) (Gives.p hE rfl) rfl ?_; clear hE a; intro a hE
                refine WL.nil ?_
                obtain ⟨q119, hq118, hr⟩ := bindS hr
                refine W.cut (fun a w => ∃ (q129 : List (List Int)), ∃ (ds133 : List In), ∃ (s127 : Sg), s.Le s127 ∧ q129 = q119 ∧ NEv 1 (RI .i64) s127 ds133 q129 ∧ q129.length = x112.length ∧ Rep a 119 [(10, .slice (some ⟨b114, 0, none⟩) x112.length x112.length)] ∧ St w s127 (nestC 22 3 1 (some ⟨b114, 0, none⟩) x112.length x112.length ds133 :: pt b51 (.cells #[.slice a1 x1.length c1] 40 (0, 0)) :: R)) ?_ ?_
                · refine W.block ?_
                  refine W.loop (fun m a w => ∃ (rest122 : List (List Int)) (k120 : Nat), ∃ (q129 : List (List Int)), ∃ (ds133 : List In), ∃ (s127 : Sg), rest122.length = m ∧ x0.drop k120 = rest122 ∧ s.Le s127 ∧ MendProduct.loop2 x1 fu q74 rest122 k120 q129 = some q119 ∧ NEv 1 (RI .i64) s127 ds133 q129 ∧ q129.length = x112.length ∧ Rep a 119 [(3, .pointer (some ⟨b51, 0, none⟩)), (6, .int .i64 q74), (10, .slice (some ⟨b114, 0, none⟩) x112.length x112.length), (56, .slice a0 x0.length c0), (57, .int .i64 ((x0).length : Int)), (58, .int .i64 ((k120 : Nat) : Int))] ∧ St w s127 (nestC 22 3 1 (some ⟨b114, 0, none⟩) x112.length x112.length ds133 :: pt b51 (.cells #[.slice a1 x1.length c1] 40 (0, 0)) :: R)) (m := x0.length) ⟨x0, 0, x112, ds115, s, rfl, rfl, (Sg.Le.refl _), hq118, h116, (rfl), hE.pick _ ⟨rfl, rfl, rfl, rfl, rfl, rfl, trivial⟩, hS⟩ ?_
                  clear hE hS a w hq118; rintro m126 a w ⟨rest122, k120, q129, ds133, s127, rfl, hd123, hle128, hq118, h134, hn135, hE, hS⟩
                  refine W.gen fun K136 hK136 => ?_
                  replace h0 := Sl.mono (RL.mono RI.mono) hle128 h0
                  replace h116 := NEv.mono RI.mono hle128 h116
                  replace h1 := Sl.mono (RL.mono RI.mono) hle128 h1
                  rcases rest122 with _ | ⟨x121, rest122⟩
                  · have hlt124 := drop_nil hd123
                    refine W.seq ?_
                    refine W.region ?_
                    refine WL.vS hS hE (runs_plain rfl) (Gives.p hE rfl) rfl ?_; clear hE a; intro a hE
                    refine WL.nil ?_
                    refine W.seq ?_
                    refine W.condF hE rfl (decide_eq_false (by omega)) ?_
                    subst hK136
                    refine W.exit rfl ?_
                    exact ⟨q129, ds133, s127, hle128, Option.some.inj hq118, h134, hn135, hE.pick _ ⟨rfl, trivial⟩, hS⟩
                  · obtain ⟨hlt124, hx125, hd123⟩ := drop_cons hd123
                    rw [MendProduct.loop2] at hq118
                    refine W.seq ?_
                    refine W.region ?_
                    refine WL.vS hS hE (runs_plain rfl) (Gives.p hE rfl) rfl ?_; clear hE a; intro a hE
                    refine WL.nil ?_
                    refine W.seq ?_
                    refine W.condT hE rfl (decide_eq_true (by omega)) ?_
                    refine W.skip ?_
                    refine W.seq ?_
                    refine W.block ?_
                    refine W.seq ?_
                    refine W.region ?_
                    refine WL.vS hS hE (runs_plain rfl) (Gives.p hE rfl) rfl ?_; clear hE a; intro a hE
                    obtain ⟨cs137, hl138, hR139, hat140⟩ := h0.at hx125
                    obtain ⟨a141, c142, rfl, h143⟩ := hR139
                    refine WL.vS hS hE (runs_plain rfl) (Gives.idx hE k120 rfl rfl sl40 rfl hlt124 (h0.aok hlt124)) rfl ?_; clear hE a; intro a hE
                    refine WL.vS hS hE (runs_plain rfl) (Gives.load1 hE rfl (fun w h => hat140 w _ h) ty22) rfl ?_; clear hE a; intro a hE
                    refine WL.vS hS hE (runs_plain rfl) (Gives.p hE rfl) rfl ?_; clear hE a; intro a hE
                    refine WL.vS hS hE (runs_plain rfl) (Gives.p hE rfl) rfl ?_; clear hE a; intro a hE
                    refine WL.nil ?_
                    refine W.seq ?_
                    refine W.region ?_
                    refine WL.vS hS hE (runs_plain rfl) (Gives.p hE rfl) rfl ?_; clear hE a; intro a hE
                    refine WL.vS hS hE (runs_plain rfl) (Gives.p hE rfl) rfl ?_; clear hE a; intro a hE
                    refine WL.lit hE hS (e := 3) (es := 1) (vs := [(0, .int .i64 (-4611686018427387904))]) (cs := [.int .i64 (-4611686018427387904)]) (runs_plain rfl) rfl (by kernel_rfl) rfl ?_; clear hE hS a w; intro b144 a w hE hS
                    replace hS := hS.ptVec (es := 1) (m := 1) rfl (by decide)
                    have h146 : Ev 1 (RI .i64) s127 [.int .i64 (-4611686018427387904)] [(-4611686018427387904)] := (Ev.cons (c1 := [.int .i64 (-4611686018427387904)]) rfl rfl (Ev.nil))
                    have hF := hS.fixD RI.mono 0 rfl h146 (rfl); clear hS; obtain ⟨s147, hle148, hS, h149⟩ := hF
                    replace h0 := Sl.mono (RL.mono RI.mono) hle148 h0
                    replace h143 := Sl.mono RI.mono hle148 h143
                    replace h134 := NEv.mono RI.mono hle148 h134
                    replace h1 := Sl.mono (RL.mono RI.mono) hle148 h1
                    refine WL.vS hS hE (runs_plain rfl) (Gives.p hE rfl) rfl ?_; clear hE a; intro a hE
                    obtain ⟨q150, hq151, hq118⟩ := bindS hq118
                    have hc_ := SlicesRepeatLint_ok hS h149 hq151
                    refine WL.fnq hE (hc_) (runs_plain rfl) bd57 rfl rfl rfl ?_
                    clear hE hS hc_; rintro e w ⟨a152, c153, n154, cs155, rfl, h156, rfl, hS⟩; refine ⟨_, rfl, ?_⟩; clear a; intro a hE
                    obtain ⟨_, hx158, hq118⟩ := bindS hq118
                    obtain ⟨h159, h160⟩ := ix_some hx158
                    refine WL.vS hS hE (runs_plain rfl) (Gives.idx hE ((((k120 : Nat) : Int)).toNat) rfl rfl sl40 h159 (by have := hn135; omega) (hS.nAok 1 rfl (by have := hn135; omega : (((k120 : Nat) : Int)).toNat < x112.length))) rfl ?_; clear hE a; intro a hE
                    obtain ⟨d161, hd162⟩ : ∃ d, ds133[(((k120 : Nat) : Int)).toNat]? = some d := ⟨_, List.getElem?_eq_getElem (by have h1 := h134.len; have h2 := hn135; omega)⟩
                    replace hS := (hS.borrow 1 rfl hd162).tail
                    obtain ⟨x163, hx164, hq118⟩ := bindS hq118
                    refine WL.storeND hE hS 0 rfl (runs_plain rfl) rfl rfl ty22 h134 hn135 (by have := (sx_some hx164).1; omega) hx164 h156 rfl rfl ?_; clear hE hS a w; intro ds165 a w h166 hn167 hE hS
                    refine WL.nil ?_
                    refine W.seq ?_
                    refine W.region ?_
                    refine WL.vS hS hE (runs_plain rfl) (Gives.p hE rfl) rfl ?_; clear hE a; intro a hE
                    refine WL.vS hS hE (runs_plain rfl) (Gives.p hE rfl) rfl ?_; clear hE a; intro a hE
                    refine WL.nil ?_
                    obtain ⟨q180, hq179, hq118⟩ := bindS hq118
                    refine W.cut (fun a w => ∃ (q185 : Int), ∃ (q186 : List (List Int)), ∃ (ds190 : List In), (q185, q186) = q180 ∧ NEv 1 (RI .i64) s147 ds190 q186 ∧ q186.length = x112.length ∧ Rep a 119 [(3, .pointer (some ⟨b51, 0, none⟩)), (6, .int .i64 q74), (10, .slice (some ⟨b114, 0, none⟩) x112.length x112.length), (56, .slice a0 x0.length c0), (57, .int .i64 ((x0).length : Int)), (58, .int .i64 ((k120 : Nat) : Int))] ∧ St w s147 (nestC 22 3 1 (some ⟨b114, 0, none⟩) x112.length x112.length ds190 :: pt b51 (.cells #[.slice a1 x1.length c1] 40 (0, 0)) :: R)) ?_ ?_
                    · refine W.block ?_
                      refine W.loop (fun m a w => ∃ (n181 : Nat), ∃ (q185 : Int), ∃ (q186 : List (List Int)), ∃ (ds190 : List In), n181 = m ∧ MendProduct.loop4 x1 q74 x121 k120 n181 q185 q186 = some q180 ∧ NEv 1 (RI .i64) s147 ds190 q186 ∧ q186.length = x112.length ∧ Rep a 119 [(3, .pointer (some ⟨b51, 0, none⟩)), (6, .int .i64 q74), (10, .slice (some ⟨b114, 0, none⟩) x112.length x112.length), (11, .int .i64 ((k120 : Nat) : Int)), (12, .slice a141 x121.length c142), (56, .slice a0 x0.length c0), (57, .int .i64 ((x0).length : Int)), (58, .int .i64 ((k120 : Nat) : Int)), (69, .int .i64 q74), (70, .int .i64 q185)] ∧ St w s147 (nestC 22 3 1 (some ⟨b114, 0, none⟩) x112.length x112.length ds190 :: pt b51 (.cells #[.slice a1 x1.length c1] 40 (0, 0)) :: R)) (m := fu) ⟨fu, 0, x163, ds165, rfl, hq179, h166, hn167, hE.pick _ ⟨rfl, rfl, rfl, rfl, rfl, rfl, rfl, rfl, rfl, rfl, trivial⟩, hS⟩ ?_
                      clear hE hS a w hq179; rintro m182 a w ⟨n181, q185, q186, ds190, rfl, hq179, h191, hn192, hE, hS⟩
                      refine W.gen fun K193 hK193 => ?_
                      rcases n181 with _ | n181
                      · rw [MendProduct.loop4] at hq179; exact absurd hq179 (by simp)
                      rw [MendProduct.loop4] at hq179
                      refine W.seq ?_
                      refine W.region ?_
                      refine WL.vS hS hE (runs_plain rfl) (Gives.p hE rfl) rfl ?_; clear hE a; intro a hE
                      refine WL.nil ?_
                      refine W.seq ?_
                      refine W.cond hE rfl (fun hc194 => ?_) (fun hc194 => ?_)
                      · replace hq179 := iteT hc194 hq179
                        refine W.skip ?_
                        refine W.seq ?_
                        refine W.block ?_
                        refine W.seq ?_
                        refine W.region ?_
                        refine WL.vS hS hE (runs_plain rfl) (Gives.p hE rfl) rfl ?_; clear hE a; intro a hE
                        refine WL.vS hS hE (runs_plain rfl) (Gives.p hE rfl) rfl ?_; clear hE a; intro a hE
                        refine WL.nil ?_
                        refine W.seq ?_
                        refine W.region ?_
                        refine WL.vS hS hE (runs_plain rfl) (Gives.p hE rfl) rfl ?_; clear hE a; intro a hE
                        refine WL.vS hS hE (runs_plain rfl) (Gives.len hE rfl sl22) rfl ?_; clear hE a; intro a hE
                        refine WL.vS hS hE (runs_plain rfl) (Gives.p hE rfl) rfl ?_; clear hE a; intro a hE
                        refine WL.nil ?_
                        obtain ⟨q196, hq195, hq179⟩ := bindS hq179
                        refine W.cut (fun a w => ∃ (q206 : List (List Int)), ∃ (ds210 : List In), q206 = q196 ∧ NEv 1 (RI .i64) s147 ds210 q206 ∧ q206.length = x112.length ∧ Rep a 119 [(3, .pointer (some ⟨b51, 0, none⟩)), (6, .int .i64 q74), (10, .slice (some ⟨b114, 0, none⟩) x112.length x112.length), (11, .int .i64 ((k120 : Nat) : Int)), (12, .slice a141 x121.length c142), (56, .slice a0 x0.length c0), (57, .int .i64 ((x0).length : Int)), (58, .int .i64 ((k120 : Nat) : Int)), (69, .int .i64 q74), (70, .int .i64 q185)] ∧ St w s147 (nestC 22 3 1 (some ⟨b114, 0, none⟩) x112.length x112.length ds210 :: pt b51 (.cells #[.slice a1 x1.length c1] 40 (0, 0)) :: R)) ?_ ?_
                        · refine W.block ?_
                          refine W.loop (fun m a w => ∃ (rest199 : List Int) (k197 : Nat), ∃ (q206 : List (List Int)), ∃ (ds210 : List In), rest199.length = m ∧ x121.drop k197 = rest199 ∧ MendProduct.loop5 x1 k120 q185 rest199 k197 q206 = some q196 ∧ NEv 1 (RI .i64) s147 ds210 q206 ∧ q206.length = x112.length ∧ Rep a 119 [(3, .pointer (some ⟨b51, 0, none⟩)), (6, .int .i64 q74), (10, .slice (some ⟨b114, 0, none⟩) x112.length x112.length), (11, .int .i64 ((k120 : Nat) : Int)), (12, .slice a141 x121.length c142), (13, .int .i64 q185), (56, .slice a0 x0.length c0), (57, .int .i64 ((x0).length : Int)), (58, .int .i64 ((k120 : Nat) : Int)), (69, .int .i64 q74), (70, .int .i64 q185), (73, .slice a141 x121.length c142), (74, .int .i64 ((x121).length : Int)), (75, .int .i64 ((k197 : Nat) : Int))] ∧ St w s147 (nestC 22 3 1 (some ⟨b114, 0, none⟩) x112.length x112.length ds210 :: pt b51 (.cells #[.slice a1 x1.length c1] 40 (0, 0)) :: R)) (m := x121.length) ⟨x121, 0, q186, ds190, rfl, rfl, hq195, h191, hn192, hE.pick _ ⟨rfl, rfl, rfl, rfl, rfl, rfl, rfl, rfl, rfl, rfl, rfl, rfl, rfl, rfl, trivial⟩, hS⟩ ?_
                          clear hE hS a w hq195; rintro m203 a w ⟨rest199, k197, q206, ds210, rfl, hd200, hq195, h211, hn212, hE, hS⟩
                          refine W.gen fun K213 hK213 => ?_
                          rcases rest199 with _ | ⟨x198, rest199⟩
                          · have hlt201 := drop_nil hd200
                            refine W.seq ?_
                            refine W.region ?_
                            refine WL.vS hS hE (runs_plain rfl) (Gives.p hE rfl) rfl ?_; clear hE a; intro a hE
                            refine WL.nil ?_
                            refine W.seq ?_
                            refine W.condF hE rfl (decide_eq_false (by omega)) ?_
                            subst hK213
                            refine W.exit rfl ?_
                            exact ⟨q206, ds210, Option.some.inj hq195, h211, hn212, hE.pick _ ⟨rfl, rfl, rfl, rfl, rfl, rfl, rfl, rfl, rfl, rfl, trivial⟩, hS⟩
                          · obtain ⟨hlt201, hx202, hd200⟩ := drop_cons hd200
                            rw [MendProduct.loop5] at hq195
                            refine W.seq ?_
                            refine W.region ?_
                            refine WL.vS hS hE (runs_plain rfl) (Gives.p hE rfl) rfl ?_; clear hE a; intro a hE
                            refine WL.nil ?_
                            refine W.seq ?_
                            refine W.condT hE rfl (decide_eq_true (by omega)) ?_
                            refine W.skip ?_
                            refine W.seq ?_
                            refine W.block ?_
                            refine W.seq ?_
                            refine W.region ?_
                            refine WL.vS hS hE (runs_plain rfl) (Gives.p hE rfl) rfl ?_; clear hE a; intro a hE
                            obtain ⟨cs214, hl215, hR216, hat217⟩ := h143.at hx202
                            subst hR216
                            refine WL.vS hS hE (runs_plain rfl) (Gives.idx hE k197 rfl rfl sl22 rfl hlt201 (h143.aok hlt201)) rfl ?_; clear hE a; intro a hE
                            refine WL.vS hS hE (runs_plain rfl) (Gives.load1 hE rfl (fun w h => hat217 w _ h) ty3) rfl ?_; clear hE a; intro a hE
                            refine WL.vS hS hE (runs_plain rfl) (Gives.p hE rfl) rfl ?_; clear hE a; intro a hE
                            refine WL.vS hS hE (runs_plain rfl) (Gives.p hE rfl) rfl ?_; clear hE a; intro a hE
                            refine WL.nil ?_
                            refine W.seq ?_
                            obtain ⟨q219, hq218, hq195⟩ := bindS hq195
                            refine W.cut (fun a w => ∃ (q222 : Bool), q222 = q219 ∧ Rep a 119 [(3, .pointer (some ⟨b51, 0, none⟩)), (6, .int .i64 q74), (10, .slice (some ⟨b114, 0, none⟩) x112.length x112.length), (11, .int .i64 ((k120 : Nat) : Int)), (12, .slice a141 x121.length c142), (13, .int .i64 q185), (14, .int .i64 ((k197 : Nat) : Int)), (15, .int .i64 x198), (56, .slice a0 x0.length c0), (57, .int .i64 ((x0).length : Int)), (58, .int .i64 ((k120 : Nat) : Int)), (69, .int .i64 q74), (70, .int .i64 q185), (73, .slice a141 x121.length c142), (74, .int .i64 ((x121).length : Int)), (75, .int .i64 ((k197 : Nat) : Int)), (91, .bool q222)] ∧ St w s147 (nestC 22 3 1 (some ⟨b114, 0, none⟩) x112.length x112.length ds210 :: pt b51 (.cells #[.slice a1 x1.length c1] 40 (0, 0)) :: R)) ?_ ?_
                            · refine W.gen fun K223 hK223 => ?_
                              refine W.region ?_
                              refine WL.vS hS hE (runs_plain rfl) (Gives.p hE rfl) rfl ?_; clear hE a; intro a hE
                              refine WL.vS hS hE (runs_plain rfl) (Gives.p hE rfl) rfl ?_; clear hE a; intro a hE
                              refine WL.vS hS hE (runs_plain rfl) (Gives.p hE rfl) rfl ?_; clear hE a; intro a hE
                              rcases Bool.eq_false_or_eq_true (x198 != (-4611686018427387904)) with hg224 | hg224
                              · replace hq218 := iteT hg224 hq218
                                refine WL.vS hS hE (runs_if hE rfl rfl rfl hg224) (Gives.loadB hE 1 rfl rfl rfl ty40) rfl ?_; clear hE a; intro a hE
                                refine WL.vS hS hE (runs_if hE rfl rfl rfl hg224) (Gives.p hE rfl) rfl ?_; clear hE a; intro a hE
                                obtain ⟨x225, hx226, hq218⟩ := bindS hq218
                                obtain ⟨hi227, hlt228, hy229⟩ := gx_some hx226
                                obtain ⟨cs230, hl231, hR232, hat233⟩ := h1.at hy229
                                obtain ⟨a234, c235, rfl, h236⟩ := hR232
                                refine WL.vS hS hE (runs_if hE rfl rfl rfl hg224) (Gives.idx hE (((k197 : Nat) : Int)).toNat rfl rfl sl40 hi227 hlt228 (h1.aok hlt228)) rfl ?_; clear hE a; intro a hE
                                refine WL.vS hS hE (runs_if hE rfl rfl rfl hg224) (Gives.load1 hE rfl (fun w h => hat233 w _ h) ty22) rfl ?_; clear hE a; intro a hE
                                refine WL.vS hS hE (runs_if hE rfl rfl rfl hg224) (Gives.p hE rfl) rfl ?_; clear hE a; intro a hE
                                obtain ⟨x237, hx238, hq218⟩ := bindS hq218
                                obtain ⟨hi239, hlt240, hy241⟩ := gx_some hx238
                                obtain ⟨cs242, hl243, hR244, hat245⟩ := h236.at hy241
                                subst hR244
                                refine WL.vS hS hE (runs_if hE rfl rfl rfl hg224) (Gives.idx hE (q185).toNat rfl rfl sl22 hi239 hlt240 (h236.aok hlt240)) rfl ?_; clear hE a; intro a hE
                                refine WL.vS hS hE (runs_if hE rfl rfl rfl hg224) (Gives.load1 hE rfl (fun w h => hat245 w _ h) ty3) rfl ?_; clear hE a; intro a hE
                                refine WL.vS hS hE (runs_if hE rfl rfl rfl hg224) (Gives.p hE rfl) rfl ?_; clear hE a; intro a hE
                                refine WL.vS hS hE (runs_plain rfl) (Gives.pickT hE rfl hg224 rfl) rfl ?_; clear hE a; intro a hE
                                refine WL.nil ?_
                                subst hK223
                                exact ⟨(x237 != (-4611686018427387904)), Option.some.inj hq218, hE.pick _ ⟨rfl, rfl, rfl, rfl, rfl, rfl, rfl, rfl, rfl, rfl, rfl, rfl, rfl, rfl, rfl, rfl, rfl, trivial⟩, hS⟩
                              · replace hq218 := iteF hg224 hq218
                                refine WL.no hE (runs_not hE rfl rfl rfl (by rw [hg224]; decide)) rfl ?_; clear hE a; intro a hE
                                refine WL.no hE (runs_not hE rfl rfl rfl (by rw [hg224]; decide)) rfl ?_; clear hE a; intro a hE
                                refine WL.no hE (runs_not hE rfl rfl rfl (by rw [hg224]; decide)) rfl ?_; clear hE a; intro a hE
                                refine WL.no hE (runs_not hE rfl rfl rfl (by rw [hg224]; decide)) rfl ?_; clear hE a; intro a hE
                                refine WL.no hE (runs_not hE rfl rfl rfl (by rw [hg224]; decide)) rfl ?_; clear hE a; intro a hE
                                refine WL.no hE (runs_not hE rfl rfl rfl (by rw [hg224]; decide)) rfl ?_; clear hE a; intro a hE
                                refine WL.no hE (runs_not hE rfl rfl rfl (by rw [hg224]; decide)) rfl ?_; clear hE a; intro a hE
                                refine WL.no hE (runs_not hE rfl rfl rfl (by rw [hg224]; decide)) rfl ?_; clear hE a; intro a hE
                                refine WL.vS hS hE (runs_plain rfl) (Gives.pickF hE rfl hg224 rfl) rfl ?_; clear hE a; intro a hE
                                refine WL.nil ?_
                                subst hK223
                                exact ⟨false, Option.some.inj hq218, hE.pick _ ⟨rfl, rfl, rfl, rfl, rfl, rfl, rfl, rfl, rfl, rfl, rfl, rfl, rfl, rfl, rfl, rfl, rfl, trivial⟩, hS⟩
                            · clear hE hS a w; rintro a w ⟨q222, rfl, hE, hS⟩
                              obtain ⟨q247, hq246, hq195⟩ := bindS hq195
                              refine W.cut (fun a w => ∃ (q250 : List (List Int)), ∃ (ds254 : List In), q250 = q247 ∧ NEv 1 (RI .i64) s147 ds254 q250 ∧ q250.length = x112.length ∧ Rep a 119 [(3, .pointer (some ⟨b51, 0, none⟩)), (6, .int .i64 q74), (10, .slice (some ⟨b114, 0, none⟩) x112.length x112.length), (11, .int .i64 ((k120 : Nat) : Int)), (12, .slice a141 x121.length c142), (13, .int .i64 q185), (56, .slice a0 x0.length c0), (57, .int .i64 ((x0).length : Int)), (58, .int .i64 ((k120 : Nat) : Int)), (69, .int .i64 q74), (70, .int .i64 q185), (73, .slice a141 x121.length c142), (74, .int .i64 ((x121).length : Int)), (75, .int .i64 ((k197 : Nat) : Int))] ∧ St w s147 (nestC 22 3 1 (some ⟨b114, 0, none⟩) x112.length x112.length ds254 :: pt b51 (.cells #[.slice a1 x1.length c1] 40 (0, 0)) :: R)) ?_ ?_
                              · refine W.gen fun K257 hK257 => ?_
                                refine W.cond hE rfl (fun hc258 => ?_) (fun hc258 => ?_)
                                · replace hq246 := iteT hc258 hq246
                                  refine W.gen fun K259 hK259 => ?_
                                  refine W.regionE (sel (fun w => St w s147 (nestC 22 3 1 (some ⟨b114, 0, none⟩) x112.length x112.length ds210 :: pt b51 (.cells #[.slice a1 x1.length c1] 40 (0, 0)) :: R)) (fun w => St w s147 (pt b51 (.cells #[.slice a1 x1.length c1] 40 (0, 0)) :: R))) (fun b i => cond b ([0, 1, 2, 3, 4, 5, 6, 7, 8, 9, 10, 11, 12, 13, 14, 15, 16, 17, 18, 19, 20, 21].contains i) ([0, 1, 2, 3, 4, 5, 6, 7, 8, 9, 10, 11, 12, 13, 14, 15, 16, 17, 18, 19, 20, 21, 22, 23].contains i)) mixed ?_
                                  replace hS := hS.drew
                                  refine Rg.takeP (i := 0) hE rfl (by kernel_rfl) (runs_plain rfl) (Gives.p hE rfl) rfl (tw_sel (fun _ => hS) (fun _ => (hS.tail))) ?_; clear hE a; intro a hE
                                  refine Rg.takeP (i := 1) hE rfl (by kernel_rfl) (runs_plain rfl) (Gives.p hE rfl) rfl (tw_sel (fun _ => hS) (fun _ => (hS.tail))) ?_; clear hE a; intro a hE
                                  obtain ⟨x260, hx261, hq246⟩ := bindS hq246
                                  obtain ⟨hi262, hlt263, hy264⟩ := gx_some hx261
                                  obtain ⟨a265, c266, cs267, hd268, hev269⟩ := h211.at hy264
                                  refine Rg.takeP (i := 2) hE rfl (by kernel_rfl) (runs_plain rfl) (Gives.idx hE ((((k120 : Nat) : Int)).toNat) rfl rfl sl40 hi262 (by have := hn212; omega) (hS.nAok 0 rfl (by have := hn212; omega : (((k120 : Nat) : Int)).toNat < x112.length))) rfl (tw_sel (fun _ => hS) (fun _ => (hS.tail))) ?_; clear hE a; intro a hE
                                  have hT := tw_sel (A := fun w => St w s147 (nestC 22 3 1 (some ⟨b114, 0, none⟩) x112.length x112.length ds210 :: pt b51 (.cells #[.slice a1 x1.length c1] 40 (0, 0)) :: R)) (B := fun w => St w s147 (pt b51 (.cells #[.slice a1 x1.length c1] 40 (0, 0)) :: R)) (w := _) (x := true) (y := true) (fun _ => hS) (fun _ => (hS.tail))
                                  have hF := hS; replace hS := hS
                                  refine Rg.take (i := 3) true rfl hE rfl (by kernel_rfl) (runs_plain rfl) (Gives.load1 (v := .slice a265 x260.length c266) hE rfl (fun w h => St.nSees h 0 rfl hd268) ty22) rfl hT ?_; clear hE a; intro a hE
                                  replace hS := hF; clear hF hT
                                  refine Rg.takeP (i := 4) hE rfl (by kernel_rfl) (runs_plain rfl) (Gives.p hE rfl) rfl (tw_sel (fun _ => hS) (fun _ => (hS.tail))) ?_; clear hE a; intro a hE
                                  refine Rg.takeP (i := 5) hE rfl (by kernel_rfl) (runs_plain rfl) (Gives.p hE rfl) rfl (tw_sel (fun _ => hS) (fun _ => (hS.tail))) ?_; clear hE a; intro a hE
                                  refine Rg.takeP (i := 6) hE rfl (by kernel_rfl) (runs_plain rfl) (Gives.p hE rfl) rfl (tw_sel (fun _ => hS) (fun _ => (hS.tail))) ?_; clear hE a; intro a hE
                                  obtain ⟨x270, hx271, hq246⟩ := bindS hq246
                                  obtain ⟨hi272, hlt273, hy274⟩ := gx_some hx271
                                  obtain ⟨a275, c276, cs277, hd278, hev279⟩ := h211.at hy274
                                  refine Rg.takeP (i := 7) hE rfl (by kernel_rfl) (runs_plain rfl) (Gives.idx hE ((((k120 : Nat) : Int)).toNat) rfl rfl sl40 hi272 (by have := hn212; omega) (hS.nAok 0 rfl (by have := hn212; omega : (((k120 : Nat) : Int)).toNat < x112.length))) rfl (tw_sel (fun _ => hS) (fun _ => (hS.tail))) ?_; clear hE a; intro a hE
                                  have hT := tw_sel (A := fun w => St w s147 (nestC 22 3 1 (some ⟨b114, 0, none⟩) x112.length x112.length ds210 :: pt b51 (.cells #[.slice a1 x1.length c1] 40 (0, 0)) :: R)) (B := fun w => St w s147 (pt b51 (.cells #[.slice a1 x1.length c1] 40 (0, 0)) :: R)) (w := _) (x := true) (y := true) (fun _ => hS) (fun _ => (hS.tail))
                                  have hF := hS; replace hS := hS
                                  refine Rg.take (i := 8) true rfl hE rfl (by kernel_rfl) (runs_plain rfl) (Gives.load1 (v := .slice a275 x270.length c276) hE rfl (fun w h => St.nSees h 0 rfl hd278) ty22) rfl hT ?_; clear hE a; intro a hE
                                  replace hS := hF; clear hF hT
                                  refine Rg.takeP (i := 9) hE rfl (by kernel_rfl) (runs_plain rfl) (Gives.p hE rfl) rfl (tw_sel (fun _ => hS) (fun _ => (hS.tail))) ?_; clear hE a; intro a hE
                                  obtain ⟨x280, hx281, hq246⟩ := bindS hq246
                                  obtain ⟨hi282, hlt283, hy284⟩ := gx_some hx281
                                  obtain ⟨vs285, hl286, hR287, hd288, hget289⟩ := hev279.at hy284
                                  subst hR287
                                  refine Rg.takeP (i := 10) hE rfl (by kernel_rfl) (runs_plain rfl) (Gives.idx hE ((q185).toNat) rfl rfl sl22 hi282 hlt283 (hS.nnAok 0 rfl hd278 hlt283)) rfl (tw_sel (fun _ => hS) (fun _ => (hS.tail))) ?_; clear hE a; intro a hE
                                  have hT := tw_sel (A := fun w => St w s147 (nestC 22 3 1 (some ⟨b114, 0, none⟩) x112.length x112.length ds210 :: pt b51 (.cells #[.slice a1 x1.length c1] 40 (0, 0)) :: R)) (B := fun w => St w s147 (pt b51 (.cells #[.slice a1 x1.length c1] 40 (0, 0)) :: R)) (w := _) (x := true) (y := true) (fun _ => hS) (fun _ => (hS.tail))
                                  have hF := hS; replace hS := hS
                                  refine Rg.take (i := 11) true rfl hE rfl (by kernel_rfl) (runs_plain rfl) (Gives.load1 hE rfl (fun w h => St.nnSees h 0 rfl hd278 ((q185).toNat * 1) _ hget289) ty3) rfl hT ?_; clear hE a; intro a hE
                                  replace hS := hF; clear hF hT
                                  refine Rg.takeP (i := 12) hE rfl (by kernel_rfl) (runs_plain rfl) (Gives.p hE rfl) rfl (tw_sel (fun _ => hS) (fun _ => (hS.tail))) ?_; clear hE a; intro a hE
                                  have hT := tw_sel (A := fun w => St w s147 (nestC 22 3 1 (some ⟨b114, 0, none⟩) x112.length x112.length ds210 :: pt b51 (.cells #[.slice a1 x1.length c1] 40 (0, 0)) :: R)) (B := fun w => St w s147 (pt b51 (.cells #[.slice a1 x1.length c1] 40 (0, 0)) :: R)) (w := _) (x := true) (y := true) (fun _ => hS) (fun _ => (hS.tail))
                                  have hF := hS; replace hS := hS
                                  refine Rg.take (i := 13) true rfl hE rfl (by kernel_rfl) (runs_plain rfl) (Gives.loadB hE 1 rfl rfl rfl ty40) rfl hT ?_; clear hE a; intro a hE
                                  replace hS := hF; clear hF hT
                                  refine Rg.takeP (i := 14) hE rfl (by kernel_rfl) (runs_plain rfl) (Gives.p hE rfl) rfl (tw_sel (fun _ => hS) (fun _ => (hS.tail))) ?_; clear hE a; intro a hE
                                  obtain ⟨x290, hx291, hq246⟩ := bindS hq246
                                  obtain ⟨hi292, hlt293, hy294⟩ := gx_some hx291
                                  obtain ⟨cs295, hl296, hR297, hat298⟩ := h1.at hy294
                                  obtain ⟨a299, c300, rfl, h301⟩ := hR297
                                  refine Rg.takeP (i := 15) hE rfl (by kernel_rfl) (runs_plain rfl) (Gives.idx hE (((k197 : Nat) : Int)).toNat rfl rfl sl40 hi292 hlt293 (h1.aok hlt293)) rfl (tw_sel (fun _ => hS) (fun _ => (hS.tail))) ?_; clear hE a; intro a hE
                                  have hT := tw_sel (A := fun w => St w s147 (nestC 22 3 1 (some ⟨b114, 0, none⟩) x112.length x112.length ds210 :: pt b51 (.cells #[.slice a1 x1.length c1] 40 (0, 0)) :: R)) (B := fun w => St w s147 (pt b51 (.cells #[.slice a1 x1.length c1] 40 (0, 0)) :: R)) (w := _) (x := true) (y := true) (fun _ => hS) (fun _ => (hS.tail))
                                  have hF := hS; replace hS := hS
                                  refine Rg.take (i := 16) true rfl hE rfl (by kernel_rfl) (runs_plain rfl) (Gives.load1 hE rfl (fun w h => hat298 w _ h) ty22) rfl hT ?_; clear hE a; intro a hE
                                  replace hS := hF; clear hF hT
                                  refine Rg.takeP (i := 17) hE rfl (by kernel_rfl) (runs_plain rfl) (Gives.p hE rfl) rfl (tw_sel (fun _ => hS) (fun _ => (hS.tail))) ?_; clear hE a; intro a hE
                                  obtain ⟨x302, hx303, hq246⟩ := bindS hq246
                                  obtain ⟨hi304, hlt305, hy306⟩ := gx_some hx303
                                  obtain ⟨cs307, hl308, hR309, hat310⟩ := h301.at hy306
                                  subst hR309
                                  refine Rg.takeP (i := 18) hE rfl (by kernel_rfl) (runs_plain rfl) (Gives.idx hE (q185).toNat rfl rfl sl22 hi304 hlt305 (h301.aok hlt305)) rfl (tw_sel (fun _ => hS) (fun _ => (hS.tail))) ?_; clear hE a; intro a hE
                                  have hT := tw_sel (A := fun w => St w s147 (nestC 22 3 1 (some ⟨b114, 0, none⟩) x112.length x112.length ds210 :: pt b51 (.cells #[.slice a1 x1.length c1] 40 (0, 0)) :: R)) (B := fun w => St w s147 (pt b51 (.cells #[.slice a1 x1.length c1] 40 (0, 0)) :: R)) (w := _) (x := true) (y := true) (fun _ => hS) (fun _ => (hS.tail))
                                  have hF := hS; replace hS := hS
                                  refine Rg.take (i := 19) true rfl hE rfl (by kernel_rfl) (runs_plain rfl) (Gives.load1 hE rfl (fun w h => hat310 w _ h) ty3) rfl hT ?_; clear hE a; intro a hE
                                  replace hS := hF; clear hF hT
                                  refine Rg.takeP (i := 20) hE rfl (by kernel_rfl) (runs_plain rfl) (Gives.p hE rfl) rfl (tw_sel (fun _ => hS) (fun _ => (hS.tail))) ?_; clear hE a; intro a hE
                                  refine Rg.takeP (i := 21) hE rfl (by kernel_rfl) (runs_plain rfl) (Gives.max2 hE rfl rfl) rfl (tw_sel (fun _ => hS) (fun _ => (hS.tail))) ?_; clear hE a; intro a hE
                                  refine Rg.one (i := 22) false true rfl (by kernel_rfl) (by kernel_rfl) (by kernel_rfl) ?_
                                  replace hS := hS.borrowM 0 rfl hd268
                                  obtain ⟨_, hx313, hq246⟩ := bindS hq246
                                  obtain ⟨h314, h315⟩ := ix_some hx313
                                  refine WL.vS hS hE (runs_plain rfl) (Gives.idx hE ((q185).toNat) rfl rfl sl22 h314 (by omega) (hS.vecAok 0 rfl (by omega : (q185).toNat < x260.length))) rfl ?_; clear hE a; intro a hE
                                  refine WL.nil ?_
                                  refine ⟨⟨fun h => absurd h (by decide), fun _ => ((hS.tail).tail)⟩, ?_⟩
                                  refine Rg.one (i := 23) false true rfl (by kernel_rfl) (by kernel_rfl) (by kernel_rfl) ?_
                                  obtain ⟨x317, hx318, hq246⟩ := bindS hq246
                                  refine WL.setD hE hS 0 rfl (runs_plain rfl) rfl rfl (vs := [.int .i64 (mx x280 (w64 (x198 + x302)))]) rfl ty3 rfl rfl rfl hev269 (rfl) (sx_some hx318).1 hx318 rfl rfl ?_; clear hE hS a w; intro cs319 a w h320 hn321 hE hS
                                  refine WL.nil ?_
                                  refine ⟨⟨fun h => absurd h (by decide), fun _ => ((hS.tail).tail)⟩, ?_⟩
                                  refine Rg.done (by kernel_rfl) ?_
                                  subst hK259
                                  replace hS := hS.giveBack 0 rfl hd268
                                  have h323 := h211.set (k := (((k120 : Nat) : Int)).toNat) (d := ⟨a265, c266, x260.length, cs319⟩) h320 hn321
                                  have hn324 : (q206.set ((((k120 : Nat) : Int)).toNat) x317).length = x112.length := by simp; exact hn212
                                  generalize List.set ds210 ((((k120 : Nat) : Int)).toNat) _ = ds322 at hS h323
                                  subst hK257
                                  exact ⟨(q206.set ((((k120 : Nat) : Int)).toNat) x317), ds322, Option.some.inj hq246, h323, hn324, hE.pick _ ⟨rfl, rfl, rfl, rfl, rfl, rfl, rfl, rfl, rfl, rfl, rfl, rfl, rfl, rfl, trivial⟩, hS⟩
                                · replace hq246 := iteF hc258 hq246
                                  refine W.skip ?_
                                  subst hK257
                                  exact ⟨q206, ds210, Option.some.inj hq246, h211, hn212, hE.pick _ ⟨rfl, rfl, rfl, rfl, rfl, rfl, rfl, rfl, rfl, rfl, rfl, rfl, rfl, rfl, trivial⟩, hS⟩
                              · clear hE hS a w; rintro a w ⟨q250, ds254, rfl, h255, hn256, hE, hS⟩
                                refine W.region ?_
                                refine WL.vS hS hE (runs_plain rfl) (Gives.inc hE rfl (by have := h143.small; omega)) rfl ?_; clear hE a; intro a hE
                                refine WL.vS hS hE (runs_plain rfl) (Gives.p hE rfl) rfl ?_; clear hE a; intro a hE
                                refine WL.nil ?_
                                subst hK213
                                exact ⟨rest199.length, Nat.lt_succ_self _, rest199, k197 + 1, q250, ds254, rfl, hd200, hq195, h255, hn256, hE.pick _ ⟨rfl, rfl, rfl, rfl, rfl, rfl, rfl, rfl, rfl, rfl, rfl, rfl, rfl, rfl, trivial⟩, hS⟩
                        · clear hE hS a w; rintro a w ⟨q206, ds210, rfl, h211, hn212, hE, hS⟩
                          refine W.region ?_
                          refine WL.vS hS hE (runs_plain rfl) (Gives.p hE rfl) rfl ?_; clear hE a; intro a hE
                          refine WL.vS hS hE (runs_plain rfl) (Gives.p hE rfl) rfl ?_; clear hE a; intro a hE
                          refine WL.nil ?_
                          subst hK193
                          exact ⟨n181, Nat.lt_succ_self _, n181, (w64 (q185 + 1)), q206, ds210, rfl, hq179, h211, hn212, hE.pick _ ⟨rfl, rfl, rfl, rfl, rfl, rfl, rfl, rfl, rfl, rfl, trivial⟩, hS⟩
                      · replace hq179 := iteF hc194 hq179
                        subst hK193
                        refine W.exit rfl ?_
                        exact ⟨q185, q186, ds190, Option.some.inj hq179, h191, hn192, hE.pick _ ⟨rfl, rfl, rfl, rfl, rfl, rfl, trivial⟩, hS⟩
                    · clear hE hS a w; rintro a w ⟨q185, q186, ds190, rfl, h191, hn192, hE, hS⟩
                      dsimp only at hq118
                      refine W.region ?_
                      refine WL.vS hS hE (runs_plain rfl) (Gives.inc hE rfl (by have := h0.small; omega)) rfl ?_; clear hE a; intro a hE
                      refine WL.vS hS hE (runs_plain rfl) (Gives.p hE rfl) rfl ?_; clear hE a; intro a hE
                      refine WL.nil ?_
                      subst hK136
                      exact ⟨rest122.length, Nat.lt_succ_self _, rest122, k120 + 1, q186, ds190, s147, rfl, hd123, (Sg.Le.trans hle128 hle148), hq118, h191, hn192, hE.pick _ ⟨rfl, rfl, rfl, rfl, rfl, rfl, trivial⟩, hS⟩
                · clear hE hS a w; rintro a w ⟨q129, ds133, s127, hle128, rfl, h134, hn135, hE, hS⟩
                  replace h0 := Sl.mono (RL.mono RI.mono) hle128 h0
                  replace h116 := NEv.mono RI.mono hle128 h116
                  replace h1 := Sl.mono (RL.mono RI.mono) hle128 h1
                  refine W.seq ?_
                  refine W.region ?_
                  refine WL.vS hS hE (runs_plain rfl) (Gives.p hE rfl) rfl ?_; clear hE a; intro a hE
                  refine WL.vS hS hE (runs_plain rfl) (Gives.p hE rfl) rfl ?_; clear hE a; intro a hE
                  refine WL.vS hS hE (runs_plain rfl) (Gives.p hE rfl) rfl ?_; clear hE a; intro a hE
                  refine WL.nil ?_
                  refine W.ret ?_
                  have hF := hS.fixN RI.mono 0 rfl h134 hn135; clear hS; obtain ⟨s325, hle326, hS, h327⟩ := hF
                  (try rw [← hn135] at hE)
                  (try rw [← hn135] at hS)
                  (try rw [← hn135] at h327)
                  replace h1 := Sl.mono (RL.mono RI.mono) hle326 h1
                  refine finG (fn := Try.f29) (rs := [.tmp 4, .tmp 5]) (vs := [_, _]) hE rfl ⟨rfl, rfl, trivial⟩ ?_
                  obtain rfl := Option.some.inj hr
                  replace hS := hS.tail
                  exact ⟨(some ⟨b114, 0, none⟩), q129.length, s325, rfl, (Sg.Le.trans hle128 hle326), h327, hS⟩
set_option maxHeartbeats 8000000 in
theorem Fishref2within_ok  {w : World} {s : Sg} {R : List HP} {x0 : Int} {x1 : Int} {x2 : Int} (hS : St w s (R))  {r : Bool} (hr : Fishref2within x0 x1 x2 = r) :
    Calls Try.prog 51 [.int .i64 x0, .int .i64 x1, .int .i64 x2].toArray w (fun e w => e = .returned (.bool r) ∧ St w s (R)) := by
  refine enter Try.func51 rfl rfl rfl fun a hE => ?_
  rw [Fishref2within] at hr
  refine W.seq ?_
  refine W.region ?_
  refine WL.vS hS hE (runs_plain rfl) (Gives.p hE rfl) rfl ?_; clear hE a; intro a hE
  refine WL.nil ?_
  refine W.seq ?_
  obtain ⟨q52, hq51, hr⟩ := bndS hr
  refine W.cut (fun a w => ∃ (q55 : Bool), q55 = q52 ∧ Rep a 15 [(6, .bool q55)] ∧ St w s (R)) ?_ ?_
  · refine W.gen fun K56 hK56 => ?_
    refine W.region ?_
    refine WL.vS hS hE (runs_plain rfl) (Gives.p hE rfl) rfl ?_; clear hE a; intro a hE
    refine WL.vS hS hE (runs_plain rfl) (Gives.p hE rfl) rfl ?_; clear hE a; intro a hE
    refine WL.vS hS hE (runs_plain rfl) (Gives.p hE rfl) rfl ?_; clear hE a; intro a hE
    refine WL.vS hS hE (runs_plain rfl) (Gives.p hE rfl) rfl ?_; clear hE a; intro a hE
    rcases Bool.eq_false_or_eq_true (decide (x0 ≥ x1)) with hg57 | hg57
    · replace hq51 := iteT hg57 hq51
      refine WL.vS hS hE (runs_if hE rfl rfl rfl hg57) (Gives.p hE rfl) rfl ?_; clear hE a; intro a hE
      refine WL.vS hS hE (runs_if hE rfl rfl rfl hg57) (Gives.p hE rfl) rfl ?_; clear hE a; intro a hE
      refine WL.vS hS hE (runs_if hE rfl rfl rfl hg57) (Gives.p hE rfl) rfl ?_; clear hE a; intro a hE
      refine WL.vS hS hE (runs_plain rfl) (Gives.pickT hE rfl hg57 rfl) rfl ?_; clear hE a; intro a hE
      refine WL.vS hS hE (runs_plain rfl) (Gives.p hE rfl) rfl ?_; clear hE a; intro a hE
      refine WL.nil ?_
      subst hK56
      exact ⟨decide (x0 ≤ x2), hq51, hE.pick _ ⟨rfl, trivial⟩, hS⟩
    · replace hq51 := iteF hg57 hq51
      refine WL.no hE (runs_not hE rfl rfl rfl (by rw [hg57]; decide)) rfl ?_; clear hE a; intro a hE
      refine WL.no hE (runs_not hE rfl rfl rfl (by rw [hg57]; decide)) rfl ?_; clear hE a; intro a hE
      refine WL.no hE (runs_not hE rfl rfl rfl (by rw [hg57]; decide)) rfl ?_; clear hE a; intro a hE
      refine WL.vS hS hE (runs_plain rfl) (Gives.pickF hE rfl hg57 rfl) rfl ?_; clear hE a; intro a hE
      refine WL.vS hS hE (runs_plain rfl) (Gives.p hE rfl) rfl ?_; clear hE a; intro a hE
      refine WL.nil ?_
      subst hK56
      exact ⟨false, hq51, hE.pick _ ⟨rfl, trivial⟩, hS⟩
  · clear hE hS a w; rintro a w ⟨q55, rfl, hE, hS⟩
    refine W.ret ?_
    refine finG (fn := Try.f51) (rs := [.tmp 6]) (vs := [_]) hE rfl ⟨rfl, trivial⟩ ?_
    subst hr
    exact ⟨rfl, hS⟩
set_option maxHeartbeats 8000000 in
theorem Fishref2numbersFault_ok  {w : World} {s : Sg} {R : List HP} {x0 : List (List Int)} {a0 : Option Addr} {c0 : Nat} (hS : St w s (R)) (h0 : Sl 1 (RL 1 (RI .i64)) s a0 c0 x0) {r : Int} (hr : Fishref2numbersFault x0 = r) :
    Calls Try.prog 74 [.slice a0 x0.length c0].toArray w (fun e w => e = .returned (.int .i64 r) ∧ St w s (R)) := by
  refine enter Try.func74 rfl rfl rfl fun a hE => ?_
  rw [Fishref2numbersFault] at hr
  refine W.seq ?_
  refine W.region ?_
  refine WL.vS hS hE (runs_plain rfl) (Gives.p hE rfl) rfl ?_; clear hE a; intro a hE
  refine WL.nil ?_
  refine W.seq ?_
  refine W.seq ?_
  refine W.region ?_
  refine WL.vS hS hE (runs_plain rfl) (Gives.p hE rfl) rfl ?_; clear hE a; intro a hE
  refine WL.vS hS hE (runs_plain rfl) (Gives.len hE rfl sl40) rfl ?_; clear hE a; intro a hE
  refine WL.vS hS hE (runs_plain rfl) (Gives.p hE rfl) rfl ?_; clear hE a; intro a hE
  refine WL.nil ?_
  obtain ⟨q52, hq51, hr⟩ := bndS hr
  refine W.cut (fun a w => (.next ()) = q52 ∧ Rep a 28 [] ∧ St w s (R)) ?_ ?_
  · refine W.block ?_
    refine W.loop (fun m a w => ∃ (rest55 : List (List Int)) (k53 : Nat), rest55.length = m ∧ x0.drop k53 = rest55 ∧ Fishref2numbersFault.loop1 rest55 = q52 ∧ Rep a 28 [(7, .slice a0 x0.length c0), (8, .int .i64 ((x0).length : Int)), (9, .int .i64 ((k53 : Nat) : Int))] ∧ St w s (R)) (m := x0.length) ⟨x0, 0, rfl, rfl, hq51, hE.pick _ ⟨rfl, rfl, rfl, trivial⟩, hS⟩ ?_
    clear hE hS a w hq51; rintro m59 a w ⟨rest55, k53, rfl, hd56, hq51, hE, hS⟩
    refine W.gen fun K62 hK62 => ?_
    rcases rest55 with _ | ⟨x54, rest55⟩
    · have hlt57 := drop_nil hd56
      refine W.seq ?_
      refine W.region ?_
      refine WL.vS hS hE (runs_plain rfl) (Gives.p hE rfl) rfl ?_; clear hE a; intro a hE
      refine WL.nil ?_
      refine W.seq ?_
      refine W.condF hE rfl (decide_eq_false (by omega)) ?_
      subst hK62
      refine W.exit rfl ?_
      exact ⟨hq51, hE.pick _ trivial, hS⟩
    · obtain ⟨hlt57, hx58, hd56⟩ := drop_cons hd56
      rw [Fishref2numbersFault.loop1] at hq51
      refine W.seq ?_
      refine W.region ?_
      refine WL.vS hS hE (runs_plain rfl) (Gives.p hE rfl) rfl ?_; clear hE a; intro a hE
      refine WL.nil ?_
      refine W.seq ?_
      refine W.condT hE rfl (decide_eq_true (by omega)) ?_
      refine W.skip ?_
      refine W.seq ?_
      refine W.block ?_
      refine W.seq ?_
      refine W.region ?_
      obtain ⟨cs63, hl64, hR65, hat66⟩ := h0.at hx58
      obtain ⟨a67, c68, rfl, h69⟩ := hR65
      refine WL.vS hS hE (runs_plain rfl) (Gives.idx hE k53 rfl rfl sl40 rfl hlt57 (h0.aok hlt57)) rfl ?_; clear hE a; intro a hE
      refine WL.vS hS hE (runs_plain rfl) (Gives.load1 hE rfl (fun w h => hat66 w _ h) ty22) rfl ?_; clear hE a; intro a hE
      refine WL.vS hS hE (runs_plain rfl) (Gives.p hE rfl) rfl ?_; clear hE a; intro a hE
      refine WL.nil ?_
      refine W.seq ?_
      refine W.region ?_
      refine WL.vS hS hE (runs_plain rfl) (Gives.p hE rfl) rfl ?_; clear hE a; intro a hE
      refine WL.vS hS hE (runs_plain rfl) (Gives.len hE rfl sl22) rfl ?_; clear hE a; intro a hE
      refine WL.vS hS hE (runs_plain rfl) (Gives.p hE rfl) rfl ?_; clear hE a; intro a hE
      refine WL.nil ?_
      obtain ⟨q71, hq70, hq51⟩ := bndS hq51
      refine W.cut (fun a w => (.next ()) = q71 ∧ Rep a 28 [(7, .slice a0 x0.length c0), (8, .int .i64 ((x0).length : Int)), (9, .int .i64 ((k53 : Nat) : Int))] ∧ St w s (R)) ?_ ?_
      · refine W.block ?_
        refine W.loop (fun m a w => ∃ (rest74 : List Int) (k72 : Nat), rest74.length = m ∧ x54.drop k72 = rest74 ∧ Fishref2numbersFault.loop2 rest74 = q71 ∧ Rep a 28 [(7, .slice a0 x0.length c0), (8, .int .i64 ((x0).length : Int)), (9, .int .i64 ((k53 : Nat) : Int)), (13, .slice a67 x54.length c68), (14, .int .i64 ((x54).length : Int)), (15, .int .i64 ((k72 : Nat) : Int))] ∧ St w s (R)) (m := x54.length) ⟨x54, 0, rfl, rfl, hq70, hE.pick _ ⟨rfl, rfl, rfl, rfl, rfl, rfl, trivial⟩, hS⟩ ?_
        clear hE hS a w hq70; rintro m78 a w ⟨rest74, k72, rfl, hd75, hq70, hE, hS⟩
        refine W.gen fun K81 hK81 => ?_
        rcases rest74 with _ | ⟨x73, rest74⟩
        · have hlt76 := drop_nil hd75
          refine W.seq ?_
          refine W.region ?_
          refine WL.vS hS hE (runs_plain rfl) (Gives.p hE rfl) rfl ?_; clear hE a; intro a hE
          refine WL.nil ?_
          refine W.seq ?_
          refine W.condF hE rfl (decide_eq_false (by omega)) ?_
          subst hK81
          refine W.exit rfl ?_
          exact ⟨hq70, hE.pick _ ⟨rfl, rfl, rfl, trivial⟩, hS⟩
        · obtain ⟨hlt76, hx77, hd75⟩ := drop_cons hd75
          rw [Fishref2numbersFault.loop2] at hq70
          refine W.seq ?_
          refine W.region ?_
          refine WL.vS hS hE (runs_plain rfl) (Gives.p hE rfl) rfl ?_; clear hE a; intro a hE
          refine WL.nil ?_
          refine W.seq ?_
          refine W.condT hE rfl (decide_eq_true (by omega)) ?_
          refine W.skip ?_
          refine W.seq ?_
          refine W.block ?_
          refine W.seq ?_
          refine W.region ?_
          obtain ⟨cs82, hl83, hR84, hat85⟩ := h69.at hx77
          subst hR84
          refine WL.vS hS hE (runs_plain rfl) (Gives.idx hE k72 rfl rfl sl22 rfl hlt76 (h69.aok hlt76)) rfl ?_; clear hE a; intro a hE
          refine WL.vS hS hE (runs_plain rfl) (Gives.load1 hE rfl (fun w h => hat85 w _ h) ty3) rfl ?_; clear hE a; intro a hE
          refine WL.vS hS hE (runs_plain rfl) (Gives.p hE rfl) rfl ?_; clear hE a; intro a hE
          refine WL.nil ?_
          refine W.seq ?_
          obtain ⟨q87, hq86, hq70⟩ := bndS hq70
          refine W.cut (fun a w => ∃ (q90 : Bool), q90 = q87 ∧ Rep a 28 [(7, .slice a0 x0.length c0), (8, .int .i64 ((x0).length : Int)), (9, .int .i64 ((k53 : Nat) : Int)), (13, .slice a67 x54.length c68), (14, .int .i64 ((x54).length : Int)), (15, .int .i64 ((k72 : Nat) : Int)), (25, .bool q90)] ∧ St w s (R)) ?_ ?_
          · refine W.gen fun K91 hK91 => ?_
            refine W.region ?_
            refine WL.vS hS hE (runs_plain rfl) (Gives.p hE rfl) rfl ?_; clear hE a; intro a hE
            refine WL.vS hS hE (runs_plain rfl) (Gives.p hE rfl) rfl ?_; clear hE a; intro a hE
            refine WL.vS hS hE (runs_plain rfl) (Gives.p hE rfl) rfl ?_; clear hE a; intro a hE
            rcases Bool.eq_false_or_eq_true (x73 != (-4611686018427387904)) with hg92 | hg92
            · replace hq86 := iteT hg92 hq86
              refine WL.vS hS hE (runs_if hE rfl rfl rfl hg92) (Gives.p hE rfl) rfl ?_; clear hE a; intro a hE
              refine WL.fnq hE (Fishref2within_ok hS  rfl (r := Fishref2within x73 (-1099511627776) 1099511627776)) (runs_if hE rfl rfl rfl hg92) bd51 rfl rfl rfl ?_
              clear hE hS; rintro e w ⟨rfl, hS⟩; refine ⟨_, rfl, ?_⟩; clear a; intro a hE
              refine WL.vS hS hE (runs_if hE rfl rfl rfl hg92) (Gives.p hE rfl) rfl ?_; clear hE a; intro a hE
              refine WL.vS hS hE (runs_plain rfl) (Gives.pickT hE rfl hg92 rfl) rfl ?_; clear hE a; intro a hE
              refine WL.nil ?_
              subst hK91
              exact ⟨!(Fishref2within x73 (-1099511627776) 1099511627776), hq86, hE.pick _ ⟨rfl, rfl, rfl, rfl, rfl, rfl, rfl, trivial⟩, hS⟩
            · replace hq86 := iteF hg92 hq86
              refine WL.no hE (runs_not hE rfl rfl rfl (by rw [hg92]; decide)) rfl ?_; clear hE a; intro a hE
              refine WL.no hE (runs_not hE rfl rfl rfl (by rw [hg92]; decide)) rfl ?_; clear hE a; intro a hE
              refine WL.no hE (runs_not hE rfl rfl rfl (by rw [hg92]; decide)) rfl ?_; clear hE a; intro a hE
              refine WL.vS hS hE (runs_plain rfl) (Gives.pickF hE rfl hg92 rfl) rfl ?_; clear hE a; intro a hE
              refine WL.nil ?_
              subst hK91
              exact ⟨false, hq86, hE.pick _ ⟨rfl, rfl, rfl, rfl, rfl, rfl, rfl, trivial⟩, hS⟩
          · clear hE hS a w; rintro a w ⟨q90, rfl, hE, hS⟩
            refine W.cond hE rfl (fun hc93 => ?_) (fun hc93 => ?_)
            · replace hq70 := iteT hc93 hq70
              refine W.seq ?_
              refine W.region ?_
              refine WL.vS hS hE (runs_plain rfl) (Gives.p hE rfl) rfl ?_; clear hE a; intro a hE
              refine WL.nil ?_
              refine W.ret ?_
              subst hK81
              subst hK62
              rw [← hq70] at hq51
              dsimp only at hq51
              rw [← hq51] at hr
              dsimp only at hr
              refine finG (fn := Try.f74) (rs := [.tmp 2]) (vs := [_]) hE rfl ⟨rfl, trivial⟩ ?_
              subst hr
              exact ⟨rfl, hS⟩
            · replace hq70 := iteF hc93 hq70
              refine W.skip ?_
              refine W.region ?_
              refine WL.vS hS hE (runs_plain rfl) (Gives.inc hE rfl (by have := h69.small; omega)) rfl ?_; clear hE a; intro a hE
              refine WL.vS hS hE (runs_plain rfl) (Gives.p hE rfl) rfl ?_; clear hE a; intro a hE
              refine WL.nil ?_
              subst hK81
              exact ⟨rest74.length, Nat.lt_succ_self _, rest74, k72 + 1, rfl, hd75, hq70, hE.pick _ ⟨rfl, rfl, rfl, rfl, rfl, rfl, trivial⟩, hS⟩
      · clear hE hS a w; rintro a w ⟨rfl, hE, hS⟩
        dsimp only at hq51
        refine W.region ?_
        refine WL.vS hS hE (runs_plain rfl) (Gives.inc hE rfl (by have := h0.small; omega)) rfl ?_; clear hE a; intro a hE
        refine WL.vS hS hE (runs_plain rfl) (Gives.p hE rfl) rfl ?_; clear hE a; intro a hE
        refine WL.nil ?_
        subst hK62
        exact ⟨rest55.length, Nat.lt_succ_self _, rest55, k53 + 1, rfl, hd56, hq51, hE.pick _ ⟨rfl, rfl, rfl, trivial⟩, hS⟩
  · clear hE hS a w; rintro a w ⟨rfl, hE, hS⟩
    dsimp only at hr
    refine W.seq ?_
    refine W.region ?_
    refine WL.vS hS hE (runs_plain rfl) (Gives.p hE rfl) rfl ?_; clear hE a; intro a hE
    refine WL.nil ?_
    refine W.ret ?_
    refine finG (fn := Try.f74) (rs := [.tmp 2]) (vs := [_]) hE rfl ⟨rfl, trivial⟩ ?_
    subst hr
    exact ⟨rfl, hS⟩
set_option maxHeartbeats 8000000 in
theorem Fishref2ProductOf_ok {fu : Nat}  {w : World} {s : Sg} {R : List HP} {x0 : List (List Int)} {a0 : Option Addr} {c0 : Nat} {x1 : List (List Int)} {a1 : Option Addr} {c1 : Nat} (hS : St w s (R)) (h0 : Sl 1 (RL 1 (RI .i64)) s a0 c0 x0) (h1 : Sl 1 (RL 1 (RI .i64)) s a1 c1 x1) {r : (List (List Int)) × Int} (hr : Fishref2ProductOf fu x0 x1 = some r) :
    Calls Try.prog 30 [.slice a0 x0.length c0, .slice a1 x1.length c1].toArray w (fun e w => ∃ (a0 : Option Addr) (c0 n0 : Nat) (cs0 : List Value) (t : Sg), e = .returned (.tuple #[.slice a0 n0 c0, .int .i64 r.2]) ∧ s.Le t ∧ Ev 1 (RL 1 (RI .i64)) t cs0 r.1 ∧ r.1.length = n0 ∧ St w t (vecC 22 1 a0 c0 n0 cs0 :: R)) := by
  refine enter Try.func30 rfl rfl rfl fun a hE => ?_
  rw [Fishref2ProductOf] at hr
  refine W.seq ?_
  refine W.region ?_
  refine WL.vS hS hE (runs_plain rfl) (Gives.p hE rfl) rfl ?_; clear hE a; intro a hE
  refine WL.vS hS hE (runs_plain rfl) (Gives.p hE rfl) rfl ?_; clear hE a; intro a hE
  refine WL.nil ?_
  refine W.seq ?_
  refine W.seq ?_
  obtain ⟨q52, hq51, hr⟩ := bndS hr
  refine W.cut (fun a w => ∃ (q55 : Bool), q55 = q52 ∧ Rep a 127 [(0, .slice a0 x0.length c0), (1, .slice a1 x1.length c1), (29, .bool q55)] ∧ St w s (R)) ?_ ?_
  · refine W.gen fun K56 hK56 => ?_
    refine W.region ?_
    refine WL.vS hS hE (runs_plain rfl) (Gives.p hE rfl) rfl ?_; clear hE a; intro a hE
    refine WL.vS hS hE (runs_plain rfl) (Gives.len hE rfl sl40) rfl ?_; clear hE a; intro a hE
    refine WL.vS hS hE (runs_plain rfl) (Gives.p hE rfl) rfl ?_; clear hE a; intro a hE
    refine WL.vS hS hE (runs_plain rfl) (Gives.p hE rfl) rfl ?_; clear hE a; intro a hE
    rcases Bool.eq_false_or_eq_true (decide (((x0).length : Int) > 8)) with hg57 | hg57
    · replace hq51 := iteT hg57 hq51
      refine WL.no hE (runs_not hE rfl rfl rfl (by rw [hg57]; decide)) rfl ?_; clear hE a; intro a hE
      refine WL.no hE (runs_not hE rfl rfl rfl (by rw [hg57]; decide)) rfl ?_; clear hE a; intro a hE
      refine WL.no hE (runs_not hE rfl rfl rfl (by rw [hg57]; decide)) rfl ?_; clear hE a; intro a hE
      refine WL.vS hS hE (runs_plain rfl) (Gives.pickT hE rfl hg57 rfl) rfl ?_; clear hE a; intro a hE
      refine WL.nil ?_
      subst hK56
      exact ⟨true, hq51, hE.pick _ ⟨rfl, rfl, rfl, trivial⟩, hS⟩
    · replace hq51 := iteF hg57 hq51
      refine WL.vS hS hE (runs_if hE rfl rfl rfl hg57) (Gives.p hE rfl) rfl ?_; clear hE a; intro a hE
      refine WL.vS hS hE (runs_if hE rfl rfl rfl hg57) (Gives.len hE rfl sl40) rfl ?_; clear hE a; intro a hE
      refine WL.vS hS hE (runs_if hE rfl rfl rfl hg57) (Gives.p hE rfl) rfl ?_; clear hE a; intro a hE
      refine WL.vS hS hE (runs_plain rfl) (Gives.pickF hE rfl hg57 rfl) rfl ?_; clear hE a; intro a hE
      refine WL.nil ?_
      subst hK56
      exact ⟨decide (((x1).length : Int) > 8), hq51, hE.pick _ ⟨rfl, rfl, rfl, trivial⟩, hS⟩
  · clear hE hS a w; rintro a w ⟨q55, rfl, hE, hS⟩
    refine W.cond hE rfl (fun hc58 => ?_) (fun hc58 => ?_)
    · replace hr := iteT hc58 hr
      refine W.seq ?_
      refine W.region ?_
      refine WL.vS hS hE (runs_plain rfl) (Gives.p hE rfl) rfl ?_; clear hE a; intro a hE
      refine WL.vS hS hE (runs_plain rfl) (Gives.p hE rfl) rfl ?_; clear hE a; intro a hE
      refine WL.nil ?_
      refine W.ret ?_
      replace hS := hS.vecNil 22 1
      refine finG (fn := Try.f30) (rs := [.tmp 4, .tmp 5]) (vs := [_, _]) hE rfl ⟨rfl, rfl, trivial⟩ ?_
      obtain rfl := Option.some.inj hr
      exact ⟨none, 0, 0, [], s, rfl, (Sg.Le.refl _), (Ev.nil), (rfl), hS⟩
    · replace hr := iteF hc58 hr
      refine W.skip ?_
      refine W.seq ?_
      refine W.seq ?_
      refine W.region ?_
      refine WL.vS hS hE (runs_plain rfl) (Gives.p hE rfl) rfl ?_; clear hE a; intro a hE
      refine WL.vS hS hE (runs_plain rfl) (Gives.len hE rfl sl40) rfl ?_; clear hE a; intro a hE
      refine WL.vS hS hE (runs_plain rfl) (Gives.p hE rfl) rfl ?_; clear hE a; intro a hE
      refine WL.nil ?_
      obtain ⟨q61, hq60, hr⟩ := bndS hr
      refine W.cut (fun a w => (.next ()) = q61 ∧ Rep a 127 [(0, .slice a0 x0.length c0), (1, .slice a1 x1.length c1)] ∧ St w s (R)) ?_ ?_
      · refine W.block ?_
        refine W.loop (fun m a w => ∃ (rest64 : List (List Int)) (k62 : Nat), rest64.length = m ∧ x0.drop k62 = rest64 ∧ Fishref2ProductOf.loop1 x1 rest64 = q61 ∧ Rep a 127 [(0, .slice a0 x0.length c0), (1, .slice a1 x1.length c1), (30, .slice a0 x0.length c0), (31, .int .i64 ((x0).length : Int)), (32, .int .i64 ((k62 : Nat) : Int))] ∧ St w s (R)) (m := x0.length) ⟨x0, 0, rfl, rfl, hq60, hE.pick _ ⟨rfl, rfl, rfl, rfl, rfl, trivial⟩, hS⟩ ?_
        clear hE hS a w hq60; rintro m68 a w ⟨rest64, k62, rfl, hd65, hq60, hE, hS⟩
        refine W.gen fun K71 hK71 => ?_
        rcases rest64 with _ | ⟨x63, rest64⟩
        · have hlt66 := drop_nil hd65
          refine W.seq ?_
          refine W.region ?_
          refine WL.vS hS hE (runs_plain rfl) (Gives.p hE rfl) rfl ?_; clear hE a; intro a hE
          refine WL.nil ?_
          refine W.seq ?_
          refine W.condF hE rfl (decide_eq_false (by omega)) ?_
          subst hK71
          refine W.exit rfl ?_
          exact ⟨hq60, hE.pick _ ⟨rfl, rfl, trivial⟩, hS⟩
        · obtain ⟨hlt66, hx67, hd65⟩ := drop_cons hd65
          rw [Fishref2ProductOf.loop1] at hq60
          refine W.seq ?_
          refine W.region ?_
          refine WL.vS hS hE (runs_plain rfl) (Gives.p hE rfl) rfl ?_; clear hE a; intro a hE
          refine WL.nil ?_
          refine W.seq ?_
          refine W.condT hE rfl (decide_eq_true (by omega)) ?_
          refine W.skip ?_
          refine W.seq ?_
          refine W.block ?_
          refine W.seq ?_
          refine W.region ?_
          obtain ⟨cs72, hl73, hR74, hat75⟩ := h0.at hx67
          obtain ⟨a76, c77, rfl, h78⟩ := hR74
          refine WL.vS hS hE (runs_plain rfl) (Gives.idx hE k62 rfl rfl sl40 rfl hlt66 (h0.aok hlt66)) rfl ?_; clear hE a; intro a hE
          refine WL.vS hS hE (runs_plain rfl) (Gives.load1 hE rfl (fun w h => hat75 w _ h) ty22) rfl ?_; clear hE a; intro a hE
          refine WL.vS hS hE (runs_plain rfl) (Gives.p hE rfl) rfl ?_; clear hE a; intro a hE
          refine WL.nil ?_
          refine W.seq ?_
          refine W.region ?_
          refine WL.vS hS hE (runs_plain rfl) (Gives.p hE rfl) rfl ?_; clear hE a; intro a hE
          refine WL.vS hS hE (runs_plain rfl) (Gives.len hE rfl sl22) rfl ?_; clear hE a; intro a hE
          refine WL.vS hS hE (runs_plain rfl) (Gives.p hE rfl) rfl ?_; clear hE a; intro a hE
          refine WL.vS hS hE (runs_plain rfl) (Gives.len hE rfl sl40) rfl ?_; clear hE a; intro a hE
          refine WL.vS hS hE (runs_plain rfl) (Gives.p hE rfl) rfl ?_; clear hE a; intro a hE
          refine WL.nil ?_
          refine W.cond hE rfl (fun hc79 => ?_) (fun hc79 => ?_)
          · replace hq60 := iteT hc79 hq60
            refine W.seq ?_
            refine W.region ?_
            refine WL.vS hS hE (runs_plain rfl) (Gives.p hE rfl) rfl ?_; clear hE a; intro a hE
            refine WL.vS hS hE (runs_plain rfl) (Gives.p hE rfl) rfl ?_; clear hE a; intro a hE
            refine WL.nil ?_
            refine W.ret ?_
            subst hK71
            rw [← hq60] at hr
            dsimp only at hr
            replace hS := hS.vecNil 22 1
            refine finG (fn := Try.f30) (rs := [.tmp 4, .tmp 5]) (vs := [_, _]) hE rfl ⟨rfl, rfl, trivial⟩ ?_
            obtain rfl := Option.some.inj hr
            exact ⟨none, 0, 0, [], s, rfl, (Sg.Le.refl _), (Ev.nil), (rfl), hS⟩
          · replace hq60 := iteF hc79 hq60
            refine W.skip ?_
            refine W.region ?_
            refine WL.vS hS hE (runs_plain rfl) (Gives.inc hE rfl (by have := h0.small; omega)) rfl ?_; clear hE a; intro a hE
            refine WL.vS hS hE (runs_plain rfl) (Gives.p hE rfl) rfl ?_; clear hE a; intro a hE
            refine WL.nil ?_
            subst hK71
            exact ⟨rest64.length, Nat.lt_succ_self _, rest64, k62 + 1, rfl, hd65, hq60, hE.pick _ ⟨rfl, rfl, rfl, rfl, rfl, trivial⟩, hS⟩
      · clear hE hS a w; rintro a w ⟨rfl, hE, hS⟩
        dsimp only at hr
        refine W.seq ?_
        refine W.region ?_
        refine WL.vS hS hE (runs_plain rfl) (Gives.p hE rfl) rfl ?_; clear hE a; intro a hE
        refine WL.nil ?_
        refine W.seq ?_
        refine W.seq ?_
        refine W.region ?_
        refine WL.vS hS hE (runs_plain rfl) (Gives.p hE rfl) rfl ?_; clear hE a; intro a hE
        refine WL.vS hS hE (runs_plain rfl) (Gives.len hE rfl sl40) rfl ?_; clear hE a; intro a hE
        refine WL.vS hS hE (runs_plain rfl) (Gives.p hE rfl) rfl ?_; clear hE a; intro a hE
        refine WL.nil ?_
        obtain ⟨q82, hq81, hr⟩ := bndS hr
        refine W.cut (fun a w => ∃ (q92 : Int), (.next q92) = q82 ∧ Rep a 127 [(0, .slice a0 x0.length c0), (1, .slice a1 x1.length c1), (8, .int .i64 q92)] ∧ St w s (R)) ?_ ?_
        · refine W.block ?_
          refine W.loop (fun m a w => ∃ (rest85 : List (List Int)) (k83 : Nat), ∃ (q92 : Int), rest85.length = m ∧ x1.drop k83 = rest85 ∧ Fishref2ProductOf.loop2 rest85 k83 q92 = q82 ∧ Rep a 127 [(0, .slice a0 x0.length c0), (1, .slice a1 x1.length c1), (8, .int .i64 q92), (42, .slice a1 x1.length c1), (43, .int .i64 ((x1).length : Int)), (44, .int .i64 ((k83 : Nat) : Int))] ∧ St w s (R)) (m := x1.length) ⟨x1, 0, 0, rfl, rfl, hq81, hE.pick _ ⟨rfl, rfl, rfl, rfl, rfl, rfl, trivial⟩, hS⟩ ?_
          clear hE hS a w hq81; rintro m89 a w ⟨rest85, k83, q92, rfl, hd86, hq81, hE, hS⟩
          refine W.gen fun K93 hK93 => ?_
          rcases rest85 with _ | ⟨x84, rest85⟩
          · have hlt87 := drop_nil hd86
            refine W.seq ?_
            refine W.region ?_
            refine WL.vS hS hE (runs_plain rfl) (Gives.p hE rfl) rfl ?_; clear hE a; intro a hE
            refine WL.nil ?_
            refine W.seq ?_
            refine W.condF hE rfl (decide_eq_false (by omega)) ?_
            subst hK93
            refine W.exit rfl ?_
            exact ⟨q92, hq81, hE.pick _ ⟨rfl, rfl, rfl, trivial⟩, hS⟩
          · obtain ⟨hlt87, hx88, hd86⟩ := drop_cons hd86
            rw [Fishref2ProductOf.loop2] at hq81
            refine W.seq ?_
            refine W.region ?_
            refine WL.vS hS hE (runs_plain rfl) (Gives.p hE rfl) rfl ?_; clear hE a; intro a hE
            refine WL.nil ?_
            refine W.seq ?_
            refine W.condT hE rfl (decide_eq_true (by omega)) ?_
            refine W.skip ?_
            refine W.seq ?_
            refine W.block ?_
            refine W.seq ?_
            refine W.region ?_
            refine WL.vS hS hE (runs_plain rfl) (Gives.p hE rfl) rfl ?_; clear hE a; intro a hE
            obtain ⟨cs94, hl95, hR96, hat97⟩ := h1.at hx88
            obtain ⟨a98, c99, rfl, h100⟩ := hR96
            refine WL.vS hS hE (runs_plain rfl) (Gives.idx hE k83 rfl rfl sl40 rfl hlt87 (h1.aok hlt87)) rfl ?_; clear hE a; intro a hE
            refine WL.vS hS hE (runs_plain rfl) (Gives.load1 hE rfl (fun w h => hat97 w _ h) ty22) rfl ?_; clear hE a; intro a hE
            refine WL.vS hS hE (runs_plain rfl) (Gives.p hE rfl) rfl ?_; clear hE a; intro a hE
            refine WL.vS hS hE (runs_plain rfl) (Gives.p hE rfl) rfl ?_; clear hE a; intro a hE
            refine WL.nil ?_
            refine W.seq ?_
            refine W.seq ?_
            obtain ⟨q102, hq101, hq81⟩ := bndS hq81
            refine W.cut (fun a w => ∃ (q105 : Bool), q105 = q102 ∧ Rep a 127 [(0, .slice a0 x0.length c0), (1, .slice a1 x1.length c1), (10, .slice a98 x84.length c99), (42, .slice a1 x1.length c1), (43, .int .i64 ((x1).length : Int)), (44, .int .i64 ((k83 : Nat) : Int)), (56, .bool q105)] ∧ St w s (R)) ?_ ?_
            · refine W.gen fun K106 hK106 => ?_
              refine W.region ?_
              refine WL.vS hS hE (runs_plain rfl) (Gives.p hE rfl) rfl ?_; clear hE a; intro a hE
              refine WL.vS hS hE (runs_plain rfl) (Gives.p hE rfl) rfl ?_; clear hE a; intro a hE
              refine WL.vS hS hE (runs_plain rfl) (Gives.p hE rfl) rfl ?_; clear hE a; intro a hE
              rcases Bool.eq_false_or_eq_true (decide (((k83 : Nat) : Int) > 0)) with hg107 | hg107
              · replace hq101 := iteT hg107 hq101
                refine WL.vS hS hE (runs_if hE rfl rfl rfl hg107) (Gives.p hE rfl) rfl ?_; clear hE a; intro a hE
                refine WL.vS hS hE (runs_if hE rfl rfl rfl hg107) (Gives.len hE rfl sl22) rfl ?_; clear hE a; intro a hE
                refine WL.vS hS hE (runs_if hE rfl rfl rfl hg107) (Gives.p hE rfl) rfl ?_; clear hE a; intro a hE
                refine WL.vS hS hE (runs_if hE rfl rfl rfl hg107) (Gives.p hE rfl) rfl ?_; clear hE a; intro a hE
                refine WL.vS hS hE (runs_plain rfl) (Gives.pickT hE rfl hg107 rfl) rfl ?_; clear hE a; intro a hE
                refine WL.nil ?_
                subst hK106
                exact ⟨(((x84).length : Int) != q92), hq101, hE.pick _ ⟨rfl, rfl, rfl, rfl, rfl, rfl, rfl, trivial⟩, hS⟩
              · replace hq101 := iteF hg107 hq101
                refine WL.no hE (runs_not hE rfl rfl rfl (by rw [hg107]; decide)) rfl ?_; clear hE a; intro a hE
                refine WL.no hE (runs_not hE rfl rfl rfl (by rw [hg107]; decide)) rfl ?_; clear hE a; intro a hE
                refine WL.no hE (runs_not hE rfl rfl rfl (by rw [hg107]; decide)) rfl ?_; clear hE a; intro a hE
                refine WL.no hE (runs_not hE rfl rfl rfl (by rw [hg107]; decide)) rfl ?_; clear hE a; intro a hE
                refine WL.vS hS hE (runs_plain rfl) (Gives.pickF hE rfl hg107 rfl) rfl ?_; clear hE a; intro a hE
                refine WL.nil ?_
                subst hK106
                exact ⟨false, hq101, hE.pick _ ⟨rfl, rfl, rfl, rfl, rfl, rfl, rfl, trivial⟩, hS⟩
            · clear hE hS a w; rintro a w ⟨q105, rfl, hE, hS⟩
              refine W.cond hE rfl (fun hc108 => ?_) (fun hc108 => ?_)
              · replace hq81 := iteT hc108 hq81
                refine W.seq ?_
                refine W.region ?_
                refine WL.vS hS hE (runs_plain rfl) (Gives.p hE rfl) rfl ?_; clear hE a; intro a hE
                refine WL.vS hS hE (runs_plain rfl) (Gives.p hE rfl) rfl ?_; clear hE a; intro a hE
                refine WL.nil ?_
                refine W.ret ?_
                subst hK93
                rw [← hq81] at hr
                dsimp only at hr
                replace hS := hS.vecNil 22 1
                refine finG (fn := Try.f30) (rs := [.tmp 4, .tmp 5]) (vs := [_, _]) hE rfl ⟨rfl, rfl, trivial⟩ ?_
                obtain rfl := Option.some.inj hr
                exact ⟨none, 0, 0, [], s, rfl, (Sg.Le.refl _), (Ev.nil), (rfl), hS⟩
              · replace hq81 := iteF hc108 hq81
                refine W.skip ?_
                refine W.region ?_
                refine WL.vS hS hE (runs_plain rfl) (Gives.p hE rfl) rfl ?_; clear hE a; intro a hE
                refine WL.vS hS hE (runs_plain rfl) (Gives.len hE rfl sl22) rfl ?_; clear hE a; intro a hE
                refine WL.vS hS hE (runs_plain rfl) (Gives.p hE rfl) rfl ?_; clear hE a; intro a hE
                refine WL.nil ?_
                refine W.region ?_
                refine WL.vS hS hE (runs_plain rfl) (Gives.inc hE rfl (by have := h1.small; omega)) rfl ?_; clear hE a; intro a hE
                refine WL.vS hS hE (runs_plain rfl) (Gives.p hE rfl) rfl ?_; clear hE a; intro a hE
                refine WL.nil ?_
                subst hK93
                exact ⟨rest85.length, Nat.lt_succ_self _, rest85, k83 + 1, ((x84).length : Int), rfl, hd86, hq81, hE.pick _ ⟨rfl, rfl, rfl, rfl, rfl, rfl, trivial⟩, hS⟩
        · clear hE hS a w; rintro a w ⟨q92, rfl, hE, hS⟩
          dsimp only at hr
          refine W.seq ?_
          refine W.seq ?_
          refine W.region ?_
          refine WL.vS hS hE (runs_plain rfl) (Gives.p hE rfl) rfl ?_; clear hE a; intro a hE
          refine WL.vS hS hE (runs_plain rfl) (Gives.p hE rfl) rfl ?_; clear hE a; intro a hE
          refine WL.nil ?_
          refine W.cond hE rfl (fun hc110 => ?_) (fun hc110 => ?_)
          · replace hr := iteT hc110 hr
            refine W.seq ?_
            refine W.region ?_
            refine WL.vS hS hE (runs_plain rfl) (Gives.p hE rfl) rfl ?_; clear hE a; intro a hE
            refine WL.vS hS hE (runs_plain rfl) (Gives.p hE rfl) rfl ?_; clear hE a; intro a hE
            refine WL.nil ?_
            refine W.ret ?_
            replace hS := hS.vecNil 22 1
            refine finG (fn := Try.f30) (rs := [.tmp 4, .tmp 5]) (vs := [_, _]) hE rfl ⟨rfl, rfl, trivial⟩ ?_
            obtain rfl := Option.some.inj hr
            exact ⟨none, 0, 0, [], s, rfl, (Sg.Le.refl _), (Ev.nil), (rfl), hS⟩
          · replace hr := iteF hc110 hr
            refine W.skip ?_
            refine W.seq ?_
            refine W.seq ?_
            refine W.region ?_
            refine WL.vS hS hE (runs_plain rfl) (Gives.p hE rfl) rfl ?_; clear hE a; intro a hE
            refine WL.vS hS hE (runs_plain rfl) (Gives.p hE rfl) rfl ?_; clear hE a; intro a hE
            refine WL.lit hE hS (e := 40) (es := 1) (vs := [(0, .slice a0 x0.length c0), (1, .slice a1 x1.length c1)]) (cs := [.slice a0 x0.length c0, .slice a1 x1.length c1]) (runs_plain rfl) rfl (by kernel_rfl) rfl ?_; clear hE hS a w; intro b112 a w hE hS
            replace hS := hS.ptVec (es := 1) (m := 2) rfl (by decide)
            have h114 : Ev 1 (RL 1 (RL 1 (RI .i64))) s [.slice a0 x0.length c0, .slice a1 x1.length c1] [x0, x1] := (Ev.cons (c1 := [.slice a0 x0.length c0]) ⟨_, _, rfl, h0⟩ rfl (Ev.cons (c1 := [.slice a1 x1.length c1]) ⟨_, _, rfl, h1⟩ rfl (Ev.nil)))
            have hF := hS.fixD (RL.mono (RL.mono RI.mono)) 0 rfl h114 (rfl); clear hS; obtain ⟨s115, hle116, hS, h117⟩ := hF
            replace h0 := Sl.mono (RL.mono RI.mono) hle116 h0
            replace h1 := Sl.mono (RL.mono RI.mono) hle116 h1
            refine WL.vS hS hE (runs_plain rfl) (Gives.len hE rfl sl114) rfl ?_; clear hE a; intro a hE
            refine WL.vS hS hE (runs_plain rfl) (Gives.p hE rfl) rfl ?_; clear hE a; intro a hE
            refine WL.nil ?_
            obtain ⟨q119, hq118, hr⟩ := bndS hr
            refine W.cut (fun a w => (.next ()) = q119 ∧ Rep a 127 [(0, .slice a0 x0.length c0), (1, .slice a1 x1.length c1), (8, .int .i64 q92)] ∧ St w s115 (R)) ?_ ?_
            · refine W.block ?_
              refine W.loop (fun m a w => ∃ (rest122 : List (List (List Int))) (k120 : Nat), rest122.length = m ∧ [x0, x1].drop k120 = rest122 ∧ Fishref2ProductOf.loop3 rest122 = q119 ∧ Rep a 127 [(0, .slice a0 x0.length c0), (1, .slice a1 x1.length c1), (8, .int .i64 q92), (64, .slice (some ⟨b112, 0, none⟩) 2 2), (65, .int .i64 (([x0, x1]).length : Int)), (66, .int .i64 ((k120 : Nat) : Int))] ∧ St w s115 (R)) (m := [x0, x1].length) ⟨[x0, x1], 0, rfl, rfl, hq118, hE.pick _ ⟨rfl, rfl, rfl, rfl, rfl, rfl, trivial⟩, hS⟩ ?_
              clear hE hS a w hq118; rintro m126 a w ⟨rest122, k120, rfl, hd123, hq118, hE, hS⟩
              refine W.gen fun K129 hK129 => ?_
              rcases rest122 with _ | ⟨x121, rest122⟩
              · have hlt124 := drop_nil hd123
                refine W.seq ?_
                refine W.region ?_
                refine WL.vS hS hE (runs_plain rfl) (Gives.p hE rfl) rfl ?_; clear hE a; intro a hE
                refine WL.nil ?_
                refine W.seq ?_
                refine W.condF hE rfl (decide_eq_false (by omega)) ?_
                subst hK129
                refine W.exit rfl ?_
                exact ⟨hq118, hE.pick _ ⟨rfl, rfl, rfl, trivial⟩, hS⟩
              · obtain ⟨hlt124, hx125, hd123⟩ := drop_cons hd123
                rw [Fishref2ProductOf.loop3] at hq118
                refine W.seq ?_
                refine W.region ?_
                refine WL.vS hS hE (runs_plain rfl) (Gives.p hE rfl) rfl ?_; clear hE a; intro a hE
                refine WL.nil ?_
                refine W.seq ?_
                refine W.condT hE rfl (decide_eq_true (by omega)) ?_
                refine W.skip ?_
                refine W.seq ?_
                refine W.block ?_
                refine W.seq ?_
                refine W.region ?_
                obtain ⟨cs130, hl131, hR132, hat133⟩ := h117.at hx125
                obtain ⟨a134, c135, rfl, h136⟩ := hR132
                refine WL.vS hS hE (runs_plain rfl) (Gives.idx hE k120 rfl rfl sl114 rfl hlt124 (h117.aok hlt124)) rfl ?_; clear hE a; intro a hE
                refine WL.vS hS hE (runs_plain rfl) (Gives.load1 hE rfl (fun w h => hat133 w _ h) ty40) rfl ?_; clear hE a; intro a hE
                refine WL.vS hS hE (runs_plain rfl) (Gives.p hE rfl) rfl ?_; clear hE a; intro a hE
                refine WL.nil ?_
                refine W.seq ?_
                refine W.region ?_
                refine WL.vS hS hE (runs_plain rfl) (Gives.p hE rfl) rfl ?_; clear hE a; intro a hE
                refine WL.fnq hE (Fishref2numbersFault_ok hS h136 rfl (r := Fishref2numbersFault x121)) (runs_plain rfl) bd74 rfl rfl rfl ?_
                clear hE hS; rintro e w ⟨rfl, hS⟩; refine ⟨_, rfl, ?_⟩; clear a; intro a hE
                refine WL.vS hS hE (runs_plain rfl) (Gives.p hE rfl) rfl ?_; clear hE a; intro a hE
                refine WL.nil ?_
                refine W.seq ?_
                refine W.region ?_
                refine WL.vS hS hE (runs_plain rfl) (Gives.p hE rfl) rfl ?_; clear hE a; intro a hE
                refine WL.vS hS hE (runs_plain rfl) (Gives.p hE rfl) rfl ?_; clear hE a; intro a hE
                refine WL.nil ?_
                refine W.cond hE rfl (fun hc137 => ?_) (fun hc137 => ?_)
                · replace hq118 := iteT hc137 hq118
                  refine W.seq ?_
                  refine W.region ?_
                  refine WL.vS hS hE (runs_plain rfl) (Gives.p hE rfl) rfl ?_; clear hE a; intro a hE
                  refine WL.vS hS hE (runs_plain rfl) (Gives.p hE rfl) rfl ?_; clear hE a; intro a hE
                  refine WL.vS hS hE (runs_plain rfl) (Gives.p hE rfl) rfl ?_; clear hE a; intro a hE
                  refine WL.nil ?_
                  refine W.ret ?_
                  subst hK129
                  rw [← hq118] at hr
                  dsimp only at hr
                  replace hS := hS.vecNil 22 1
                  refine finG (fn := Try.f30) (rs := [.tmp 4, .tmp 5]) (vs := [_, _]) hE rfl ⟨rfl, rfl, trivial⟩ ?_
                  obtain rfl := Option.some.inj hr
                  exact ⟨none, 0, 0, [], s115, rfl, hle116, (Ev.nil), (rfl), hS⟩
                · replace hq118 := iteF hc137 hq118
                  refine W.skip ?_
                  refine W.region ?_
                  refine WL.vS hS hE (runs_plain rfl) (Gives.inc hE rfl (by have := h117.small; omega)) rfl ?_; clear hE a; intro a hE
                  refine WL.vS hS hE (runs_plain rfl) (Gives.p hE rfl) rfl ?_; clear hE a; intro a hE
                  refine WL.nil ?_
                  subst hK129
                  exact ⟨rest122.length, Nat.lt_succ_self _, rest122, k120 + 1, rfl, hd123, hq118, hE.pick _ ⟨rfl, rfl, rfl, rfl, rfl, rfl, trivial⟩, hS⟩
            · clear hE hS a w; rintro a w ⟨rfl, hE, hS⟩
              dsimp only at hr
              refine W.seq ?_
              refine W.region ?_
              replace hS := hS.vecNil 22 1
              refine WL.vS hS hE (runs_plain rfl) (Gives.p hE rfl) rfl ?_; clear hE a; intro a hE
              refine WL.nil ?_
              refine W.seq ?_
              refine W.seq ?_
              refine W.region ?_
              refine WL.vS hS hE (runs_plain rfl) (Gives.p hE rfl) rfl ?_; clear hE a; intro a hE
              refine WL.vS hS hE (runs_plain rfl) (Gives.len hE rfl sl40) rfl ?_; clear hE a; intro a hE
              refine WL.vS hS hE (runs_plain rfl) (Gives.p hE rfl) rfl ?_; clear hE a; intro a hE
              refine WL.nil ?_
              obtain ⟨q141, hq140, hr⟩ := bindS hr
              refine W.cut (fun a w => ∃ (q151 : List (List Int)), ∃ (a152 : Option Addr), ∃ (c153 : Nat), ∃ (n155 : Nat), ∃ (cs156 : List Value), ∃ (s149 : Sg), s115.Le s149 ∧ q151 = q141 ∧ Ev 1 (RL 1 (RI .i64)) s149 cs156 q151 ∧ q151.length = n155 ∧ Rep a 127 [(14, .slice a152 n155 c153)] ∧ St w s149 (vecC 22 1 a152 c153 n155 cs156 :: R)) ?_ ?_
              · refine W.block ?_
                refine W.loop (fun m a w => ∃ (rest144 : List (List Int)) (k142 : Nat), ∃ (q151 : List (List Int)), ∃ (a152 : Option Addr), ∃ (c153 : Nat), ∃ (n155 : Nat), ∃ (cs156 : List Value), ∃ (s149 : Sg), rest144.length = m ∧ x0.drop k142 = rest144 ∧ s115.Le s149 ∧ Fishref2ProductOf.loop4 x1 fu q92 rest144 q151 = some q141 ∧ Ev 1 (RL 1 (RI .i64)) s149 cs156 q151 ∧ q151.length = n155 ∧ Rep a 127 [(1, .slice a1 x1.length c1), (8, .int .i64 q92), (14, .slice a152 n155 c153), (76, .slice a0 x0.length c0), (77, .int .i64 ((x0).length : Int)), (78, .int .i64 ((k142 : Nat) : Int))] ∧ St w s149 (vecC 22 1 a152 c153 n155 cs156 :: R)) (m := x0.length) ⟨x0, 0, [], none, 0, 0, [], s115, rfl, rfl, (Sg.Le.refl _), hq140, (Ev.nil), (rfl), hE.pick _ ⟨rfl, rfl, rfl, rfl, rfl, rfl, trivial⟩, hS⟩ ?_
                clear hE hS a w hq140; rintro m148 a w ⟨rest144, k142, q151, a152, c153, n155, cs156, s149, rfl, hd145, hle150, hq140, h154, rfl, hE, hS⟩
                refine W.gen fun K158 hK158 => ?_
                replace h0 := Sl.mono (RL.mono RI.mono) hle150 h0
                replace h1 := Sl.mono (RL.mono RI.mono) hle150 h1
                rcases rest144 with _ | ⟨x143, rest144⟩
                · have hlt146 := drop_nil hd145
                  refine W.seq ?_
                  refine W.region ?_
                  refine WL.vS hS hE (runs_plain rfl) (Gives.p hE rfl) rfl ?_; clear hE a; intro a hE
                  refine WL.nil ?_
                  refine W.seq ?_
                  refine W.condF hE rfl (decide_eq_false (by omega)) ?_
                  subst hK158
                  refine W.exit rfl ?_
                  exact ⟨q151, a152, c153, q151.length, cs156, s149, hle150, Option.some.inj hq140, h154, rfl, hE.pick _ ⟨rfl, trivial⟩, hS⟩
                · obtain ⟨hlt146, hx147, hd145⟩ := drop_cons hd145
                  rw [Fishref2ProductOf.loop4] at hq140
                  refine W.seq ?_
                  refine W.region ?_
                  refine WL.vS hS hE (runs_plain rfl) (Gives.p hE rfl) rfl ?_; clear hE a; intro a hE
                  refine WL.nil ?_
                  refine W.seq ?_
                  refine W.condT hE rfl (decide_eq_true (by omega)) ?_
                  refine W.skip ?_
                  refine W.seq ?_
                  refine W.block ?_
                  refine W.seq ?_
                  refine W.region ?_
                  obtain ⟨cs159, hl160, hR161, hat162⟩ := h0.at hx147
                  obtain ⟨a163, c164, rfl, h165⟩ := hR161
                  refine WL.vS hS hE (runs_plain rfl) (Gives.idx hE k142 rfl rfl sl40 rfl hlt146 (h0.aok hlt146)) rfl ?_; clear hE a; intro a hE
                  refine WL.vS hS hE (runs_plain rfl) (Gives.load1 hE rfl (fun w h => hat162 w _ h) ty22) rfl ?_; clear hE a; intro a hE
                  refine WL.vS hS hE (runs_plain rfl) (Gives.p hE rfl) rfl ?_; clear hE a; intro a hE
                  refine WL.nil ?_
                  refine W.seq ?_
                  refine W.region ?_
                  refine WL.lit hE hS (e := 3) (es := 1) (vs := [(0, .int .i64 (-4611686018427387904))]) (cs := [.int .i64 (-4611686018427387904)]) (runs_plain rfl) rfl (by kernel_rfl) rfl ?_; clear hE hS a w; intro b166 a w hE hS
                  replace hS := hS.ptVec (es := 1) (m := 1) rfl (by decide)
                  have h168 : Ev 1 (RI .i64) s149 [.int .i64 (-4611686018427387904)] [(-4611686018427387904)] := (Ev.cons (c1 := [.int .i64 (-4611686018427387904)]) rfl rfl (Ev.nil))
                  have hF := hS.fixD RI.mono 0 rfl h168 (rfl); clear hS; obtain ⟨s169, hle170, hS, h171⟩ := hF
                  replace h1 := Sl.mono (RL.mono RI.mono) hle170 h1
                  replace h0 := Sl.mono (RL.mono RI.mono) hle170 h0
                  replace h165 := Sl.mono RI.mono hle170 h165
                  replace h154 := Ev.mono (RL.mono RI.mono) hle170 h154
                  refine WL.vS hS hE (runs_plain rfl) (Gives.p hE rfl) rfl ?_; clear hE a; intro a hE
                  obtain ⟨q172, hq173, hq140⟩ := bindS hq140
                  have hc_ := SlicesRepeatLint_ok hS h171 hq173
                  refine WL.fnq hE (hc_) (runs_plain rfl) bd57 rfl rfl rfl ?_
                  clear hE hS hc_; rintro e w ⟨a174, c175, n176, cs177, rfl, h178, rfl, hS⟩; refine ⟨_, rfl, ?_⟩; clear a; intro a hE
                  refine WL.vS hS hE (runs_plain rfl) (Gives.p hE rfl) rfl ?_; clear hE a; intro a hE
                  refine WL.nil ?_
                  refine W.seq ?_
                  refine W.seq ?_
                  refine W.region ?_
                  refine WL.vS hS hE (runs_plain rfl) (Gives.p hE rfl) rfl ?_; clear hE a; intro a hE
                  refine WL.vS hS hE (runs_plain rfl) (Gives.len hE rfl sl22) rfl ?_; clear hE a; intro a hE
                  refine WL.vS hS hE (runs_plain rfl) (Gives.p hE rfl) rfl ?_; clear hE a; intro a hE
                  refine WL.nil ?_
                  obtain ⟨q181, hq180, hq140⟩ := bindS hq140
                  refine W.cut (fun a w => ∃ (q191 : List Int), ∃ (cs195 : List Value), q191 = q181 ∧ Ev 1 (RI .i64) s169 cs195 q191 ∧ q191.length = q172.length ∧ Rep a 127 [(1, .slice a1 x1.length c1), (8, .int .i64 q92), (14, .slice a152 q151.length c153), (17, .slice a174 q172.length c175), (76, .slice a0 x0.length c0), (77, .int .i64 ((x0).length : Int)), (78, .int .i64 ((k142 : Nat) : Int))] ∧ St w s169 (vecC 3 1 a174 c175 q172.length cs195 :: vecC 22 1 a152 c153 q151.length cs156 :: R)) ?_ ?_
                  · refine W.block ?_
                    refine W.loop (fun m a w => ∃ (rest184 : List Int) (k182 : Nat), ∃ (q191 : List Int), ∃ (cs195 : List Value), rest184.length = m ∧ x143.drop k182 = rest184 ∧ Fishref2ProductOf.loop5 x1 rest184 k182 q191 = some q181 ∧ Ev 1 (RI .i64) s169 cs195 q191 ∧ q191.length = q172.length ∧ Rep a 127 [(1, .slice a1 x1.length c1), (8, .int .i64 q92), (14, .slice a152 q151.length c153), (17, .slice a174 q172.length c175), (76, .slice a0 x0.length c0), (77, .int .i64 ((x0).length : Int)), (78, .int .i64 ((k142 : Nat) : Int)), (85, .slice a163 x143.length c164), (86, .int .i64 ((x143).length : Int)), (87, .int .i64 ((k182 : Nat) : Int))] ∧ St w s169 (vecC 3 1 a174 c175 q172.length cs195 :: vecC 22 1 a152 c153 q151.length cs156 :: R)) (m := x143.length) ⟨x143, 0, q172, cs177, rfl, rfl, hq180, h178, rfl, hE.pick _ ⟨rfl, rfl, rfl, rfl, rfl, rfl, rfl, rfl, rfl, rfl, trivial⟩, hS⟩ ?_
                    clear hE hS a w hq180; rintro m188 a w ⟨rest184, k182, q191, cs195, rfl, hd185, hq180, h194, hn196, hE, hS⟩
                    refine W.gen fun K197 hK197 => ?_
                    rcases rest184 with _ | ⟨x183, rest184⟩
                    · have hlt186 := drop_nil hd185
                      refine W.seq ?_
                      refine W.region ?_
                      refine WL.vS hS hE (runs_plain rfl) (Gives.p hE rfl) rfl ?_; clear hE a; intro a hE
                      refine WL.nil ?_
                      refine W.seq ?_
                      refine W.condF hE rfl (decide_eq_false (by omega)) ?_
                      subst hK197
                      refine W.exit rfl ?_
                      exact ⟨q191, cs195, Option.some.inj hq180, h194, hn196, hE.pick _ ⟨rfl, rfl, rfl, rfl, rfl, rfl, rfl, trivial⟩, hS⟩
                    · obtain ⟨hlt186, hx187, hd185⟩ := drop_cons hd185
                      rw [Fishref2ProductOf.loop5] at hq180
                      refine W.seq ?_
                      refine W.region ?_
                      refine WL.vS hS hE (runs_plain rfl) (Gives.p hE rfl) rfl ?_; clear hE a; intro a hE
                      refine WL.nil ?_
                      refine W.seq ?_
                      refine W.condT hE rfl (decide_eq_true (by omega)) ?_
                      refine W.skip ?_
                      refine W.seq ?_
                      refine W.block ?_
                      refine W.seq ?_
                      refine W.region ?_
                      refine WL.vS hS hE (runs_plain rfl) (Gives.p hE rfl) rfl ?_; clear hE a; intro a hE
                      obtain ⟨cs198, hl199, hR200, hat201⟩ := h165.at hx187
                      subst hR200
                      refine WL.vS hS hE (runs_plain rfl) (Gives.idx hE k182 rfl rfl sl22 rfl hlt186 (h165.aok hlt186)) rfl ?_; clear hE a; intro a hE
                      refine WL.vS hS hE (runs_plain rfl) (Gives.load1 hE rfl (fun w h => hat201 w _ h) ty3) rfl ?_; clear hE a; intro a hE
                      refine WL.vS hS hE (runs_plain rfl) (Gives.p hE rfl) rfl ?_; clear hE a; intro a hE
                      refine WL.vS hS hE (runs_plain rfl) (Gives.p hE rfl) rfl ?_; clear hE a; intro a hE
                      refine WL.nil ?_
                      refine W.seq ?_
                      refine W.region ?_
                      refine WL.vS hS hE (runs_plain rfl) (Gives.p hE rfl) rfl ?_; clear hE a; intro a hE
                      refine WL.vS hS hE (runs_plain rfl) (Gives.p hE rfl) rfl ?_; clear hE a; intro a hE
                      obtain ⟨x202, hx203, hq180⟩ := bindS hq180
                      obtain ⟨hi204, hlt205, hy206⟩ := gx_some hx203
                      obtain ⟨cs207, hl208, hR209, hat210⟩ := h1.at hy206
                      obtain ⟨a211, c212, rfl, h213⟩ := hR209
                      refine WL.vS hS hE (runs_plain rfl) (Gives.idx hE (((k182 : Nat) : Int)).toNat rfl rfl sl40 hi204 hlt205 (h1.aok hlt205)) rfl ?_; clear hE a; intro a hE
                      refine WL.vS hS hE (runs_plain rfl) (Gives.load1 hE rfl (fun w h => hat210 w _ h) ty22) rfl ?_; clear hE a; intro a hE
                      refine WL.vS hS hE (runs_plain rfl) (Gives.len hE rfl sl22) rfl ?_; clear hE a; intro a hE
                      refine WL.vS hS hE (runs_plain rfl) (Gives.p hE rfl) rfl ?_; clear hE a; intro a hE
                      refine WL.nil ?_
                      obtain ⟨q215, hq214, hq180⟩ := bindS hq180
                      refine W.cut (fun a w => ∃ (q225 : List Int), ∃ (cs229 : List Value), q225 = q215 ∧ Ev 1 (RI .i64) s169 cs229 q225 ∧ q225.length = q172.length ∧ Rep a 127 [(1, .slice a1 x1.length c1), (8, .int .i64 q92), (14, .slice a152 q151.length c153), (17, .slice a174 q172.length c175), (76, .slice a0 x0.length c0), (77, .int .i64 ((x0).length : Int)), (78, .int .i64 ((k142 : Nat) : Int)), (85, .slice a163 x143.length c164), (86, .int .i64 ((x143).length : Int)), (87, .int .i64 ((k182 : Nat) : Int))] ∧ St w s169 (vecC 3 1 a174 c175 q172.length cs229 :: vecC 22 1 a152 c153 q151.length cs156 :: R)) ?_ ?_
                      · refine W.block ?_
                        refine W.loop (fun m a w => ∃ (rest218 : List Int) (k216 : Nat), ∃ (q225 : List Int), ∃ (cs229 : List Value), rest218.length = m ∧ x202.drop k216 = rest218 ∧ Fishref2ProductOf.loop6 x183 rest218 k216 q225 = some q215 ∧ Ev 1 (RI .i64) s169 cs229 q225 ∧ q225.length = q172.length ∧ Rep a 127 [(1, .slice a1 x1.length c1), (8, .int .i64 q92), (14, .slice a152 q151.length c153), (17, .slice a174 q172.length c175), (19, .int .i64 x183), (76, .slice a0 x0.length c0), (77, .int .i64 ((x0).length : Int)), (78, .int .i64 ((k142 : Nat) : Int)), (85, .slice a163 x143.length c164), (86, .int .i64 ((x143).length : Int)), (87, .int .i64 ((k182 : Nat) : Int)), (95, .slice a211 x202.length c212), (96, .int .i64 ((x202).length : Int)), (97, .int .i64 ((k216 : Nat) : Int))] ∧ St w s169 (vecC 3 1 a174 c175 q172.length cs229 :: vecC 22 1 a152 c153 q151.length cs156 :: R)) (m := x202.length) ⟨x202, 0, q191, cs195, rfl, rfl, hq214, h194, hn196, hE.pick _ ⟨rfl, rfl, rfl, rfl, rfl, rfl, rfl, rfl, rfl, rfl, rfl, rfl, rfl, rfl, trivial⟩, hS⟩ ?_
                        clear hE hS a w hq214; rintro m222 a w ⟨rest218, k216, q225, cs229, rfl, hd219, hq214, h228, hn230, hE, hS⟩
                        refine W.gen fun K231 hK231 => ?_
                        rcases rest218 with _ | ⟨x217, rest218⟩
                        · have hlt220 := drop_nil hd219
                          refine W.seq ?_
                          refine W.region ?_
                          refine WL.vS hS hE (runs_plain rfl) (Gives.p hE rfl) rfl ?_; clear hE a; intro a hE
                          refine WL.nil ?_
                          refine W.seq ?_
                          refine W.condF hE rfl (decide_eq_false (by omega)) ?_
                          subst hK231
                          refine W.exit rfl ?_
                          exact ⟨q225, cs229, Option.some.inj hq214, h228, hn230, hE.pick _ ⟨rfl, rfl, rfl, rfl, rfl, rfl, rfl, rfl, rfl, rfl, trivial⟩, hS⟩
                        · obtain ⟨hlt220, hx221, hd219⟩ := drop_cons hd219
                          rw [Fishref2ProductOf.loop6] at hq214
                          refine W.seq ?_
                          refine W.region ?_
                          refine WL.vS hS hE (runs_plain rfl) (Gives.p hE rfl) rfl ?_; clear hE a; intro a hE
                          refine WL.nil ?_
                          refine W.seq ?_
                          refine W.condT hE rfl (decide_eq_true (by omega)) ?_
                          refine W.skip ?_
                          refine W.seq ?_
                          refine W.block ?_
                          refine W.seq ?_
                          refine W.region ?_
                          refine WL.vS hS hE (runs_plain rfl) (Gives.p hE rfl) rfl ?_; clear hE a; intro a hE
                          obtain ⟨cs232, hl233, hR234, hat235⟩ := h213.at hx221
                          subst hR234
                          refine WL.vS hS hE (runs_plain rfl) (Gives.idx hE k216 rfl rfl sl22 rfl hlt220 (h213.aok hlt220)) rfl ?_; clear hE a; intro a hE
                          refine WL.vS hS hE (runs_plain rfl) (Gives.load1 hE rfl (fun w h => hat235 w _ h) ty3) rfl ?_; clear hE a; intro a hE
                          refine WL.vS hS hE (runs_plain rfl) (Gives.p hE rfl) rfl ?_; clear hE a; intro a hE
                          refine WL.vS hS hE (runs_plain rfl) (Gives.p hE rfl) rfl ?_; clear hE a; intro a hE
                          refine WL.nil ?_
                          refine W.seq ?_
                          obtain ⟨q237, hq236, hq214⟩ := bndS hq214
                          refine W.cut (fun a w => ∃ (q240 : Bool), q240 = q237 ∧ Rep a 127 [(1, .slice a1 x1.length c1), (8, .int .i64 q92), (14, .slice a152 q151.length c153), (17, .slice a174 q172.length c175), (19, .int .i64 x183), (20, .int .i64 ((k216 : Nat) : Int)), (21, .int .i64 x217), (76, .slice a0 x0.length c0), (77, .int .i64 ((x0).length : Int)), (78, .int .i64 ((k142 : Nat) : Int)), (85, .slice a163 x143.length c164), (86, .int .i64 ((x143).length : Int)), (87, .int .i64 ((k182 : Nat) : Int)), (95, .slice a211 x202.length c212), (96, .int .i64 ((x202).length : Int)), (97, .int .i64 ((k216 : Nat) : Int)), (107, .bool q240)] ∧ St w s169 (vecC 3 1 a174 c175 q172.length cs229 :: vecC 22 1 a152 c153 q151.length cs156 :: R)) ?_ ?_
                          · refine W.gen fun K241 hK241 => ?_
                            refine W.region ?_
                            refine WL.vS hS hE (runs_plain rfl) (Gives.p hE rfl) rfl ?_; clear hE a; intro a hE
                            refine WL.vS hS hE (runs_plain rfl) (Gives.p hE rfl) rfl ?_; clear hE a; intro a hE
                            refine WL.vS hS hE (runs_plain rfl) (Gives.p hE rfl) rfl ?_; clear hE a; intro a hE
                            rcases Bool.eq_false_or_eq_true (x183 != (-4611686018427387904)) with hg242 | hg242
                            · replace hq236 := iteT hg242 hq236
                              refine WL.vS hS hE (runs_if hE rfl rfl rfl hg242) (Gives.p hE rfl) rfl ?_; clear hE a; intro a hE
                              refine WL.vS hS hE (runs_if hE rfl rfl rfl hg242) (Gives.p hE rfl) rfl ?_; clear hE a; intro a hE
                              refine WL.vS hS hE (runs_plain rfl) (Gives.pickT hE rfl hg242 rfl) rfl ?_; clear hE a; intro a hE
                              refine WL.nil ?_
                              subst hK241
                              exact ⟨(x217 != (-4611686018427387904)), hq236, hE.pick _ ⟨rfl, rfl, rfl, rfl, rfl, rfl, rfl, rfl, rfl, rfl, rfl, rfl, rfl, rfl, rfl, rfl, rfl, trivial⟩, hS⟩
                            · replace hq236 := iteF hg242 hq236
                              refine WL.no hE (runs_not hE rfl rfl rfl (by rw [hg242]; decide)) rfl ?_; clear hE a; intro a hE
                              refine WL.no hE (runs_not hE rfl rfl rfl (by rw [hg242]; decide)) rfl ?_; clear hE a; intro a hE
                              refine WL.vS hS hE (runs_plain rfl) (Gives.pickF hE rfl hg242 rfl) rfl ?_; clear hE a; intro a hE
                              refine WL.nil ?_
                              subst hK241
                              exact ⟨false, hq236, hE.pick _ ⟨rfl, rfl, rfl, rfl, rfl, rfl, rfl, rfl, rfl, rfl, rfl, rfl, rfl, rfl, rfl, rfl, rfl, trivial⟩, hS⟩
                          · clear hE hS a w; rintro a w ⟨q240, rfl, hE, hS⟩
                            obtain ⟨q244, hq243, hq214⟩ := bindS hq214
                            refine W.cut (fun a w => ∃ (q247 : List Int), ∃ (cs251 : List Value), q247 = q244 ∧ Ev 1 (RI .i64) s169 cs251 q247 ∧ q247.length = q172.length ∧ Rep a 127 [(1, .slice a1 x1.length c1), (8, .int .i64 q92), (14, .slice a152 q151.length c153), (17, .slice a174 q172.length c175), (19, .int .i64 x183), (76, .slice a0 x0.length c0), (77, .int .i64 ((x0).length : Int)), (78, .int .i64 ((k142 : Nat) : Int)), (85, .slice a163 x143.length c164), (86, .int .i64 ((x143).length : Int)), (87, .int .i64 ((k182 : Nat) : Int)), (95, .slice a211 x202.length c212), (96, .int .i64 ((x202).length : Int)), (97, .int .i64 ((k216 : Nat) : Int))] ∧ St w s169 (vecC 3 1 a174 c175 q172.length cs251 :: vecC 22 1 a152 c153 q151.length cs156 :: R)) ?_ ?_
                            · refine W.gen fun K253 hK253 => ?_
                              refine W.cond hE rfl (fun hc254 => ?_) (fun hc254 => ?_)
                              · replace hq243 := iteT hc254 hq243
                                refine W.region ?_
                                refine WL.vS hS hE (runs_plain rfl) (Gives.p hE rfl) rfl ?_; clear hE a; intro a hE
                                refine WL.vS hS hE (runs_plain rfl) (Gives.p hE rfl) rfl ?_; clear hE a; intro a hE
                                refine WL.vS hS hE (runs_plain rfl) (Gives.p hE rfl) rfl ?_; clear hE a; intro a hE
                                refine WL.vS hS hE (runs_plain rfl) (Gives.p hE rfl) rfl ?_; clear hE a; intro a hE
                                obtain ⟨x255, hx256, hq243⟩ := bindS hq243
                                obtain ⟨hi257, hlt258, hy259⟩ := gx_some hx256
                                obtain ⟨vs260, hl261, hR262, hd263, hget264⟩ := h228.at hy259
                                subst hR262
                                refine WL.vS hS hE (runs_plain rfl) (Gives.idx hE ((((k216 : Nat) : Int)).toNat) rfl rfl sl22 hi257 (by have := hn230; omega) (hS.vecAok 0 rfl (by have := hn230; omega : (((k216 : Nat) : Int)).toNat < q172.length))) rfl ?_; clear hE a; intro a hE
                                refine WL.vS hS hE (runs_plain rfl) (Gives.load1 hE rfl (fun w h => St.vecSees h 0 rfl ((((k216 : Nat) : Int)).toNat * 1) _ hget264) ty3) rfl ?_; clear hE a; intro a hE
                                refine WL.vS hS hE (runs_plain rfl) (Gives.p hE rfl) rfl ?_; clear hE a; intro a hE
                                refine WL.vS hS hE (runs_plain rfl) (Gives.p hE rfl) rfl ?_; clear hE a; intro a hE
                                refine WL.vS hS hE (runs_plain rfl) (Gives.p hE rfl) rfl ?_; clear hE a; intro a hE
                                refine WL.vS hS hE (runs_plain rfl) (Gives.max2 hE rfl rfl) rfl ?_; clear hE a; intro a hE
                                obtain ⟨_, hx266, hq243⟩ := bindS hq243
                                obtain ⟨h267, h268⟩ := ix_some hx266
                                refine WL.vS hS hE (runs_plain rfl) (Gives.idx hE ((((k216 : Nat) : Int)).toNat) rfl rfl sl22 h267 (by have := hn230; omega) (hS.vecAok 0 rfl (by have := hn230; omega : (((k216 : Nat) : Int)).toNat < q172.length))) rfl ?_; clear hE a; intro a hE
                                obtain ⟨x270, hx271, hq243⟩ := bindS hq243
                                refine WL.setD hE hS 0 rfl (runs_plain rfl) rfl rfl (vs := [.int .i64 (mx x255 (w64 (x183 + x217)))]) rfl ty3 rfl rfl rfl h228 hn230 (sx_some hx271).1 hx271 rfl rfl ?_; clear hE hS a w; intro cs272 a w h273 hn274 hE hS
                                refine WL.nil ?_
                                subst hK253
                                exact ⟨x270, cs272, Option.some.inj hq243, h273, hn274, hE.pick _ ⟨rfl, rfl, rfl, rfl, rfl, rfl, rfl, rfl, rfl, rfl, rfl, rfl, rfl, rfl, trivial⟩, hS⟩
                              · replace hq243 := iteF hc254 hq243
                                refine W.skip ?_
                                subst hK253
                                exact ⟨q225, cs229, Option.some.inj hq243, h228, hn230, hE.pick _ ⟨rfl, rfl, rfl, rfl, rfl, rfl, rfl, rfl, rfl, rfl, rfl, rfl, rfl, rfl, trivial⟩, hS⟩
                            · clear hE hS a w; rintro a w ⟨q247, cs251, rfl, h250, hn252, hE, hS⟩
                              refine W.region ?_
                              refine WL.vS hS hE (runs_plain rfl) (Gives.inc hE rfl (by have := h213.small; omega)) rfl ?_; clear hE a; intro a hE
                              refine WL.vS hS hE (runs_plain rfl) (Gives.p hE rfl) rfl ?_; clear hE a; intro a hE
                              refine WL.nil ?_
                              subst hK231
                              exact ⟨rest218.length, Nat.lt_succ_self _, rest218, k216 + 1, q247, cs251, rfl, hd219, hq214, h250, hn252, hE.pick _ ⟨rfl, rfl, rfl, rfl, rfl, rfl, rfl, rfl, rfl, rfl, rfl, rfl, rfl, rfl, trivial⟩, hS⟩
                      · clear hE hS a w; rintro a w ⟨q225, cs229, rfl, h228, hn230, hE, hS⟩
                        refine W.region ?_
                        refine WL.vS hS hE (runs_plain rfl) (Gives.inc hE rfl (by have := h165.small; omega)) rfl ?_; clear hE a; intro a hE
                        refine WL.vS hS hE (runs_plain rfl) (Gives.p hE rfl) rfl ?_; clear hE a; intro a hE
                        refine WL.nil ?_
                        subst hK197
                        exact ⟨rest184.length, Nat.lt_succ_self _, rest184, k182 + 1, q225, cs229, rfl, hd185, hq180, h228, hn230, hE.pick _ ⟨rfl, rfl, rfl, rfl, rfl, rfl, rfl, rfl, rfl, rfl, trivial⟩, hS⟩
                  · clear hE hS a w; rintro a w ⟨q191, cs195, rfl, h194, hn196, hE, hS⟩
                    refine W.region ?_
                    refine WL.vS hS hE (runs_plain rfl) (Gives.p hE rfl) rfl ?_; clear hE a; intro a hE
                    refine WL.vS hS hE (runs_plain rfl) (Gives.p hE rfl) rfl ?_; clear hE a; intro a hE
                    have hF := hS.fixD RI.mono 0 rfl h194 hn196; clear hS; obtain ⟨s275, hle276, hS, h277⟩ := hF
                    (try rw [← hn196] at hE)
                    (try rw [← hn196] at hS)
                    replace h1 := Sl.mono (RL.mono RI.mono) hle276 h1
                    replace h0 := Sl.mono (RL.mono RI.mono) hle276 h0
                    replace h154 := Ev.mono (RL.mono RI.mono) hle276 h154
                    refine WL.lit hE hS (e := 22) (es := 1) (vs := [(0, .slice a174 q191.length c175)]) (cs := [.slice a174 q191.length c175]) (runs_plain rfl) rfl (by kernel_rfl) rfl ?_; clear hE hS a w; intro b278 a w hE hS
                    obtain ⟨x279, hx280, hq140⟩ := bindS hq140
                    refine WL.appD hE hS 0 (m := 1) (runs_plain rfl) rfl rfl rfl ap40 rfl h154 rfl (xs := [q191]) (Ev.cons (c1 := [.slice a174 q191.length c175]) ⟨_, _, rfl, h277⟩ rfl (Ev.nil)) rfl rfl hx280 rfl ?_; clear hE hS a w; intro a281 c282 cs283 a w h284 hE hS
                    refine WL.vS hS hE (runs_plain rfl) (Gives.p hE rfl) rfl ?_; clear hE a; intro a hE
                    refine WL.nil ?_
                    refine W.region ?_
                    refine WL.vS hS hE (runs_plain rfl) (Gives.inc hE rfl (by have := h0.small; omega)) rfl ?_; clear hE a; intro a hE
                    refine WL.vS hS hE (runs_plain rfl) (Gives.p hE rfl) rfl ?_; clear hE a; intro a hE
                    refine WL.nil ?_
                    subst hK158
                    exact ⟨rest144.length, Nat.lt_succ_self _, rest144, k142 + 1, x279, a281, c282, x279.length, cs283, s275, rfl, hd145, (Sg.Le.trans (Sg.Le.trans hle150 hle170) hle276), hq140, h284, (rfl), hE.pick _ ⟨rfl, rfl, rfl, rfl, rfl, rfl, trivial⟩, hS⟩
              · clear hE hS a w; rintro a w ⟨q151, a152, c153, n155, cs156, s149, hle150, rfl, h154, rfl, hE, hS⟩
                replace h0 := Sl.mono (RL.mono RI.mono) hle150 h0
                replace h1 := Sl.mono (RL.mono RI.mono) hle150 h1
                refine W.seq ?_
                refine W.region ?_
                refine WL.vS hS hE (runs_plain rfl) (Gives.p hE rfl) rfl ?_; clear hE a; intro a hE
                refine WL.vS hS hE (runs_plain rfl) (Gives.p hE rfl) rfl ?_; clear hE a; intro a hE
                refine WL.vS hS hE (runs_plain rfl) (Gives.p hE rfl) rfl ?_; clear hE a; intro a hE
                refine WL.nil ?_
                refine W.ret ?_
                refine finG (fn := Try.f30) (rs := [.tmp 4, .tmp 5]) (vs := [_, _]) hE rfl ⟨rfl, rfl, trivial⟩ ?_
                obtain rfl := Option.some.inj hr
                exact ⟨a152, c153, q151.length, cs156, s149, rfl, (Sg.Le.trans hle116 hle150), h154, rfl, hS⟩
set_option maxHeartbeats 8000000 in
theorem MendClosure_1_v1_ok  {w : World} {s : Sg} {R : List HP} {pb0 : Nat} {x0 : List Int} {a0 : Option Addr} {c0 : Nat} {y0 : List (List Int)} {a_y0_0 : Option Addr} {c_y0_0 : Nat} (hS : St w s (pt pb0 (.cells #[.slice a_y0_0 y0.length c_y0_0] 40 (0, 0)) :: R)) (_h0 : Sl 1 (RI .i64) s a0 c0 x0) (_h_y0_0 : Sl 1 (RL 1 (RI .i64)) s a_y0_0 c_y0_0 y0) {r : Bool} (hr : MendClosure_1_v1 x0 y0 = r) :
    Calls Try.prog 75 [.slice a0 x0.length c0, .pointer (some ⟨pb0, 0, none⟩)].toArray w (fun e w => e = .returned (.bool r) ∧ St w s (pt pb0 (.cells #[.slice a_y0_0 y0.length c_y0_0] 40 (0, 0)) :: R)) := by
  refine enter Try.func75 rfl rfl rfl fun a hE => ?_
  rw [MendClosure_1_v1] at hr
  refine W.seq ?_
  refine W.region ?_
  refine WL.vS hS hE (runs_plain rfl) (Gives.p hE rfl) rfl ?_; clear hE a; intro a hE
  refine WL.nil ?_
  refine W.seq ?_
  refine W.region ?_
  refine WL.vS hS hE (runs_plain rfl) (Gives.p hE rfl) rfl ?_; clear hE a; intro a hE
  refine WL.vS hS hE (runs_plain rfl) (Gives.len hE rfl sl22) rfl ?_; clear hE a; intro a hE
  refine WL.vS hS hE (runs_plain rfl) (Gives.loadB hE 0 rfl rfl rfl ty40) rfl ?_; clear hE a; intro a hE
  refine WL.vS hS hE (runs_plain rfl) (Gives.len hE rfl sl40) rfl ?_; clear hE a; intro a hE
  refine WL.vS hS hE (runs_plain rfl) (Gives.p hE rfl) rfl ?_; clear hE a; intro a hE
  refine WL.vS hS hE (runs_plain rfl) (Gives.p hE rfl) rfl ?_; clear hE a; intro a hE
  refine WL.nil ?_
  refine W.ret ?_
  refine finG (fn := Try.f75) (rs := [.tmp 3]) (vs := [_]) hE rfl ⟨rfl, trivial⟩ ?_
  subst hr
  exact ⟨rfl, hS⟩
set_option maxHeartbeats 8000000 in
theorem SlicesIndexFuncLLint_v3_ok  {w : World} {s : Sg} {R : List HP} {pb0 : Nat} {x0 : List (List Int)} {a0 : Option Addr} {c0 : Nat} {y0 : List (List Int)} {a_y0_0 : Option Addr} {c_y0_0 : Nat} (hS : St w s (pt pb0 (.cells #[.slice a_y0_0 y0.length c_y0_0] 40 (0, 0)) :: R)) (h0 : Sl 1 (RL 1 (RI .i64)) s a0 c0 x0) (h_y0_0 : Sl 1 (RL 1 (RI .i64)) s a_y0_0 c_y0_0 y0) {r : Int} (hr : SlicesIndexFuncLLint_v3 x0 y0 = r) :
    Calls Try.prog 90 [.slice a0 x0.length c0, .func (.func 75) #[] #[.pointer (some ⟨pb0, 0, none⟩)]].toArray w (fun e w => e = .returned (.int .i64 r) ∧ St w s (pt pb0 (.cells #[.slice a_y0_0 y0.length c_y0_0] 40 (0, 0)) :: R)) := by
  refine enter Try.func90 rfl rfl rfl fun a hE => ?_
  rw [SlicesIndexFuncLLint_v3] at hr
  refine W.seq ?_
  refine W.region ?_
  refine WL.vS hS hE (runs_plain rfl) (Gives.p hE rfl) rfl ?_; clear hE a; intro a hE
  refine WL.nil ?_
  refine W.seq ?_
  refine W.seq ?_
  refine W.region ?_
  refine WL.vS hS hE (runs_plain rfl) (Gives.p hE rfl) rfl ?_; clear hE a; intro a hE
  refine WL.vS hS hE (runs_plain rfl) (Gives.len hE rfl sl40) rfl ?_; clear hE a; intro a hE
  refine WL.vS hS hE (runs_plain rfl) (Gives.p hE rfl) rfl ?_; clear hE a; intro a hE
  refine WL.nil ?_
  obtain ⟨q52, hq51, hr⟩ := bndS hr
  refine W.cut (fun a w => (.next ()) = q52 ∧ Rep a 19 [] ∧ St w s (pt pb0 (.cells #[.slice a_y0_0 y0.length c_y0_0] 40 (0, 0)) :: R)) ?_ ?_
  · refine W.block ?_
    refine W.loop (fun m a w => ∃ (rest55 : List (List Int)) (k53 : Nat), rest55.length = m ∧ x0.drop k53 = rest55 ∧ SlicesIndexFuncLLint_v3.loop1 y0 rest55 k53 = q52 ∧ Rep a 19 [(0, .slice a0 x0.length c0), (1, .func (.func 75) #[] #[.pointer (some ⟨pb0, 0, none⟩)]), (7, .int .i64 ((x0).length : Int)), (8, .int .i64 ((k53 : Nat) : Int))] ∧ St w s (pt pb0 (.cells #[.slice a_y0_0 y0.length c_y0_0] 40 (0, 0)) :: R)) (m := x0.length) ⟨x0, 0, rfl, rfl, hq51, hE.pick _ ⟨rfl, rfl, rfl, rfl, trivial⟩, hS⟩ ?_
    clear hE hS a w hq51; rintro m59 a w ⟨rest55, k53, rfl, hd56, hq51, hE, hS⟩
    refine W.gen fun K62 hK62 => ?_
    rcases rest55 with _ | ⟨x54, rest55⟩
    · have hlt57 := drop_nil hd56
      refine W.seq ?_
      refine W.region ?_
      refine WL.vS hS hE (runs_plain rfl) (Gives.p hE rfl) rfl ?_; clear hE a; intro a hE
      refine WL.nil ?_
      refine W.seq ?_
      refine W.condF hE rfl (decide_eq_false (by omega)) ?_
      subst hK62
      refine W.exit rfl ?_
      exact ⟨hq51, hE.pick _ trivial, hS⟩
    · obtain ⟨hlt57, hx58, hd56⟩ := drop_cons hd56
      rw [SlicesIndexFuncLLint_v3.loop1] at hq51
      refine W.seq ?_
      refine W.region ?_
      refine WL.vS hS hE (runs_plain rfl) (Gives.p hE rfl) rfl ?_; clear hE a; intro a hE
      refine WL.nil ?_
      refine W.seq ?_
      refine W.condT hE rfl (decide_eq_true (by omega)) ?_
      refine W.skip ?_
      refine W.seq ?_
      refine W.block ?_
      refine W.seq ?_
      refine W.region ?_
      refine WL.vS hS hE (runs_plain rfl) (Gives.p hE rfl) rfl ?_; clear hE a; intro a hE
      refine WL.vS hS hE (runs_plain rfl) (Gives.p hE rfl) rfl ?_; clear hE a; intro a hE
      refine WL.nil ?_
      refine W.seq ?_
      refine W.region ?_
      refine WL.vS hS hE (runs_plain rfl) (Gives.p hE rfl) rfl ?_; clear hE a; intro a hE
      refine WL.vS hS hE (runs_plain rfl) (Gives.p hE rfl) rfl ?_; clear hE a; intro a hE
      refine WL.vS hS hE (runs_plain rfl) (Gives.p hE rfl) rfl ?_; clear hE a; intro a hE
      obtain ⟨cs63, hl64, hR65, hat66⟩ := h0.at hx58
      obtain ⟨a67, c68, rfl, h69⟩ := hR65
      refine WL.vS hS hE (runs_plain rfl) (Gives.idx hE k53 rfl rfl sl40 rfl hlt57 (h0.aok hlt57)) rfl ?_; clear hE a; intro a hE
      refine WL.vS hS hE (runs_plain rfl) (Gives.load1 hE rfl (fun w h => hat66 w _ h) ty22) rfl ?_; clear hE a; intro a hE
      refine WL.fnw hE (MendClosure_1_v1_ok hS h69 h_y0_0 rfl (r := MendClosure_1_v1 x54 y0)) rfl (runs_plain rfl) bd75 rfl rfl rfl ?_
      clear hE hS; rintro e w ⟨rfl, hS⟩; refine ⟨_, rfl, ?_⟩; clear a; intro a hE
      refine WL.nil ?_
      refine W.cond hE rfl (fun hc70 => ?_) (fun hc70 => ?_)
      · replace hq51 := iteT hc70 hq51
        refine W.seq ?_
        refine W.region ?_
        refine WL.vS hS hE (runs_plain rfl) (Gives.p hE rfl) rfl ?_; clear hE a; intro a hE
        refine WL.vS hS hE (runs_plain rfl) (Gives.p hE rfl) rfl ?_; clear hE a; intro a hE
        refine WL.nil ?_
        refine W.ret ?_
        subst hK62
        rw [← hq51] at hr
        dsimp only at hr
        refine finG (fn := Try.f90) (rs := [.tmp 4]) (vs := [_]) hE rfl ⟨rfl, trivial⟩ ?_
        subst hr
        exact ⟨rfl, hS⟩
      · replace hq51 := iteF hc70 hq51
        refine W.skip ?_
        refine W.region ?_
        refine WL.vS hS hE (runs_plain rfl) (Gives.inc hE rfl (by have := h0.small; omega)) rfl ?_; clear hE a; intro a hE
        refine WL.vS hS hE (runs_plain rfl) (Gives.p hE rfl) rfl ?_; clear hE a; intro a hE
        refine WL.nil ?_
        subst hK62
        exact ⟨rest55.length, Nat.lt_succ_self _, rest55, k53 + 1, rfl, hd56, hq51, hE.pick _ ⟨rfl, rfl, rfl, rfl, trivial⟩, hS⟩
  · clear hE hS a w; rintro a w ⟨rfl, hE, hS⟩
    dsimp only at hr
    refine W.seq ?_
    refine W.region ?_
    refine WL.vS hS hE (runs_plain rfl) (Gives.p hE rfl) rfl ?_; clear hE a; intro a hE
    refine WL.nil ?_
    refine W.ret ?_
    refine finG (fn := Try.f90) (rs := [.tmp 4]) (vs := [_]) hE rfl ⟨rfl, trivial⟩ ?_
    subst hr
    exact ⟨rfl, hS⟩
set_option maxHeartbeats 8000000 in
theorem SlicesContainsFuncLLint_v3_ok  {w : World} {s : Sg} {R : List HP} {pb0 : Nat} {x0 : List (List Int)} {a0 : Option Addr} {c0 : Nat} {y0 : List (List Int)} {a_y0_0 : Option Addr} {c_y0_0 : Nat} (hS : St w s (pt pb0 (.cells #[.slice a_y0_0 y0.length c_y0_0] 40 (0, 0)) :: R)) (h0 : Sl 1 (RL 1 (RI .i64)) s a0 c0 x0) (h_y0_0 : Sl 1 (RL 1 (RI .i64)) s a_y0_0 c_y0_0 y0) {r : Bool} (hr : SlicesContainsFuncLLint_v3 x0 y0 = r) :
    Calls Try.prog 70 [.slice a0 x0.length c0, .func (.func 75) #[] #[.pointer (some ⟨pb0, 0, none⟩)]].toArray w (fun e w => e = .returned (.bool r) ∧ St w s (pt pb0 (.cells #[.slice a_y0_0 y0.length c_y0_0] 40 (0, 0)) :: R)) := by
  refine enter Try.func70 rfl rfl rfl fun a hE => ?_
  rw [SlicesContainsFuncLLint_v3] at hr
  refine W.seq ?_
  refine W.region ?_
  refine WL.vS hS hE (runs_plain rfl) (Gives.p hE rfl) rfl ?_; clear hE a; intro a hE
  refine WL.nil ?_
  refine W.seq ?_
  refine W.region ?_
  refine WL.vS hS hE (runs_plain rfl) (Gives.p hE rfl) rfl ?_; clear hE a; intro a hE
  refine WL.vS hS hE (runs_plain rfl) (Gives.p hE rfl) rfl ?_; clear hE a; intro a hE
  refine WL.fnq hE (SlicesIndexFuncLLint_v3_ok hS h0 h_y0_0 rfl (r := SlicesIndexFuncLLint_v3 x0 y0)) (runs_plain rfl) bd90 rfl rfl rfl ?_
  clear hE hS; rintro e w ⟨rfl, hS⟩; refine ⟨_, rfl, ?_⟩; clear a; intro a hE
  refine WL.vS hS hE (runs_plain rfl) (Gives.p hE rfl) rfl ?_; clear hE a; intro a hE
  refine WL.vS hS hE (runs_plain rfl) (Gives.p hE rfl) rfl ?_; clear hE a; intro a hE
  refine WL.nil ?_
  refine W.ret ?_
  refine finG (fn := Try.f70) (rs := [.tmp 4]) (vs := [_]) hE rfl ⟨rfl, trivial⟩ ?_
  subst hr
  exact ⟨rfl, hS⟩
set_option maxHeartbeats 8000000 in
theorem SlicesCloneLint_ok  {w : World} {s : Sg} {R : List HP} {x0 : List Int} {a0 : Option Addr} {c0 : Nat} (hS : St w s (R)) (h0 : Sl 1 (RI .i64) s a0 c0 x0) {r : (List Int)} (hr : SlicesCloneLint x0 = some r) :
    Calls Try.prog 67 [.slice a0 x0.length c0].toArray w (fun e w => ∃ (a0 : Option Addr) (c0 n0 : Nat) (cs0 : List Value), e = .returned (.slice a0 n0 c0) ∧ Ev 1 (RI .i64) s cs0 r ∧ r.length = n0 ∧ St w s (vecC 3 1 a0 c0 n0 cs0 :: R)) := by
  refine enter Try.func67 rfl rfl rfl fun a hE => ?_
  rw [SlicesCloneLint] at hr
  refine W.seq ?_
  refine W.region ?_
  refine WL.vS hS hE (runs_plain rfl) (Gives.p hE rfl) rfl ?_; clear hE a; intro a hE
  refine WL.nil ?_
  refine W.seq ?_
  refine W.seq ?_
  refine W.region ?_
  refine WL.vS hS hE (runs_plain rfl) (Gives.p hE rfl) rfl ?_; clear hE a; intro a hE
  refine WL.vS hS hE (runs_plain rfl) (Gives.isNil hE rfl rfl isl22) rfl ?_; clear hE a; intro a hE
  refine WL.nil ?_
  rcases a0 with _ | g51
  · obtain rfl := h0.none_nil
    replace hr : some [] = _ := hr
    refine W.condT hE rfl rfl ?_
    refine W.seq ?_
    refine W.region ?_
    refine WL.vS hS hE (runs_plain rfl) (Gives.p hE rfl) rfl ?_; clear hE a; intro a hE
    refine WL.nil ?_
    refine W.ret ?_
    replace hS := hS.vecNil 3 1
    refine finG (fn := Try.f67) (rs := [.tmp 2]) (vs := [_]) hE rfl ⟨rfl, trivial⟩ ?_
    obtain rfl := Option.some.inj hr
    exact ⟨none, 0, 0, [], rfl, (Ev.nil), (rfl), hS⟩
  · skip
    refine W.condF hE rfl rfl ?_
    refine W.skip ?_
    refine W.seq ?_
    refine W.region ?_
    refine WL.lit hE hS (e := 3) (es := 1) (vs := []) (cs := []) (runs_plain rfl) rfl (by kernel_rfl) rfl ?_; clear hE hS a w; intro b53 a w hE hS
    replace hS := hS.ptVec (es := 1) (m := 0) rfl (by decide)
    have h55 : Ev 1 (RI .i64) s [] [] := (Ev.nil)
    refine WL.vS hS hE (runs_plain rfl) (Gives.p hE rfl) rfl ?_; clear hE a; intro a hE
    obtain ⟨x56, hx57, hr⟩ := bindS hr
    refine WL.appS hE hS 0 (runs_plain rfl) rfl rfl (xs := x0) rfl rfl ap22 RI.one h55 (rfl) h0 hx57 rfl ?_; clear hE hS a w; intro a58 c59 cs60 a w h61 hE hS
    refine WL.vS hS hE (runs_plain rfl) (Gives.p hE rfl) rfl ?_; clear hE a; intro a hE
    refine WL.nil ?_
    refine W.ret ?_
    refine finG (fn := Try.f67) (rs := [.tmp 2]) (vs := [_]) hE rfl ⟨rfl, trivial⟩ ?_
    obtain rfl := Option.some.inj hr
    exact ⟨a58, c59, x56.length, cs60, rfl, h61, (rfl), hS⟩
set_option maxHeartbeats 8000000 in
theorem MendClosure_ok  {w : World} {s : Sg} {R : List HP} {x0 : List (List Int)} {a0 : Option Addr} {c0 : Nat} (hS : St w s (R)) (h0 : Sl 1 (RL 1 (RI .i64)) s a0 c0 x0) {r : (List (List Int)) × Int} (hr : MendClosure x0 = some r) :
    Calls Try.prog 31 [.slice a0 x0.length c0].toArray w (fun e w => ∃ (a0 : Option Addr) (c0 : Nat) (t : Sg), e = .returned (.tuple #[.slice a0 r.1.length c0, .int .i64 r.2]) ∧ s.Le t ∧ Sl 1 (RL 1 (RI .i64)) t a0 c0 r.1 ∧ St w t (R)) := by
  refine enter Try.func31 rfl rfl rfl fun a hE => ?_
  rw [MendClosure] at hr
  refine W.seq ?_
  refine W.region ?_
  refine WL.box hE hS (runs_plain rfl) rfl rfl rfl ?_; clear hE hS a w; intro b51 a w hE hS
  refine WL.vS hS hE (runs_plain rfl) (Gives.p hE rfl) rfl ?_; clear hE a; intro a hE
  refine WL.vS hS hE (runs_plain rfl) (Gives.p hE rfl) rfl ?_; clear hE a; intro a hE
  refine WL.nil ?_
  refine W.seq ?_
  refine W.seq ?_
  refine W.region ?_
  refine WL.vS hS hE (runs_plain rfl) (Gives.loadB hE 0 rfl rfl rfl ty40) rfl ?_; clear hE a; intro a hE
  refine WL.vS hS hE (runs_plain rfl) (Gives.len hE rfl sl40) rfl ?_; clear hE a; intro a hE
  refine WL.vS hS hE (runs_plain rfl) (Gives.p hE rfl) rfl ?_; clear hE a; intro a hE
  refine WL.nil ?_
  refine W.cond hE rfl (fun hc52 => ?_) (fun hc52 => ?_)
  · replace hr := iteT hc52 hr
    refine W.seq ?_
    refine W.region ?_
    refine WL.vS hS hE (runs_plain rfl) (Gives.p hE rfl) rfl ?_; clear hE a; intro a hE
    refine WL.vS hS hE (runs_plain rfl) (Gives.p hE rfl) rfl ?_; clear hE a; intro a hE
    refine WL.nil ?_
    refine W.ret ?_
    refine finG (fn := Try.f31) (rs := [.tmp 2, .tmp 3]) (vs := [_, _]) hE rfl ⟨rfl, rfl, trivial⟩ ?_
    obtain rfl := Option.some.inj hr
    replace hS := hS.tail
    exact ⟨none, 0, s, rfl, (Sg.Le.refl _), Sl.nil, hS⟩
  · replace hr := iteF hc52 hr
    refine W.skip ?_
    refine W.seq ?_
    refine W.seq ?_
    refine W.region ?_
    refine WL.vS hS hE (runs_plain rfl) (Gives.loadB hE 0 rfl rfl rfl ty40) rfl ?_; clear hE a; intro a hE
    refine WL.vS hS hE (runs_plain rfl) (Gives.mkfn hE (vs := [.pointer (some ⟨b51, 0, none⟩)]) rfl) rfl ?_; clear hE a; intro a hE
    refine WL.fnq hE (SlicesContainsFuncLLint_v3_ok hS h0 h0 rfl (r := SlicesContainsFuncLLint_v3 x0 x0)) (runs_plain rfl) bd70 rfl rfl rfl ?_
    clear hE hS; rintro e w ⟨rfl, hS⟩; refine ⟨_, rfl, ?_⟩; clear a; intro a hE
    refine WL.nil ?_
    refine W.cond hE rfl (fun hc53 => ?_) (fun hc53 => ?_)
    · replace hr := iteT hc53 hr
      refine W.seq ?_
      refine W.region ?_
      refine WL.vS hS hE (runs_plain rfl) (Gives.p hE rfl) rfl ?_; clear hE a; intro a hE
      refine WL.vS hS hE (runs_plain rfl) (Gives.p hE rfl) rfl ?_; clear hE a; intro a hE
      refine WL.nil ?_
      refine W.ret ?_
      refine finG (fn := Try.f31) (rs := [.tmp 2, .tmp 3]) (vs := [_, _]) hE rfl ⟨rfl, rfl, trivial⟩ ?_
      obtain rfl := Option.some.inj hr
      replace hS := hS.tail
      exact ⟨none, 0, s, rfl, (Sg.Le.refl _), Sl.nil, hS⟩
    · replace hr := iteF hc53 hr
      refine W.skip ?_
      refine W.seq ?_
      refine W.seq ?_
      refine W.region ?_
      refine WL.vS hS hE (runs_plain rfl) (Gives.loadB hE 0 rfl rfl rfl ty40) rfl ?_; clear hE a; intro a hE
      refine WL.fnq hE (MendcheckTable_ok hS h0 rfl (r := MendcheckTable x0)) (runs_plain rfl) bd73 rfl rfl rfl ?_
      clear hE hS; rintro e w ⟨rfl, hS⟩; refine ⟨_, rfl, ?_⟩; clear a; intro a hE
      refine WL.vS hS hE (runs_plain rfl) (Gives.p hE rfl) rfl ?_; clear hE a; intro a hE
      refine WL.nil ?_
      refine W.seq ?_
      refine W.region ?_
      refine WL.vS hS hE (runs_plain rfl) (Gives.p hE rfl) rfl ?_; clear hE a; intro a hE
      refine WL.vS hS hE (runs_plain rfl) (Gives.p hE rfl) rfl ?_; clear hE a; intro a hE
      refine WL.nil ?_
      refine W.cond hE rfl (fun hc54 => ?_) (fun hc54 => ?_)
      · replace hr := iteT hc54 hr
        refine W.seq ?_
        refine W.region ?_
        refine WL.vS hS hE (runs_plain rfl) (Gives.p hE rfl) rfl ?_; clear hE a; intro a hE
        refine WL.vS hS hE (runs_plain rfl) (Gives.p hE rfl) rfl ?_; clear hE a; intro a hE
        refine WL.vS hS hE (runs_plain rfl) (Gives.p hE rfl) rfl ?_; clear hE a; intro a hE
        refine WL.nil ?_
        refine W.ret ?_
        refine finG (fn := Try.f31) (rs := [.tmp 2, .tmp 3]) (vs := [_, _]) hE rfl ⟨rfl, rfl, trivial⟩ ?_
        obtain rfl := Option.some.inj hr
        replace hS := hS.tail
        exact ⟨none, 0, s, rfl, (Sg.Le.refl _), Sl.nil, hS⟩
      · replace hr := iteF hc54 hr
        refine W.skip ?_
        refine W.seq ?_
        refine W.region ?_
        refine WL.vS hS hE (runs_plain rfl) (Gives.loadB hE 0 rfl rfl rfl ty40) rfl ?_; clear hE a; intro a hE
        refine WL.vS hS hE (runs_plain rfl) (Gives.len hE rfl sl40) rfl ?_; clear hE a; intro a hE
        obtain ⟨x55, hx56, hr⟩ := bindS hr
        refine WL.mkND (Rr := RI .i64) (Ti := 3) (es := 1) hE hS (runs_plain rfl) rfl rfl ap40 zr22 hx56 rfl ?_; clear hE hS a w; intro b57 ds58 a w h59 hE hS
        refine WL.vS hS hE (runs_plain rfl) (Gives.p hE rfl) rfl ?_; clear hE a; intro a hE
        refine WL.nil ?_
        refine W.seq ?_
        refine W.seq ?_
        refine W.region ?_
        refine WL.vS hS hE (runs_plain rfl) (Gives.loadB hE 1 rfl rfl rfl ty40) rfl ?_; clear hE a; intro a hE
        refine WL.vS hS hE (runs_plain rfl) (Gives.len hE rfl sl40) rfl ?_; clear hE a; intro a hE
        refine WL.vS hS hE (runs_plain rfl) (Gives.p hE rfl) rfl ?_; clear hE a; intro a hE
        refine WL.nil ?_
        obtain ⟨q62, hq61, hr⟩ := bindS hr
        refine W.cut (fun a w => ∃ (q72 : List (List Int)), ∃ (ds76 : List In), q72 = q62 ∧ NEv 1 (RI .i64) s ds76 q72 ∧ q72.length = x55.length ∧ Rep a 125 [(5, .slice (some ⟨b57, 0, none⟩) x55.length x55.length)] ∧ St w s (nestC 22 3 1 (some ⟨b57, 0, none⟩) x55.length x55.length ds76 :: pt b51 (.cells #[.slice a0 x0.length c0] 40 (0, 0)) :: R)) ?_ ?_
        · refine W.block ?_
          refine W.loop (fun m a w => ∃ (rest65 : List (List Int)) (k63 : Nat), ∃ (q72 : List (List Int)), ∃ (ds76 : List In), rest65.length = m ∧ x0.drop k63 = rest65 ∧ MendClosure.loop1 rest65 k63 q72 = some q62 ∧ NEv 1 (RI .i64) s ds76 q72 ∧ q72.length = x55.length ∧ Rep a 125 [(5, .slice (some ⟨b57, 0, none⟩) x55.length x55.length), (26, .slice a0 x0.length c0), (27, .int .i64 ((x0).length : Int)), (28, .int .i64 ((k63 : Nat) : Int))] ∧ St w s (nestC 22 3 1 (some ⟨b57, 0, none⟩) x55.length x55.length ds76 :: pt b51 (.cells #[.slice a0 x0.length c0] 40 (0, 0)) :: R)) (m := x0.length) ⟨x0, 0, x55, ds58, rfl, rfl, hq61, h59, (rfl), hE.pick _ ⟨rfl, rfl, rfl, rfl, trivial⟩, hS⟩ ?_
          clear hE hS a w hq61; rintro m69 a w ⟨rest65, k63, q72, ds76, rfl, hd66, hq61, h77, hn78, hE, hS⟩
          refine W.gen fun K79 hK79 => ?_
          rcases rest65 with _ | ⟨x64, rest65⟩
          · have hlt67 := drop_nil hd66
            refine W.seq ?_
            refine W.region ?_
            refine WL.vS hS hE (runs_plain rfl) (Gives.p hE rfl) rfl ?_; clear hE a; intro a hE
            refine WL.nil ?_
            refine W.seq ?_
            refine W.condF hE rfl (decide_eq_false (by omega)) ?_
            subst hK79
            refine W.exit rfl ?_
            exact ⟨q72, ds76, Option.some.inj hq61, h77, hn78, hE.pick _ ⟨rfl, trivial⟩, hS⟩
          · obtain ⟨hlt67, hx68, hd66⟩ := drop_cons hd66
            rw [MendClosure.loop1] at hq61
            refine W.seq ?_
            refine W.region ?_
            refine WL.vS hS hE (runs_plain rfl) (Gives.p hE rfl) rfl ?_; clear hE a; intro a hE
            refine WL.nil ?_
            refine W.seq ?_
            refine W.condT hE rfl (decide_eq_true (by omega)) ?_
            refine W.skip ?_
            refine W.seq ?_
            refine W.block ?_
            refine W.seq ?_
            refine W.region ?_
            refine WL.vS hS hE (runs_plain rfl) (Gives.p hE rfl) rfl ?_; clear hE a; intro a hE
            obtain ⟨cs80, hl81, hR82, hat83⟩ := h0.at hx68
            obtain ⟨a84, c85, rfl, h86⟩ := hR82
            refine WL.vS hS hE (runs_plain rfl) (Gives.idx hE k63 rfl rfl sl40 rfl hlt67 (h0.aok hlt67)) rfl ?_; clear hE a; intro a hE
            refine WL.vS hS hE (runs_plain rfl) (Gives.load1 hE rfl (fun w h => hat83 w _ h) ty22) rfl ?_; clear hE a; intro a hE
            refine WL.vS hS hE (runs_plain rfl) (Gives.p hE rfl) rfl ?_; clear hE a; intro a hE
            refine WL.vS hS hE (runs_plain rfl) (Gives.p hE rfl) rfl ?_; clear hE a; intro a hE
            refine WL.nil ?_
            refine W.region ?_
            refine WL.vS hS hE (runs_plain rfl) (Gives.p hE rfl) rfl ?_; clear hE a; intro a hE
            refine WL.vS hS hE (runs_plain rfl) (Gives.p hE rfl) rfl ?_; clear hE a; intro a hE
            refine WL.vS hS hE (runs_plain rfl) (Gives.p hE rfl) rfl ?_; clear hE a; intro a hE
            obtain ⟨q87, hq88, hq61⟩ := bindS hq61
            have hc_ := SlicesCloneLint_ok hS h86 hq88
            refine WL.fnq hE (hc_) (runs_plain rfl) bd67 rfl rfl rfl ?_
            clear hE hS hc_; rintro e w ⟨a89, c90, n91, cs92, rfl, h93, rfl, hS⟩; refine ⟨_, rfl, ?_⟩; clear a; intro a hE
            obtain ⟨_, hx95, hq61⟩ := bindS hq61
            obtain ⟨h96, h97⟩ := ix_some hx95
            refine WL.vS hS hE (runs_plain rfl) (Gives.idx hE ((((k63 : Nat) : Int)).toNat) rfl rfl sl40 h96 (by have := hn78; omega) (hS.nAok 1 rfl (by have := hn78; omega : (((k63 : Nat) : Int)).toNat < x55.length))) rfl ?_; clear hE a; intro a hE
            obtain ⟨d98, hd99⟩ : ∃ d, ds76[(((k63 : Nat) : Int)).toNat]? = some d := ⟨_, List.getElem?_eq_getElem (by have h1 := h77.len; have h2 := hn78; omega)⟩
            replace hS := (hS.borrow 1 rfl hd99).tail
            obtain ⟨x100, hx101, hq61⟩ := bindS hq61
            refine WL.storeND hE hS 0 rfl (runs_plain rfl) rfl rfl ty22 h77 hn78 (by have := (sx_some hx101).1; omega) hx101 h93 rfl rfl ?_; clear hE hS a w; intro ds102 a w h103 hn104 hE hS
            refine WL.nil ?_
            refine W.region ?_
            refine WL.vS hS hE (runs_plain rfl) (Gives.inc hE rfl (by have := h0.small; omega)) rfl ?_; clear hE a; intro a hE
            refine WL.vS hS hE (runs_plain rfl) (Gives.p hE rfl) rfl ?_; clear hE a; intro a hE
            refine WL.nil ?_
            subst hK79
            exact ⟨rest65.length, Nat.lt_succ_self _, rest65, k63 + 1, x100, ds102, rfl, hd66, hq61, h103, hn104, hE.pick _ ⟨rfl, rfl, rfl, rfl, trivial⟩, hS⟩
        · clear hE hS a w; rintro a w ⟨q72, ds76, rfl, h77, hn78, hE, hS⟩
          refine W.seq ?_
          refine W.seq ?_
          refine W.region ?_
          refine WL.vS hS hE (runs_plain rfl) (Gives.p hE rfl) rfl ?_; clear hE a; intro a hE
          refine WL.vS hS hE (runs_plain rfl) (Gives.len hE rfl sl40) rfl ?_; clear hE a; intro a hE
          refine WL.vS hS hE (runs_plain rfl) (Gives.p hE rfl) rfl ?_; clear hE a; intro a hE
          refine WL.nil ?_
          have hb116 : x55.length ≤ 9223372036854775807 := by have := hS.nCap 0 rfl; unfold maxLen at this; omega
          obtain ⟨q106, hq105, hr⟩ := bindS hr
          refine W.cut (fun a w => ∃ (q117 : List (List Int)), ∃ (ds121 : List In), q117 = q106 ∧ NEv 1 (RI .i64) s ds121 q117 ∧ q117.length = x55.length ∧ Rep a 125 [(5, .slice (some ⟨b57, 0, none⟩) x55.length x55.length)] ∧ St w s (nestC 22 3 1 (some ⟨b57, 0, none⟩) x55.length x55.length ds121 :: pt b51 (.cells #[.slice a0 x0.length c0] 40 (0, 0)) :: R)) ?_ ?_
          · refine W.block ?_
            refine W.loop (fun m a w => ∃ (rest109 : Nat) (k107 : Nat), ∃ (q117 : List (List Int)), ∃ (ds121 : List In), rest109 = m ∧ k107 + rest109 = x55.length ∧ MendClosure.loop2 x55 rest109 k107 q117 = some q106 ∧ NEv 1 (RI .i64) s ds121 q117 ∧ q117.length = x55.length ∧ Rep a 125 [(5, .slice (some ⟨b57, 0, none⟩) x55.length x55.length), (40, .int .i64 ((x55.length : Nat) : Int)), (41, .int .i64 ((k107 : Nat) : Int))] ∧ St w s (nestC 22 3 1 (some ⟨b57, 0, none⟩) x55.length x55.length ds121 :: pt b51 (.cells #[.slice a0 x0.length c0] 40 (0, 0)) :: R)) (m := x55.length) ⟨x55.length, 0, q72, ds76, rfl, by omega, hq105, h77, hn78, hE.pick _ ⟨rfl, rfl, rfl, trivial⟩, hS⟩ ?_
            clear hE hS a w hq105; rintro m113 a w ⟨rest109, k107, q117, ds121, rfl, hd110, hq105, h122, hn123, hE, hS⟩
            refine W.gen fun K124 hK124 => ?_
            rcases rest109 with _ | rest109
            · skip
              refine W.seq ?_
              refine W.region ?_
              refine WL.vS hS hE (runs_plain rfl) (Gives.p hE rfl) rfl ?_; clear hE a; intro a hE
              refine WL.nil ?_
              refine W.seq ?_
              refine W.condF hE rfl (decide_eq_false (by omega)) ?_
              subst hK124
              refine W.exit rfl ?_
              exact ⟨q117, ds121, Option.some.inj hq105, h122, hn123, hE.pick _ ⟨rfl, trivial⟩, hS⟩
            · have hlt111 : k107 < x55.length := by omega
              rw [MendClosure.loop2] at hq105
              refine W.seq ?_
              refine W.region ?_
              refine WL.vS hS hE (runs_plain rfl) (Gives.p hE rfl) rfl ?_; clear hE a; intro a hE
              refine WL.nil ?_
              refine W.seq ?_
              refine W.condT hE rfl (decide_eq_true (by omega)) ?_
              refine W.skip ?_
              refine W.seq ?_
              refine W.block ?_
              refine W.seq ?_
              refine W.region ?_
              refine WL.vS hS hE (runs_plain rfl) (Gives.p hE rfl) rfl ?_; clear hE a; intro a hE
              refine WL.vS hS hE (runs_plain rfl) (Gives.p hE rfl) rfl ?_; clear hE a; intro a hE
              refine WL.nil ?_
              refine W.seq ?_
              refine W.region ?_
              refine WL.vS hS hE (runs_plain rfl) (Gives.p hE rfl) rfl ?_; clear hE a; intro a hE
              refine WL.vS hS hE (runs_plain rfl) (Gives.len hE rfl sl40) rfl ?_; clear hE a; intro a hE
              refine WL.vS hS hE (runs_plain rfl) (Gives.p hE rfl) rfl ?_; clear hE a; intro a hE
              refine WL.nil ?_
              have hb136 : x55.length ≤ 9223372036854775807 := by have := hS.nCap 0 rfl; unfold maxLen at this; omega
              obtain ⟨q126, hq125, hq105⟩ := bindS hq105
              refine W.cut (fun a w => ∃ (q137 : List (List Int)), ∃ (ds141 : List In), q137 = q126 ∧ NEv 1 (RI .i64) s ds141 q137 ∧ q137.length = x55.length ∧ Rep a 125 [(5, .slice (some ⟨b57, 0, none⟩) x55.length x55.length), (40, .int .i64 ((x55.length : Nat) : Int)), (41, .int .i64 ((k107 : Nat) : Int))] ∧ St w s (nestC 22 3 1 (some ⟨b57, 0, none⟩) x55.length x55.length ds141 :: pt b51 (.cells #[.slice a0 x0.length c0] 40 (0, 0)) :: R)) ?_ ?_
              · refine W.block ?_
                refine W.loop (fun m a w => ∃ (rest129 : Nat) (k127 : Nat), ∃ (q137 : List (List Int)), ∃ (ds141 : List In), rest129 = m ∧ k127 + rest129 = x55.length ∧ MendClosure.loop3 x55 k107 rest129 k127 q137 = some q126 ∧ NEv 1 (RI .i64) s ds141 q137 ∧ q137.length = x55.length ∧ Rep a 125 [(5, .slice (some ⟨b57, 0, none⟩) x55.length x55.length), (8, .int .i64 ((k107 : Nat) : Int)), (40, .int .i64 ((x55.length : Nat) : Int)), (41, .int .i64 ((k107 : Nat) : Int)), (45, .int .i64 ((x55.length : Nat) : Int)), (46, .int .i64 ((k127 : Nat) : Int))] ∧ St w s (nestC 22 3 1 (some ⟨b57, 0, none⟩) x55.length x55.length ds141 :: pt b51 (.cells #[.slice a0 x0.length c0] 40 (0, 0)) :: R)) (m := x55.length) ⟨x55.length, 0, q117, ds121, rfl, by omega, hq125, h122, hn123, hE.pick _ ⟨rfl, rfl, rfl, rfl, rfl, rfl, trivial⟩, hS⟩ ?_
                clear hE hS a w hq125; rintro m133 a w ⟨rest129, k127, q137, ds141, rfl, hd130, hq125, h142, hn143, hE, hS⟩
                refine W.gen fun K144 hK144 => ?_
                rcases rest129 with _ | rest129
                · skip
                  refine W.seq ?_
                  refine W.region ?_
                  refine WL.vS hS hE (runs_plain rfl) (Gives.p hE rfl) rfl ?_; clear hE a; intro a hE
                  refine WL.nil ?_
                  refine W.seq ?_
                  refine W.condF hE rfl (decide_eq_false (by omega)) ?_
                  subst hK144
                  refine W.exit rfl ?_
                  exact ⟨q137, ds141, Option.some.inj hq125, h142, hn143, hE.pick _ ⟨rfl, rfl, rfl, trivial⟩, hS⟩
                · have hlt131 : k127 < x55.length := by omega
                  rw [MendClosure.loop3] at hq125
                  refine W.seq ?_
                  refine W.region ?_
                  refine WL.vS hS hE (runs_plain rfl) (Gives.p hE rfl) rfl ?_; clear hE a; intro a hE
                  refine WL.nil ?_
                  refine W.seq ?_
                  refine W.condT hE rfl (decide_eq_true (by omega)) ?_
                  refine W.skip ?_
                  refine W.seq ?_
                  refine W.block ?_
                  refine W.seq ?_
                  refine W.region ?_
                  refine WL.vS hS hE (runs_plain rfl) (Gives.p hE rfl) rfl ?_; clear hE a; intro a hE
                  refine WL.vS hS hE (runs_plain rfl) (Gives.p hE rfl) rfl ?_; clear hE a; intro a hE
                  refine WL.nil ?_
                  refine W.seq ?_
                  refine W.region ?_
                  refine WL.vS hS hE (runs_plain rfl) (Gives.p hE rfl) rfl ?_; clear hE a; intro a hE
                  refine WL.vS hS hE (runs_plain rfl) (Gives.len hE rfl sl40) rfl ?_; clear hE a; intro a hE
                  refine WL.vS hS hE (runs_plain rfl) (Gives.p hE rfl) rfl ?_; clear hE a; intro a hE
                  refine WL.nil ?_
                  have hb156 : x55.length ≤ 9223372036854775807 := by have := hS.nCap 0 rfl; unfold maxLen at this; omega
                  obtain ⟨q146, hq145, hq125⟩ := bindS hq125
                  refine W.cut (fun a w => ∃ (q157 : List (List Int)), ∃ (ds161 : List In), q157 = q146 ∧ NEv 1 (RI .i64) s ds161 q157 ∧ q157.length = x55.length ∧ Rep a 125 [(5, .slice (some ⟨b57, 0, none⟩) x55.length x55.length), (8, .int .i64 ((k107 : Nat) : Int)), (40, .int .i64 ((x55.length : Nat) : Int)), (41, .int .i64 ((k107 : Nat) : Int)), (45, .int .i64 ((x55.length : Nat) : Int)), (46, .int .i64 ((k127 : Nat) : Int))] ∧ St w s (nestC 22 3 1 (some ⟨b57, 0, none⟩) x55.length x55.length ds161 :: pt b51 (.cells #[.slice a0 x0.length c0] 40 (0, 0)) :: R)) ?_ ?_
                  · refine W.block ?_
                    refine W.loop (fun m a w => ∃ (rest149 : Nat) (k147 : Nat), ∃ (q157 : List (List Int)), ∃ (ds161 : List In), rest149 = m ∧ k147 + rest149 = x55.length ∧ MendClosure.loop4 k107 k127 rest149 k147 q157 = some q146 ∧ NEv 1 (RI .i64) s ds161 q157 ∧ q157.length = x55.length ∧ Rep a 125 [(5, .slice (some ⟨b57, 0, none⟩) x55.length x55.length), (8, .int .i64 ((k107 : Nat) : Int)), (9, .int .i64 ((k127 : Nat) : Int)), (40, .int .i64 ((x55.length : Nat) : Int)), (41, .int .i64 ((k107 : Nat) : Int)), (45, .int .i64 ((x55.length : Nat) : Int)), (46, .int .i64 ((k127 : Nat) : Int)), (50, .int .i64 ((x55.length : Nat) : Int)), (51, .int .i64 ((k147 : Nat) : Int))] ∧ St w s (nestC 22 3 1 (some ⟨b57, 0, none⟩) x55.length x55.length ds161 :: pt b51 (.cells #[.slice a0 x0.length c0] 40 (0, 0)) :: R)) (m := x55.length) ⟨x55.length, 0, q137, ds141, rfl, by omega, hq145, h142, hn143, hE.pick _ ⟨rfl, rfl, rfl, rfl, rfl, rfl, rfl, rfl, rfl, trivial⟩, hS⟩ ?_
                    clear hE hS a w hq145; rintro m153 a w ⟨rest149, k147, q157, ds161, rfl, hd150, hq145, h162, hn163, hE, hS⟩
                    refine W.gen fun K164 hK164 => ?_
                    rcases rest149 with _ | rest149
                    · skip
                      refine W.seq ?_
                      refine W.region ?_
                      refine WL.vS hS hE (runs_plain rfl) (Gives.p hE rfl) rfl ?_; clear hE a; intro a hE
                      refine WL.nil ?_
                      refine W.seq ?_
                      refine W.condF hE rfl (decide_eq_false (by omega)) ?_
                      subst hK164
                      refine W.exit rfl ?_
                      exact ⟨q157, ds161, Option.some.inj hq145, h162, hn163, hE.pick _ ⟨rfl, rfl, rfl, rfl, rfl, rfl, trivial⟩, hS⟩
                    · have hlt151 : k147 < x55.length := by omega
                      rw [MendClosure.loop4] at hq145
                      refine W.seq ?_
                      refine W.region ?_
                      refine WL.vS hS hE (runs_plain rfl) (Gives.p hE rfl) rfl ?_; clear hE a; intro a hE
                      refine WL.nil ?_
                      refine W.seq ?_
                      refine W.condT hE rfl (decide_eq_true (by omega)) ?_
                      refine W.skip ?_
                      refine W.seq ?_
                      refine W.block ?_
                      refine W.seq ?_
                      refine W.region ?_
                      refine WL.vS hS hE (runs_plain rfl) (Gives.p hE rfl) rfl ?_; clear hE a; intro a hE
                      refine WL.vS hS hE (runs_plain rfl) (Gives.p hE rfl) rfl ?_; clear hE a; intro a hE
                      refine WL.nil ?_
                      refine W.seq ?_
                      obtain ⟨q166, hq165, hq145⟩ := bindS hq145
                      refine W.cut (fun a w => ∃ (q169 : Bool), q169 = q166 ∧ Rep a 125 [(5, .slice (some ⟨b57, 0, none⟩) x55.length x55.length), (8, .int .i64 ((k107 : Nat) : Int)), (9, .int .i64 ((k127 : Nat) : Int)), (10, .int .i64 ((k147 : Nat) : Int)), (40, .int .i64 ((x55.length : Nat) : Int)), (41, .int .i64 ((k107 : Nat) : Int)), (45, .int .i64 ((x55.length : Nat) : Int)), (46, .int .i64 ((k127 : Nat) : Int)), (50, .int .i64 ((x55.length : Nat) : Int)), (51, .int .i64 ((k147 : Nat) : Int)), (71, .bool q169)] ∧ St w s (nestC 22 3 1 (some ⟨b57, 0, none⟩) x55.length x55.length ds161 :: pt b51 (.cells #[.slice a0 x0.length c0] 40 (0, 0)) :: R)) ?_ ?_
                      · refine W.gen fun K170 hK170 => ?_
                        refine W.region ?_
                        refine WL.vS hS hE (runs_plain rfl) (Gives.p hE rfl) rfl ?_; clear hE a; intro a hE
                        refine WL.vS hS hE (runs_plain rfl) (Gives.p hE rfl) rfl ?_; clear hE a; intro a hE
                        obtain ⟨x171, hx172, hq165⟩ := bindS hq165
                        obtain ⟨hi173, hlt174, hy175⟩ := gx_some hx172
                        obtain ⟨a176, c177, cs178, hd179, hev180⟩ := h162.at hy175
                        refine WL.vS hS hE (runs_plain rfl) (Gives.idx hE ((((k127 : Nat) : Int)).toNat) rfl rfl sl40 hi173 (by have := hn163; omega) (hS.nAok 0 rfl (by have := hn163; omega : (((k127 : Nat) : Int)).toNat < x55.length))) rfl ?_; clear hE a; intro a hE
                        refine WL.vS hS hE (runs_plain rfl) (Gives.load1 (v := .slice a176 x171.length c177) hE rfl (fun w h => St.nSees h 0 rfl hd179) ty22) rfl ?_; clear hE a; intro a hE
                        refine WL.vS hS hE (runs_plain rfl) (Gives.p hE rfl) rfl ?_; clear hE a; intro a hE
                        obtain ⟨x181, hx182, hq165⟩ := bindS hq165
                        obtain ⟨hi183, hlt184, hy185⟩ := gx_some hx182
                        obtain ⟨vs186, hl187, hR188, hd189, hget190⟩ := hev180.at hy185
                        subst hR188
                        refine WL.vS hS hE (runs_plain rfl) (Gives.idx hE ((((k107 : Nat) : Int)).toNat) rfl rfl sl22 hi183 hlt184 (hS.nnAok 0 rfl hd179 hlt184)) rfl ?_; clear hE a; intro a hE
                        refine WL.vS hS hE (runs_plain rfl) (Gives.load1 hE rfl (fun w h => St.nnSees h 0 rfl hd179 ((((k107 : Nat) : Int)).toNat * 1) _ hget190) ty3) rfl ?_; clear hE a; intro a hE
                        refine WL.vS hS hE (runs_plain rfl) (Gives.p hE rfl) rfl ?_; clear hE a; intro a hE
                        refine WL.vS hS hE (runs_plain rfl) (Gives.p hE rfl) rfl ?_; clear hE a; intro a hE
                        rcases Bool.eq_false_or_eq_true (x181 != (-4611686018427387904)) with hg191 | hg191
                        · replace hq165 := iteT hg191 hq165
                          refine WL.vS hS hE (runs_if hE rfl rfl rfl hg191) (Gives.p hE rfl) rfl ?_; clear hE a; intro a hE
                          refine WL.vS hS hE (runs_if hE rfl rfl rfl hg191) (Gives.p hE rfl) rfl ?_; clear hE a; intro a hE
                          obtain ⟨x192, hx193, hq165⟩ := bindS hq165
                          obtain ⟨hi194, hlt195, hy196⟩ := gx_some hx193
                          obtain ⟨a197, c198, cs199, hd200, hev201⟩ := h162.at hy196
                          refine WL.vS hS hE (runs_if hE rfl rfl rfl hg191) (Gives.idx hE ((((k107 : Nat) : Int)).toNat) rfl rfl sl40 hi194 (by have := hn163; omega) (hS.nAok 0 rfl (by have := hn163; omega : (((k107 : Nat) : Int)).toNat < x55.length))) rfl ?_; clear hE a; intro a hE
                          refine WL.vS hS hE (runs_if hE rfl rfl rfl hg191) (Gives.load1 (v := .slice a197 x192.length c198) hE rfl (fun w h => St.nSees h 0 rfl hd200) ty22) rfl ?_; clear hE a; intro a hE
                          refine WL.vS hS hE (runs_if hE rfl rfl rfl hg191) (Gives.p hE rfl) rfl ?_; clear hE a; intro a hE
                          obtain ⟨x202, hx203, hq165⟩ := bindS hq165
                          obtain ⟨hi204, hlt205, hy206⟩ := gx_some hx203
                          obtain ⟨vs207, hl208, hR209, hd210, hget211⟩ := hev201.at hy206
                          subst hR209
                          refine WL.vS hS hE (runs_if hE rfl rfl rfl hg191) (Gives.idx hE ((((k147 : Nat) : Int)).toNat) rfl rfl sl22 hi204 hlt205 (hS.nnAok 0 rfl hd200 hlt205)) rfl ?_; clear hE a; intro a hE
                          refine WL.vS hS hE (runs_if hE rfl rfl rfl hg191) (Gives.load1 hE rfl (fun w h => St.nnSees h 0 rfl hd200 ((((k147 : Nat) : Int)).toNat * 1) _ hget211) ty3) rfl ?_; clear hE a; intro a hE
                          refine WL.vS hS hE (runs_if hE rfl rfl rfl hg191) (Gives.p hE rfl) rfl ?_; clear hE a; intro a hE
                          refine WL.vS hS hE (runs_plain rfl) (Gives.pickT hE rfl hg191 rfl) rfl ?_; clear hE a; intro a hE
                          refine WL.nil ?_
                          subst hK170
                          exact ⟨(x202 != (-4611686018427387904)), Option.some.inj hq165, hE.pick _ ⟨rfl, rfl, rfl, rfl, rfl, rfl, rfl, rfl, rfl, rfl, rfl, trivial⟩, hS⟩
                        · replace hq165 := iteF hg191 hq165
                          refine WL.no hE (runs_not hE rfl rfl rfl (by rw [hg191]; decide)) rfl ?_; clear hE a; intro a hE
                          refine WL.no hE (runs_not hE rfl rfl rfl (by rw [hg191]; decide)) rfl ?_; clear hE a; intro a hE
                          refine WL.no hE (runs_not hE rfl rfl rfl (by rw [hg191]; decide)) rfl ?_; clear hE a; intro a hE
                          refine WL.no hE (runs_not hE rfl rfl rfl (by rw [hg191]; decide)) rfl ?_; clear hE a; intro a hE
                          refine WL.no hE (runs_not hE rfl rfl rfl (by rw [hg191]; decide)) rfl ?_; clear hE a; intro a hE
                          refine WL.no hE (runs_not hE rfl rfl rfl (by rw [hg191]; decide)) rfl ?_; clear hE a; intro a hE
                          refine WL.no hE (runs_not hE rfl rfl rfl (by rw [hg191]; decide)) rfl ?_; clear hE a; intro a hE
                          refine WL.no hE (runs_not hE rfl rfl rfl (by rw [hg191]; decide)) rfl ?_; clear hE a; intro a hE
                          refine WL.vS hS hE (runs_plain rfl) (Gives.pickF hE rfl hg191 rfl) rfl ?_; clear hE a; intro a hE
                          refine WL.nil ?_
                          subst hK170
                          exact ⟨false, Option.some.inj hq165, hE.pick _ ⟨rfl, rfl, rfl, rfl, rfl, rfl, rfl, rfl, rfl, rfl, rfl, trivial⟩, hS⟩
                      · clear hE hS a w; rintro a w ⟨q169, rfl, hE, hS⟩
                        obtain ⟨q213, hq212, hq145⟩ := bindS hq145
                        refine W.cut (fun a w => ∃ (q216 : List (List Int)), ∃ (ds220 : List In), q216 = q213 ∧ NEv 1 (RI .i64) s ds220 q216 ∧ q216.length = x55.length ∧ Rep a 125 [(5, .slice (some ⟨b57, 0, none⟩) x55.length x55.length), (8, .int .i64 ((k107 : Nat) : Int)), (9, .int .i64 ((k127 : Nat) : Int)), (40, .int .i64 ((x55.length : Nat) : Int)), (41, .int .i64 ((k107 : Nat) : Int)), (45, .int .i64 ((x55.length : Nat) : Int)), (46, .int .i64 ((k127 : Nat) : Int)), (50, .int .i64 ((x55.length : Nat) : Int)), (51, .int .i64 ((k147 : Nat) : Int))] ∧ St w s (nestC 22 3 1 (some ⟨b57, 0, none⟩) x55.length x55.length ds220 :: pt b51 (.cells #[.slice a0 x0.length c0] 40 (0, 0)) :: R)) ?_ ?_
                        · refine W.gen fun K223 hK223 => ?_
                          refine W.cond hE rfl (fun hc224 => ?_) (fun hc224 => ?_)
                          · replace hq212 := iteT hc224 hq212
                            refine W.gen fun K225 hK225 => ?_
                            refine W.regionE (sel (fun w => St w s (nestC 22 3 1 (some ⟨b57, 0, none⟩) x55.length x55.length ds161 :: pt b51 (.cells #[.slice a0 x0.length c0] 40 (0, 0)) :: R)) (fun w => St w s (pt b51 (.cells #[.slice a0 x0.length c0] 40 (0, 0)) :: R))) (fun b i => cond b ([0, 1, 2, 3, 4, 5, 6, 7, 8, 9, 10, 11, 12, 13, 14, 15, 16, 17, 18, 19, 20, 21, 22, 23, 24, 25, 26, 27].contains i) ([0, 1, 2, 3, 4, 5, 6, 7, 8, 9, 10, 11, 12, 13, 14, 15, 16, 17, 18, 19, 20, 21, 22, 23, 24, 25, 26, 27, 28, 29].contains i)) mixed ?_
                            replace hS := hS.drew
                            refine Rg.takeP (i := 0) hE rfl (by kernel_rfl) (runs_plain rfl) (Gives.p hE rfl) rfl (tw_sel (fun _ => hS) (fun _ => (hS.tail))) ?_; clear hE a; intro a hE
                            refine Rg.takeP (i := 1) hE rfl (by kernel_rfl) (runs_plain rfl) (Gives.p hE rfl) rfl (tw_sel (fun _ => hS) (fun _ => (hS.tail))) ?_; clear hE a; intro a hE
                            obtain ⟨x226, hx227, hq212⟩ := bindS hq212
                            obtain ⟨hi228, hlt229, hy230⟩ := gx_some hx227
                            obtain ⟨a231, c232, cs233, hd234, hev235⟩ := h162.at hy230
                            refine Rg.takeP (i := 2) hE rfl (by kernel_rfl) (runs_plain rfl) (Gives.idx hE ((((k127 : Nat) : Int)).toNat) rfl rfl sl40 hi228 (by have := hn163; omega) (hS.nAok 0 rfl (by have := hn163; omega : (((k127 : Nat) : Int)).toNat < x55.length))) rfl (tw_sel (fun _ => hS) (fun _ => (hS.tail))) ?_; clear hE a; intro a hE
                            have hT := tw_sel (A := fun w => St w s (nestC 22 3 1 (some ⟨b57, 0, none⟩) x55.length x55.length ds161 :: pt b51 (.cells #[.slice a0 x0.length c0] 40 (0, 0)) :: R)) (B := fun w => St w s (pt b51 (.cells #[.slice a0 x0.length c0] 40 (0, 0)) :: R)) (w := _) (x := true) (y := true) (fun _ => hS) (fun _ => (hS.tail))
                            have hF := hS; replace hS := hS
                            refine Rg.take (i := 3) true rfl hE rfl (by kernel_rfl) (runs_plain rfl) (Gives.load1 (v := .slice a231 x226.length c232) hE rfl (fun w h => St.nSees h 0 rfl hd234) ty22) rfl hT ?_; clear hE a; intro a hE
                            replace hS := hF; clear hF hT
                            refine Rg.takeP (i := 4) hE rfl (by kernel_rfl) (runs_plain rfl) (Gives.p hE rfl) rfl (tw_sel (fun _ => hS) (fun _ => (hS.tail))) ?_; clear hE a; intro a hE
                            refine Rg.takeP (i := 5) hE rfl (by kernel_rfl) (runs_plain rfl) (Gives.p hE rfl) rfl (tw_sel (fun _ => hS) (fun _ => (hS.tail))) ?_; clear hE a; intro a hE
                            refine Rg.takeP (i := 6) hE rfl (by kernel_rfl) (runs_plain rfl) (Gives.p hE rfl) rfl (tw_sel (fun _ => hS) (fun _ => (hS.tail))) ?_; clear hE a; intro a hE
                            obtain ⟨x236, hx237, hq212⟩ := bindS hq212
                            obtain ⟨hi238, hlt239, hy240⟩ := gx_some hx237
                            obtain ⟨a241, c242, cs243, hd244, hev245⟩ := h162.at hy240
                            refine Rg.takeP (i := 7) hE rfl (by kernel_rfl) (runs_plain rfl) (Gives.idx hE ((((k127 : Nat) : Int)).toNat) rfl rfl sl40 hi238 (by have := hn163; omega) (hS.nAok 0 rfl (by have := hn163; omega : (((k127 : Nat) : Int)).toNat < x55.length))) rfl (tw_sel (fun _ => hS) (fun _ => (hS.tail))) ?_; clear hE a; intro a hE
                            have hT := tw_sel (A := fun w => St w s (nestC 22 3 1 (some ⟨b57, 0, none⟩) x55.length x55.length ds161 :: pt b51 (.cells #[.slice a0 x0.length c0] 40 (0, 0)) :: R)) (B := fun w => St w s (pt b51 (.cells #[.slice a0 x0.length c0] 40 (0, 0)) :: R)) (w := _) (x := true) (y := true) (fun _ => hS) (fun _ => (hS.tail))
                            have hF := hS; replace hS := hS
                            refine Rg.take (i := 8) true rfl hE rfl (by kernel_rfl) (runs_plain rfl) (Gives.load1 (v := .slice a241 x236.length c242) hE rfl (fun w h => St.nSees h 0 rfl hd244) ty22) rfl hT ?_; clear hE a; intro a hE
                            replace hS := hF; clear hF hT
                            refine Rg.takeP (i := 9) hE rfl (by kernel_rfl) (runs_plain rfl) (Gives.p hE rfl) rfl (tw_sel (fun _ => hS) (fun _ => (hS.tail))) ?_; clear hE a; intro a hE
                            obtain ⟨x246, hx247, hq212⟩ := bindS hq212
                            obtain ⟨hi248, hlt249, hy250⟩ := gx_some hx247
                            obtain ⟨vs251, hl252, hR253, hd254, hget255⟩ := hev245.at hy250
                            subst hR253
                            refine Rg.takeP (i := 10) hE rfl (by kernel_rfl) (runs_plain rfl) (Gives.idx hE ((((k147 : Nat) : Int)).toNat) rfl rfl sl22 hi248 hlt249 (hS.nnAok 0 rfl hd244 hlt249)) rfl (tw_sel (fun _ => hS) (fun _ => (hS.tail))) ?_; clear hE a; intro a hE
                            have hT := tw_sel (A := fun w => St w s (nestC 22 3 1 (some ⟨b57, 0, none⟩) x55.length x55.length ds161 :: pt b51 (.cells #[.slice a0 x0.length c0] 40 (0, 0)) :: R)) (B := fun w => St w s (pt b51 (.cells #[.slice a0 x0.length c0] 40 (0, 0)) :: R)) (w := _) (x := true) (y := true) (fun _ => hS) (fun _ => (hS.tail))
                            have hF := hS; replace hS := hS
                            refine Rg.take (i := 11) true rfl hE rfl (by kernel_rfl) (runs_plain rfl) (Gives.load1 hE rfl (fun w h => St.nnSees h 0 rfl hd244 ((((k147 : Nat) : Int)).toNat * 1) _ hget255) ty3) rfl hT ?_; clear hE a; intro a hE
                            replace hS := hF; clear hF hT
                            refine Rg.takeP (i := 12) hE rfl (by kernel_rfl) (runs_plain rfl) (Gives.p hE rfl) rfl (tw_sel (fun _ => hS) (fun _ => (hS.tail))) ?_; clear hE a; intro a hE
                            refine Rg.takeP (i := 13) hE rfl (by kernel_rfl) (runs_plain rfl) (Gives.p hE rfl) rfl (tw_sel (fun _ => hS) (fun _ => (hS.tail))) ?_; clear hE a; intro a hE
                            obtain ⟨x256, hx257, hq212⟩ := bindS hq212
                            obtain ⟨hi258, hlt259, hy260⟩ := gx_some hx257
                            obtain ⟨a261, c262, cs263, hd264, hev265⟩ := h162.at hy260
                            refine Rg.takeP (i := 14) hE rfl (by kernel_rfl) (runs_plain rfl) (Gives.idx hE ((((k127 : Nat) : Int)).toNat) rfl rfl sl40 hi258 (by have := hn163; omega) (hS.nAok 0 rfl (by have := hn163; omega : (((k127 : Nat) : Int)).toNat < x55.length))) rfl (tw_sel (fun _ => hS) (fun _ => (hS.tail))) ?_; clear hE a; intro a hE
                            have hT := tw_sel (A := fun w => St w s (nestC 22 3 1 (some ⟨b57, 0, none⟩) x55.length x55.length ds161 :: pt b51 (.cells #[.slice a0 x0.length c0] 40 (0, 0)) :: R)) (B := fun w => St w s (pt b51 (.cells #[.slice a0 x0.length c0] 40 (0, 0)) :: R)) (w := _) (x := true) (y := true) (fun _ => hS) (fun _ => (hS.tail))
                            have hF := hS; replace hS := hS
                            refine Rg.take (i := 15) true rfl hE rfl (by kernel_rfl) (runs_plain rfl) (Gives.load1 (v := .slice a261 x256.length c262) hE rfl (fun w h => St.nSees h 0 rfl hd264) ty22) rfl hT ?_; clear hE a; intro a hE
                            replace hS := hF; clear hF hT
                            refine Rg.takeP (i := 16) hE rfl (by kernel_rfl) (runs_plain rfl) (Gives.p hE rfl) rfl (tw_sel (fun _ => hS) (fun _ => (hS.tail))) ?_; clear hE a; intro a hE
                            obtain ⟨x266, hx267, hq212⟩ := bindS hq212
                            obtain ⟨hi268, hlt269, hy270⟩ := gx_some hx267
                            obtain ⟨vs271, hl272, hR273, hd274, hget275⟩ := hev265.at hy270
                            subst hR273
                            refine Rg.takeP (i := 17) hE rfl (by kernel_rfl) (runs_plain rfl) (Gives.idx hE ((((k107 : Nat) : Int)).toNat) rfl rfl sl22 hi268 hlt269 (hS.nnAok 0 rfl hd264 hlt269)) rfl (tw_sel (fun _ => hS) (fun _ => (hS.tail))) ?_; clear hE a; intro a hE
                            have hT := tw_sel (A := fun w => St w s (nestC 22 3 1 (some ⟨b57, 0, none⟩) x55.length x55.length ds161 :: pt b51 (.cells #[.slice a0 x0.length c0] 40 (0, 0)) :: R)) (B := fun w => St w s (pt b51 (.cells #[.slice a0 x0.length c0] 40 (0, 0)) :: R)) (w := _) (x := true) (y := true) (fun _ => hS) (fun _ => (hS.tail))
                            have hF := hS; replace hS := hS
                            refine Rg.take (i := 18) true rfl hE rfl (by kernel_rfl) (runs_plain rfl) (Gives.load1 hE rfl (fun w h => St.nnSees h 0 rfl hd264 ((((k107 : Nat) : Int)).toNat * 1) _ hget275) ty3) rfl hT ?_; clear hE a; intro a hE
                            replace hS := hF; clear hF hT
                            refine Rg.takeP (i := 19) hE rfl (by kernel_rfl) (runs_plain rfl) (Gives.p hE rfl) rfl (tw_sel (fun _ => hS) (fun _ => (hS.tail))) ?_; clear hE a; intro a hE
                            refine Rg.takeP (i := 20) hE rfl (by kernel_rfl) (runs_plain rfl) (Gives.p hE rfl) rfl (tw_sel (fun _ => hS) (fun _ => (hS.tail))) ?_; clear hE a; intro a hE
                            obtain ⟨x276, hx277, hq212⟩ := bindS hq212
                            obtain ⟨hi278, hlt279, hy280⟩ := gx_some hx277
                            obtain ⟨a281, c282, cs283, hd284, hev285⟩ := h162.at hy280
                            refine Rg.takeP (i := 21) hE rfl (by kernel_rfl) (runs_plain rfl) (Gives.idx hE ((((k107 : Nat) : Int)).toNat) rfl rfl sl40 hi278 (by have := hn163; omega) (hS.nAok 0 rfl (by have := hn163; omega : (((k107 : Nat) : Int)).toNat < x55.length))) rfl (tw_sel (fun _ => hS) (fun _ => (hS.tail))) ?_; clear hE a; intro a hE
                            have hT := tw_sel (A := fun w => St w s (nestC 22 3 1 (some ⟨b57, 0, none⟩) x55.length x55.length ds161 :: pt b51 (.cells #[.slice a0 x0.length c0] 40 (0, 0)) :: R)) (B := fun w => St w s (pt b51 (.cells #[.slice a0 x0.length c0] 40 (0, 0)) :: R)) (w := _) (x := true) (y := true) (fun _ => hS) (fun _ => (hS.tail))
                            have hF := hS; replace hS := hS
                            refine Rg.take (i := 22) true rfl hE rfl (by kernel_rfl) (runs_plain rfl) (Gives.load1 (v := .slice a281 x276.length c282) hE rfl (fun w h => St.nSees h 0 rfl hd284) ty22) rfl hT ?_; clear hE a; intro a hE
                            replace hS := hF; clear hF hT
                            refine Rg.takeP (i := 23) hE rfl (by kernel_rfl) (runs_plain rfl) (Gives.p hE rfl) rfl (tw_sel (fun _ => hS) (fun _ => (hS.tail))) ?_; clear hE a; intro a hE
                            obtain ⟨x286, hx287, hq212⟩ := bindS hq212
                            obtain ⟨hi288, hlt289, hy290⟩ := gx_some hx287
                            obtain ⟨vs291, hl292, hR293, hd294, hget295⟩ := hev285.at hy290
                            subst hR293
                            refine Rg.takeP (i := 24) hE rfl (by kernel_rfl) (runs_plain rfl) (Gives.idx hE ((((k147 : Nat) : Int)).toNat) rfl rfl sl22 hi288 hlt289 (hS.nnAok 0 rfl hd284 hlt289)) rfl (tw_sel (fun _ => hS) (fun _ => (hS.tail))) ?_; clear hE a; intro a hE
                            have hT := tw_sel (A := fun w => St w s (nestC 22 3 1 (some ⟨b57, 0, none⟩) x55.length x55.length ds161 :: pt b51 (.cells #[.slice a0 x0.length c0] 40 (0, 0)) :: R)) (B := fun w => St w s (pt b51 (.cells #[.slice a0 x0.length c0] 40 (0, 0)) :: R)) (w := _) (x := true) (y := true) (fun _ => hS) (fun _ => (hS.tail))
                            have hF := hS; replace hS := hS
                            refine Rg.take (i := 25) true rfl hE rfl (by kernel_rfl) (runs_plain rfl) (Gives.load1 hE rfl (fun w h => St.nnSees h 0 rfl hd284 ((((k147 : Nat) : Int)).toNat * 1) _ hget295) ty3) rfl hT ?_; clear hE a; intro a hE
                            replace hS := hF; clear hF hT
                            refine Rg.takeP (i := 26) hE rfl (by kernel_rfl) (runs_plain rfl) (Gives.p hE rfl) rfl (tw_sel (fun _ => hS) (fun _ => (hS.tail))) ?_; clear hE a; intro a hE
                            refine Rg.takeP (i := 27) hE rfl (by kernel_rfl) (runs_plain rfl) (Gives.max2 hE rfl rfl) rfl (tw_sel (fun _ => hS) (fun _ => (hS.tail))) ?_; clear hE a; intro a hE
                            refine Rg.one (i := 28) false true rfl (by kernel_rfl) (by kernel_rfl) (by kernel_rfl) ?_
                            replace hS := hS.borrowM 0 rfl hd234
                            obtain ⟨_, hx298, hq212⟩ := bindS hq212
                            obtain ⟨h299, h300⟩ := ix_some hx298
                            refine WL.vS hS hE (runs_plain rfl) (Gives.idx hE ((((k147 : Nat) : Int)).toNat) rfl rfl sl22 h299 (by omega) (hS.vecAok 0 rfl (by omega : (((k147 : Nat) : Int)).toNat < x226.length))) rfl ?_; clear hE a; intro a hE
                            refine WL.nil ?_
                            refine ⟨⟨fun h => absurd h (by decide), fun _ => ((hS.tail).tail)⟩, ?_⟩
                            refine Rg.one (i := 29) false true rfl (by kernel_rfl) (by kernel_rfl) (by kernel_rfl) ?_
                            obtain ⟨x302, hx303, hq212⟩ := bindS hq212
                            refine WL.setD hE hS 0 rfl (runs_plain rfl) rfl rfl (vs := [.int .i64 (mx x246 (w64 (x266 + x286)))]) rfl ty3 rfl rfl rfl hev235 (rfl) (sx_some hx303).1 hx303 rfl rfl ?_; clear hE hS a w; intro cs304 a w h305 hn306 hE hS
                            refine WL.nil ?_
                            refine ⟨⟨fun h => absurd h (by decide), fun _ => ((hS.tail).tail)⟩, ?_⟩
                            refine Rg.done (by kernel_rfl) ?_
                            subst hK225
                            replace hS := hS.giveBack 0 rfl hd234
                            have h308 := h162.set (k := (((k127 : Nat) : Int)).toNat) (d := ⟨a231, c232, x226.length, cs304⟩) h305 hn306
                            have hn309 : (q157.set ((((k127 : Nat) : Int)).toNat) x302).length = x55.length := by simp; exact hn163
                            generalize List.set ds161 ((((k127 : Nat) : Int)).toNat) _ = ds307 at hS h308
                            subst hK223
                            exact ⟨(q157.set ((((k127 : Nat) : Int)).toNat) x302), ds307, Option.some.inj hq212, h308, hn309, hE.pick _ ⟨rfl, rfl, rfl, rfl, rfl, rfl, rfl, rfl, rfl, trivial⟩, hS⟩
                          · replace hq212 := iteF hc224 hq212
                            refine W.skip ?_
                            subst hK223
                            exact ⟨q157, ds161, Option.some.inj hq212, h162, hn163, hE.pick _ ⟨rfl, rfl, rfl, rfl, rfl, rfl, rfl, rfl, rfl, trivial⟩, hS⟩
                        · clear hE hS a w; rintro a w ⟨q216, ds220, rfl, h221, hn222, hE, hS⟩
                          refine W.region ?_
                          refine WL.vS hS hE (runs_plain rfl) (Gives.inc hE rfl (by omega)) rfl ?_; clear hE a; intro a hE
                          refine WL.vS hS hE (runs_plain rfl) (Gives.p hE rfl) rfl ?_; clear hE a; intro a hE
                          refine WL.nil ?_
                          subst hK164
                          exact ⟨rest149, Nat.lt_succ_self _, rest149, k147 + 1, q216, ds220, rfl, (by omega), hq145, h221, hn222, hE.pick _ ⟨rfl, rfl, rfl, rfl, rfl, rfl, rfl, rfl, rfl, trivial⟩, hS⟩
                  · clear hE hS a w; rintro a w ⟨q157, ds161, rfl, h162, hn163, hE, hS⟩
                    refine W.region ?_
                    refine WL.vS hS hE (runs_plain rfl) (Gives.inc hE rfl (by omega)) rfl ?_; clear hE a; intro a hE
                    refine WL.vS hS hE (runs_plain rfl) (Gives.p hE rfl) rfl ?_; clear hE a; intro a hE
                    refine WL.nil ?_
                    subst hK144
                    exact ⟨rest129, Nat.lt_succ_self _, rest129, k127 + 1, q157, ds161, rfl, (by omega), hq125, h162, hn163, hE.pick _ ⟨rfl, rfl, rfl, rfl, rfl, rfl, trivial⟩, hS⟩
              · clear hE hS a w; rintro a w ⟨q137, ds141, rfl, h142, hn143, hE, hS⟩
                refine W.region ?_
                refine WL.vS hS hE (runs_plain rfl) (Gives.inc hE rfl (by omega)) rfl ?_; clear hE a; intro a hE
                refine WL.vS hS hE (runs_plain rfl) (Gives.p hE rfl) rfl ?_; clear hE a; intro a hE
                refine WL.nil ?_
                subst hK124
                exact ⟨rest109, Nat.lt_succ_self _, rest109, k107 + 1, q137, ds141, rfl, (by omega), hq105, h142, hn143, hE.pick _ ⟨rfl, rfl, rfl, trivial⟩, hS⟩
          · clear hE hS a w; rintro a w ⟨q117, ds121, rfl, h122, hn123, hE, hS⟩
            refine W.seq ?_
            refine W.seq ?_
            refine W.region ?_
            refine WL.vS hS hE (runs_plain rfl) (Gives.p hE rfl) rfl ?_; clear hE a; intro a hE
            refine WL.vS hS hE (runs_plain rfl) (Gives.len hE rfl sl40) rfl ?_; clear hE a; intro a hE
            refine WL.vS hS hE (runs_plain rfl) (Gives.p hE rfl) rfl ?_; clear hE a; intro a hE
            refine WL.nil ?_
            have hb321 : x55.length ≤ 9223372036854775807 := by have := hS.nCap 0 rfl; unfold maxLen at this; omega
            obtain ⟨q311, hq310, hr⟩ := bindS hr
            refine W.cut (fun a w => ∃ (q322 : List (List Int)), ∃ (ds326 : List In), (.next q322) = q311 ∧ NEv 1 (RI .i64) s ds326 q322 ∧ q322.length = x55.length ∧ Rep a 125 [(5, .slice (some ⟨b57, 0, none⟩) x55.length x55.length)] ∧ St w s (nestC 22 3 1 (some ⟨b57, 0, none⟩) x55.length x55.length ds326 :: pt b51 (.cells #[.slice a0 x0.length c0] 40 (0, 0)) :: R)) ?_ ?_
            · refine W.block ?_
              refine W.loop (fun m a w => ∃ (rest314 : Nat) (k312 : Nat), ∃ (q322 : List (List Int)), ∃ (ds326 : List In), rest314 = m ∧ k312 + rest314 = x55.length ∧ MendClosure.loop5 rest314 k312 q322 = some q311 ∧ NEv 1 (RI .i64) s ds326 q322 ∧ q322.length = x55.length ∧ Rep a 125 [(5, .slice (some ⟨b57, 0, none⟩) x55.length x55.length), (105, .int .i64 ((x55.length : Nat) : Int)), (106, .int .i64 ((k312 : Nat) : Int))] ∧ St w s (nestC 22 3 1 (some ⟨b57, 0, none⟩) x55.length x55.length ds326 :: pt b51 (.cells #[.slice a0 x0.length c0] 40 (0, 0)) :: R)) (m := x55.length) ⟨x55.length, 0, q117, ds121, rfl, by omega, hq310, h122, hn123, hE.pick _ ⟨rfl, rfl, rfl, trivial⟩, hS⟩ ?_
              clear hE hS a w hq310; rintro m318 a w ⟨rest314, k312, q322, ds326, rfl, hd315, hq310, h327, hn328, hE, hS⟩
              refine W.gen fun K329 hK329 => ?_
              rcases rest314 with _ | rest314
              · skip
                refine W.seq ?_
                refine W.region ?_
                refine WL.vS hS hE (runs_plain rfl) (Gives.p hE rfl) rfl ?_; clear hE a; intro a hE
                refine WL.nil ?_
                refine W.seq ?_
                refine W.condF hE rfl (decide_eq_false (by omega)) ?_
                subst hK329
                refine W.exit rfl ?_
                exact ⟨q322, ds326, Option.some.inj hq310, h327, hn328, hE.pick _ ⟨rfl, trivial⟩, hS⟩
              · have hlt316 : k312 < x55.length := by omega
                rw [MendClosure.loop5] at hq310
                refine W.seq ?_
                refine W.region ?_
                refine WL.vS hS hE (runs_plain rfl) (Gives.p hE rfl) rfl ?_; clear hE a; intro a hE
                refine WL.nil ?_
                refine W.seq ?_
                refine W.condT hE rfl (decide_eq_true (by omega)) ?_
                refine W.skip ?_
                refine W.seq ?_
                refine W.block ?_
                refine W.seq ?_
                refine W.region ?_
                refine WL.vS hS hE (runs_plain rfl) (Gives.p hE rfl) rfl ?_; clear hE a; intro a hE
                refine WL.vS hS hE (runs_plain rfl) (Gives.p hE rfl) rfl ?_; clear hE a; intro a hE
                refine WL.nil ?_
                refine W.seq ?_
                refine W.seq ?_
                refine W.region ?_
                refine WL.vS hS hE (runs_plain rfl) (Gives.p hE rfl) rfl ?_; clear hE a; intro a hE
                refine WL.vS hS hE (runs_plain rfl) (Gives.p hE rfl) rfl ?_; clear hE a; intro a hE
                obtain ⟨x330, hx331, hq310⟩ := bindS hq310
                obtain ⟨hi332, hlt333, hy334⟩ := gx_some hx331
                obtain ⟨a335, c336, cs337, hd338, hev339⟩ := h327.at hy334
                refine WL.vS hS hE (runs_plain rfl) (Gives.idx hE ((((k312 : Nat) : Int)).toNat) rfl rfl sl40 hi332 (by have := hn328; omega) (hS.nAok 0 rfl (by have := hn328; omega : (((k312 : Nat) : Int)).toNat < x55.length))) rfl ?_; clear hE a; intro a hE
                refine WL.vS hS hE (runs_plain rfl) (Gives.load1 (v := .slice a335 x330.length c336) hE rfl (fun w h => St.nSees h 0 rfl hd338) ty22) rfl ?_; clear hE a; intro a hE
                refine WL.vS hS hE (runs_plain rfl) (Gives.p hE rfl) rfl ?_; clear hE a; intro a hE
                obtain ⟨x340, hx341, hq310⟩ := bindS hq310
                obtain ⟨hi342, hlt343, hy344⟩ := gx_some hx341
                obtain ⟨vs345, hl346, hR347, hd348, hget349⟩ := hev339.at hy344
                subst hR347
                refine WL.vS hS hE (runs_plain rfl) (Gives.idx hE ((((k312 : Nat) : Int)).toNat) rfl rfl sl22 hi342 hlt343 (hS.nnAok 0 rfl hd338 hlt343)) rfl ?_; clear hE a; intro a hE
                refine WL.vS hS hE (runs_plain rfl) (Gives.load1 hE rfl (fun w h => St.nnSees h 0 rfl hd338 ((((k312 : Nat) : Int)).toNat * 1) _ hget349) ty3) rfl ?_; clear hE a; intro a hE
                refine WL.vS hS hE (runs_plain rfl) (Gives.p hE rfl) rfl ?_; clear hE a; intro a hE
                refine WL.nil ?_
                refine W.cond hE rfl (fun hc350 => ?_) (fun hc350 => ?_)
                · replace hq310 := iteT hc350 hq310
                  refine W.seq ?_
                  refine W.region ?_
                  refine WL.vS hS hE (runs_plain rfl) (Gives.p hE rfl) rfl ?_; clear hE a; intro a hE
                  refine WL.vS hS hE (runs_plain rfl) (Gives.p hE rfl) rfl ?_; clear hE a; intro a hE
                  refine WL.nil ?_
                  refine W.ret ?_
                  subst hK329
                  rw [← Option.some.inj hq310] at hr
                  dsimp only at hr
                  refine finG (fn := Try.f31) (rs := [.tmp 2, .tmp 3]) (vs := [_, _]) hE rfl ⟨rfl, rfl, trivial⟩ ?_
                  obtain rfl := Option.some.inj hr
                  replace hS := hS.tail
                  replace hS := hS.tail
                  exact ⟨none, 0, s, rfl, (Sg.Le.refl _), Sl.nil, hS⟩
                · replace hq310 := iteF hc350 hq310
                  refine W.skip ?_
                  refine W.region ?_
                  refine WL.vS hS hE (runs_plain rfl) (Gives.p hE rfl) rfl ?_; clear hE a; intro a hE
                  refine WL.vS hS hE (runs_plain rfl) (Gives.p hE rfl) rfl ?_; clear hE a; intro a hE
                  obtain ⟨x351, hx352, hq310⟩ := bindS hq310
                  obtain ⟨hi353, hlt354, hy355⟩ := gx_some hx352
                  obtain ⟨a356, c357, cs358, hd359, hev360⟩ := h327.at hy355
                  refine WL.vS hS hE (runs_plain rfl) (Gives.idx hE ((((k312 : Nat) : Int)).toNat) rfl rfl sl40 hi353 (by have := hn328; omega) (hS.nAok 0 rfl (by have := hn328; omega : (((k312 : Nat) : Int)).toNat < x55.length))) rfl ?_; clear hE a; intro a hE
                  refine WL.vS hS hE (runs_plain rfl) (Gives.load1 (v := .slice a356 x351.length c357) hE rfl (fun w h => St.nSees h 0 rfl hd359) ty22) rfl ?_; clear hE a; intro a hE
                  refine WL.vS hS hE (runs_plain rfl) (Gives.p hE rfl) rfl ?_; clear hE a; intro a hE
                  replace hS := hS.borrowM 0 rfl hd359
                  obtain ⟨_, hx363, hq310⟩ := bindS hq310
                  obtain ⟨h364, h365⟩ := ix_some hx363
                  refine WL.vS hS hE (runs_plain rfl) (Gives.idx hE ((((k312 : Nat) : Int)).toNat) rfl rfl sl22 h364 (by omega) (hS.vecAok 0 rfl (by omega : (((k312 : Nat) : Int)).toNat < x351.length))) rfl ?_; clear hE a; intro a hE
                  obtain ⟨x367, hx368, hq310⟩ := bindS hq310
                  refine WL.setD hE hS 0 rfl (runs_plain rfl) rfl rfl (vs := [.int .i64 0]) rfl ty3 rfl rfl rfl hev360 (rfl) (sx_some hx368).1 hx368 rfl rfl ?_; clear hE hS a w; intro cs369 a w h370 hn371 hE hS
                  refine WL.nil ?_
                  refine W.region ?_
                  refine WL.vS hS hE (runs_plain rfl) (Gives.inc hE rfl (by omega)) rfl ?_; clear hE a; intro a hE
                  refine WL.vS hS hE (runs_plain rfl) (Gives.p hE rfl) rfl ?_; clear hE a; intro a hE
                  refine WL.nil ?_
                  replace hS := hS.giveBack 0 rfl hd359
                  have h373 := h327.set (k := (((k312 : Nat) : Int)).toNat) (d := ⟨a356, c357, x351.length, cs369⟩) h370 hn371
                  have hn374 : (q322.set ((((k312 : Nat) : Int)).toNat) x367).length = x55.length := by simp; exact hn328
                  generalize List.set ds326 ((((k312 : Nat) : Int)).toNat) _ = ds372 at hS h373
                  subst hK329
                  exact ⟨rest314, Nat.lt_succ_self _, rest314, k312 + 1, (q322.set ((((k312 : Nat) : Int)).toNat) x367), ds372, rfl, (by omega), hq310, h373, hn374, hE.pick _ ⟨rfl, rfl, rfl, trivial⟩, hS⟩
            · clear hE hS a w; rintro a w ⟨q322, ds326, rfl, h327, hn328, hE, hS⟩
              dsimp only at hr
              refine W.seq ?_
              refine W.region ?_
              refine WL.vS hS hE (runs_plain rfl) (Gives.p hE rfl) rfl ?_; clear hE a; intro a hE
              refine WL.vS hS hE (runs_plain rfl) (Gives.p hE rfl) rfl ?_; clear hE a; intro a hE
              refine WL.vS hS hE (runs_plain rfl) (Gives.p hE rfl) rfl ?_; clear hE a; intro a hE
              refine WL.nil ?_
              refine W.ret ?_
              have hF := hS.fixN RI.mono 0 rfl h327 hn328; clear hS; obtain ⟨s375, hle376, hS, h377⟩ := hF
              (try rw [← hn328] at hE)
              (try rw [← hn328] at hS)
              (try rw [← hn328] at h377)
              replace h0 := Sl.mono (RL.mono RI.mono) hle376 h0
              refine finG (fn := Try.f31) (rs := [.tmp 2, .tmp 3]) (vs := [_, _]) hE rfl ⟨rfl, rfl, trivial⟩ ?_
              obtain rfl := Option.some.inj hr
              replace hS := hS.tail
              exact ⟨(some ⟨b57, 0, none⟩), q322.length, s375, rfl, hle376, h377, hS⟩
end Go.Proofs.Ytfioafdipipcaaa
