/- The walks of the functions that PlanGaps reaches: each call comes to what its mirror says. The conditions are those of each contract. -/
import Derived.Test.YtffleanbfkjfiaaProg
import Derived.Test.YtffleanbfkjfiaaPlanGapsM
import Derived.Test.YtffleanbfkjfiaaFpMore
import Derived.Test.YtffleanbfkjfiaaPlanGapsW1
namespace Go.Proofs.Ytffleanbfkjfiaa
open Go Go.Fp
set_option maxHeartbeats 8000000 in
theorem PlanSearchrun_v1_ok : ∀ {fu : Nat} {w : World} {s : Sg} {R : List HP} {pb0 : Nat} {pb1 : Nat} {pb2 : Nat} {x1 : Option (List Int)} {a1 : Option Addr} {y0_0 : Int} {y0_1 : Int} {y0_2 : List PlanRule} {a_y0_2 : Option Addr} {c_y0_2 : Nat} {y0_5 : List Int} {a_v0 : Option Addr} {c_v0 n_v0 : Nat} {cs_v0 : List Value} {y0_6 : List Bool} {a_v1 : Option Addr} {c_v1 n_v1 : Nat} {cs_v1 : List Value} {y1 : Int} {y2 : Int} (_hS : St w s (pt pb0 (.cells #[.int .i64 y0_0, .int .i64 y0_1, .slice a_y0_2 y0_2.length c_y0_2, .func (.func 71) #[] #[.pointer (some ⟨pb1, 0, none⟩), .pointer (some ⟨pb2, 0, none⟩)], .func (.func 70) #[] #[.pointer (some ⟨pb1, 0, none⟩), .pointer (some ⟨pb2, 0, none⟩)], .slice a_v0 n_v0 c_v0, .slice a_v1 n_v1 c_v1] 80 (0, 0)) :: pt pb1 (.cells #[.int .i64 y1] 3 (0, 0)) :: pt pb2 (.cells #[.int .i64 y2] 3 (0, 0)) :: vecC 3 1 a_v0 c_v0 n_v0 cs_v0 :: vecC 4 1 a_v1 c_v1 n_v1 cs_v1 :: R)) (_h1 : Pt 64 (RA .i64 64) s a1 x1) (_h_y0_2 : Sl 5 RPlanRule s a_y0_2 c_y0_2 y0_2) (_h_v0 : Ev 1 (RI .i64) s cs_v0 y0_5) (_hn_v0 : y0_5.length = n_v0) (_h_v1 : Ev 1 RB s cs_v1 y0_6) (_hn_v1 : y0_6.length = n_v1) {r : (List Int) × (List Bool) × Int} (_hr : PlanSearchrun_v1 fu x1 y0_0 y0_1 y0_2 y0_5 y0_6 y1 y2 = some r),
    Calls Try.prog 54 [.pointer (some ⟨pb0, 0, none⟩), .pointer a1].toArray w (fun e w => ∃ (cs68 : List Value) (cs74 : List Value) (t : Sg), e = .returned (.tuple #[]) ∧ s.Le t ∧ Ev 1 (RI .i64) t cs68 r.1 ∧ r.1.length = n_v0 ∧ Ev 1 RB t cs74 r.2.1 ∧ r.2.1.length = n_v1 ∧ St w t (pt pb0 (.cells #[.int .i64 y0_0, .int .i64 y0_1, .slice a_y0_2 y0_2.length c_y0_2, .func (.func 71) #[] #[.pointer (some ⟨pb1, 0, none⟩), .pointer (some ⟨pb2, 0, none⟩)], .func (.func 70) #[] #[.pointer (some ⟨pb1, 0, none⟩), .pointer (some ⟨pb2, 0, none⟩)], .slice a_v0 n_v0 c_v0, .slice a_v1 n_v1 c_v1] 80 (0, 0)) :: pt pb1 (.cells #[.int .i64 y1] 3 (0, 0)) :: pt pb2 (.cells #[.int .i64 r.2.2] 3 (0, 0)) :: vecC 3 1 a_v0 c_v0 n_v0 cs68 :: vecC 4 1 a_v1 c_v1 n_v1 cs74 :: R)) := by
  intro fu
  induction fu with
  | zero => intro w s R pb0 pb1 pb2 x1 a1 y0_0 y0_1 y0_2 a_y0_2 c_y0_2 y0_5 a_v0 c_v0 n_v0 cs_v0 y0_6 a_v1 c_v1 n_v1 cs_v1 y1 y2 hS h1 h_y0_2 h_v0 hn_v0 h_v1 hn_v1 r hr; rw [PlanSearchrun_v1] at hr; exact absurd hr (by simp)
  | succ fu ih_PlanSearchrun_v1 =>
    intro w s R pb0 pb1 pb2 x1 a1 y0_0 y0_1 y0_2 a_y0_2 c_y0_2 y0_5 a_v0 c_v0 n_v0 cs_v0 y0_6 a_v1 c_v1 n_v1 cs_v1 y1 y2 hS h1 h_y0_2 h_v0 hn_v0 h_v1 hn_v1 r hr
    rw [PlanSearchrun_v1] at hr
    generalize PlanSearchrun_v1 fu = self_PlanSearchrun_v1 at hr ih_PlanSearchrun_v1
    refine enter Try.func54 rfl rfl rfl fun a hE => ?_
    subst hn_v0
    subst hn_v1
    refine W.seq ?_
    refine W.seq ?_
    refine W.region ?_
    refine WL.vS hS hE (runs_plain rfl) (Gives.p hE rfl) rfl ?_; clear hE a; intro a hE
    refine WL.vS hS hE (runs_plain rfl) (Gives.nilOk hE rfl) rfl ?_; clear hE a; intro a hE
    refine WL.vS hS hE (runs_plain rfl) (Gives.fld hE rfl fl80_2) rfl ?_; clear hE a; intro a hE
    refine WL.vS hS hE (runs_plain rfl) (Gives.loadB hE 0 rfl rfl rfl ty78) rfl ?_; clear hE a; intro a hE
    refine WL.vS hS hE (runs_plain rfl) (Gives.p hE rfl) rfl ?_; clear hE a; intro a hE
    obtain ⟨q77, hq78, hr⟩ := bindS hr
    replace hS := hS.front 2 rfl
    replace hS := hS.front 2 rfl
    have hc_ := Plansolve_1_v1_ok hS h1 hq78
    refine WL.fnw hE (hc_) rfl (runs_plain rfl) bd70 rfl rfl rfl ?_
    clear hE hS hc_; rintro e w ⟨rfl, hS⟩; refine ⟨_, rfl, ?_⟩; clear a; intro a hE
    refine WL.nil ?_
    refine W.cond hE rfl (fun hc79 => ?_) (fun hc79 => ?_)
    · replace hr := iteT hc79 hr
      refine W.ret ?_
      refine finG (fn := Try.f54) (rs := []) (vs := []) hE rfl trivial ?_
      obtain rfl := Option.some.inj hr
      replace hS := hS.front 4 rfl
      replace hS := hS.front 4 rfl
      replace hS := hS.front 3 rfl
      replace hS := hS.front 3 rfl
      replace hS := hS.front 4 rfl
      exact ⟨cs_v0, cs_v1, s, rfl, (Sg.Le.refl _), h_v0, (rfl), h_v1, (rfl), hS⟩
    · replace hr := iteF hc79 hr
      refine W.skip ?_
      refine W.seq ?_
      refine W.region ?_
      refine WL.vS hS hE (runs_plain rfl) (Gives.p hE rfl) rfl ?_; clear hE a; intro a hE
      refine WL.vS hS hE (runs_plain rfl) (Gives.p hE rfl) rfl ?_; clear hE a; intro a hE
      refine WL.nil ?_
      refine W.seq ?_
      refine W.seq ?_
      refine W.region ?_
      refine WL.vS hS hE (runs_plain rfl) (Gives.p hE rfl) rfl ?_; clear hE a; intro a hE
      refine WL.vS hS hE (runs_plain rfl) (Gives.nilOk hE rfl) rfl ?_; clear hE a; intro a hE
      refine WL.vS hS hE (runs_plain rfl) (Gives.fld hE rfl fl80_0) rfl ?_; clear hE a; intro a hE
      refine WL.vS hS hE (runs_plain rfl) (Gives.fld hE rfl fl24_2) rfl ?_; clear hE a; intro a hE
      refine WL.vS hS hE (runs_plain rfl) (Gives.loadB hE 2 rfl rfl rfl ty22) rfl ?_; clear hE a; intro a hE
      refine WL.vS hS hE (runs_plain rfl) (Gives.len hE rfl sl22) rfl ?_; clear hE a; intro a hE
      refine WL.vS hS hE (runs_plain rfl) (Gives.p hE rfl) rfl ?_; clear hE a; intro a hE
      refine WL.nil ?_
      obtain ⟨q81, hq80, hr⟩ := bindS hr
      refine W.cut (fun a w => ∃ (q91 : Int), ∃ (q92 : List Int), ∃ (q96 : Int), ∃ (a93 : Option Addr), ∃ (c94 : Nat), ∃ (s89 : Sg), s.Le s89 ∧ (.next (q91, q92, q96)) = q81 ∧ Sl 1 (RI .i64) s89 a93 c94 q92 ∧ Rep a 142 [(0, .pointer (some ⟨pb0, 0, none⟩)), (1, .pointer a1), (4, .int .i64 q91), (5, .slice a93 q92.length c94)] ∧ St w s89 (pt pb1 (.cells #[.int .i64 y1] 3 (0, 0)) :: pt pb2 (.cells #[.int .i64 q96] 3 (0, 0)) :: pt pb0 (.cells #[.int .i64 y0_0, .int .i64 y0_1, .slice a_y0_2 y0_2.length c_y0_2, .func (.func 71) #[] #[.pointer (some ⟨pb1, 0, none⟩), .pointer (some ⟨pb2, 0, none⟩)], .func (.func 70) #[] #[.pointer (some ⟨pb1, 0, none⟩), .pointer (some ⟨pb2, 0, none⟩)], .slice a_v0 y0_5.length c_v0, .slice a_v1 y0_6.length c_v1] 80 (0, 0)) :: vecC 3 1 a_v0 c_v0 y0_5.length cs_v0 :: vecC 4 1 a_v1 c_v1 y0_6.length cs_v1 :: R)) ?_ ?_
      · refine W.block ?_
        refine W.loop (fun m a w => ∃ (rest84 : List PlanRule) (k82 : Nat), ∃ (q91 : Int), ∃ (q92 : List Int), ∃ (q96 : Int), ∃ (a93 : Option Addr), ∃ (c94 : Nat), ∃ (s89 : Sg), rest84.length = m ∧ y0_2.drop k82 = rest84 ∧ s.Le s89 ∧ PlanSearchrun_v1.loop1 x1 y0_0 y0_1 y0_2 y0_5 y0_6 y1 fu rest84 k82 q91 q92 q96 = some q81 ∧ Sl 1 (RI .i64) s89 a93 c94 q92 ∧ Rep a 142 [(0, .pointer (some ⟨pb0, 0, none⟩)), (1, .pointer a1), (4, .int .i64 q91), (5, .slice a93 q92.length c94), (24, .slice a_y0_2 y0_2.length c_y0_2), (25, .int .i64 ((y0_2).length : Int)), (26, .int .i64 ((k82 : Nat) : Int))] ∧ St w s89 (pt pb1 (.cells #[.int .i64 y1] 3 (0, 0)) :: pt pb2 (.cells #[.int .i64 q96] 3 (0, 0)) :: pt pb0 (.cells #[.int .i64 y0_0, .int .i64 y0_1, .slice a_y0_2 y0_2.length c_y0_2, .func (.func 71) #[] #[.pointer (some ⟨pb1, 0, none⟩), .pointer (some ⟨pb2, 0, none⟩)], .func (.func 70) #[] #[.pointer (some ⟨pb1, 0, none⟩), .pointer (some ⟨pb2, 0, none⟩)], .slice a_v0 y0_5.length c_v0, .slice a_v1 y0_6.length c_v1] 80 (0, 0)) :: vecC 3 1 a_v0 c_v0 y0_5.length cs_v0 :: vecC 4 1 a_v1 c_v1 y0_6.length cs_v1 :: R)) (m := y0_2.length) ⟨y0_2, 0, (-1), [], y2, none, 0, s, rfl, rfl, (Sg.Le.refl _), hq80, Sl.nil, hE.pick _ ⟨rfl, rfl, rfl, rfl, rfl, rfl, rfl, trivial⟩, hS⟩ ?_
        clear hE hS a w hq80; rintro m88 a w ⟨rest84, k82, q91, q92, q96, a93, c94, s89, rfl, hd85, hle90, hq80, h95, hE, hS⟩
        refine W.gen fun K97 hK97 => ?_
        replace h1 := Pt.mono RA.mono hle90 h1
        replace h_y0_2 := Sl.mono RPlanRule.mono hle90 h_y0_2
        replace h_v0 := Ev.mono RI.mono hle90 h_v0
        replace h_v1 := Ev.mono RB.mono hle90 h_v1
        rcases rest84 with _ | ⟨x83, rest84⟩
        · have hlt86 := drop_nil hd85
          refine W.seq ?_
          refine W.region ?_
          refine WL.vS hS hE (runs_plain rfl) (Gives.p hE rfl) rfl ?_; clear hE a; intro a hE
          refine WL.nil ?_
          refine W.seq ?_
          refine W.condF hE rfl (decide_eq_false (by omega)) ?_
          subst hK97
          refine W.exit rfl ?_
          exact ⟨q91, q92, q96, a93, c94, s89, hle90, Option.some.inj hq80, h95, hE.pick _ ⟨rfl, rfl, rfl, rfl, trivial⟩, hS⟩
        · obtain ⟨hlt86, hx87, hd85⟩ := drop_cons hd85
          rw [PlanSearchrun_v1.loop1] at hq80
          refine W.seq ?_
          refine W.region ?_
          refine WL.vS hS hE (runs_plain rfl) (Gives.p hE rfl) rfl ?_; clear hE a; intro a hE
          refine WL.nil ?_
          refine W.seq ?_
          refine W.condT hE rfl (decide_eq_true (by omega)) ?_
          refine W.skip ?_
          refine W.seq ?_
          refine W.block ?_
          refine W.seq ?_
          refine W.region ?_
          refine WL.vS hS hE (runs_plain rfl) (Gives.p hE rfl) rfl ?_; clear hE a; intro a hE
          obtain ⟨cs98, hl99, hR100, hat101⟩ := h_y0_2.at hx87
          subst hR100
          refine WL.vS hS hE (runs_plain rfl) (Gives.idx hE k82 rfl rfl sl22 rfl hlt86 (h_y0_2.aok hlt86)) rfl ?_; clear hE a; intro a hE
          refine WL.vS hS hE (runs_plain rfl) (Gives.loadA hE rfl (fun w h => hat101 w _ h) ty37) rfl ?_; clear hE a; intro a hE
          refine WL.alloc hE hS (runs_plain rfl) zr37 rfl ?_; clear hE hS a w; intro b102 a w hE hS
          refine WL.vS hS hE (runs_plain rfl) (Gives.p hE rfl) rfl ?_; clear hE a; intro a hE
          refine WL.storeI hE hS 0 rfl (PlanRule.cells x83) (runs_plain rfl) rfl rfl rfl ty37 rfl rfl rfl rfl ?_; clear hE hS a w; intro a w hE hS
          refine WL.nil ?_
          refine W.seq ?_
          refine W.seq ?_
          refine W.region ?_
          refine WL.vS hS hE (runs_plain rfl) (Gives.p hE rfl) rfl ?_; clear hE a; intro a hE
          refine WL.vS hS hE (runs_plain rfl) (Gives.nilOk hE rfl) rfl ?_; clear hE a; intro a hE
          refine WL.vS hS hE (runs_plain rfl) (Gives.fld hE rfl fl80_4) rfl ?_; clear hE a; intro a hE
          refine WL.vS hS hE (runs_plain rfl) (Gives.loadB hE 3 rfl rfl rfl ty71) rfl ?_; clear hE a; intro a hE
          refine WL.vS hS hE (runs_plain rfl) (Gives.p hE rfl) rfl ?_; clear hE a; intro a hE
          obtain ⟨x103, hx104, hq80⟩ := bindS hq80
          obtain ⟨hi105, hlt106, hy107⟩ := gx_some hx104
          obtain ⟨vs108, hl109, hR110, hd111, hget112⟩ := h_v1.at hy107
          subst hR110
          refine WL.vS hS hE (runs_plain rfl) (Gives.idx hE ((((k82 : Nat) : Int)).toNat) rfl rfl sl71 hi105 (by omega) (hS.vecAok 5 rfl (by omega : (((k82 : Nat) : Int)).toNat < y0_6.length))) rfl ?_; clear hE a; intro a hE
          refine WL.vS hS hE (runs_plain rfl) (Gives.load1 hE rfl (fun w h => St.vecSees h 5 rfl ((((k82 : Nat) : Int)).toNat * 1) _ hget112) ty4) rfl ?_; clear hE a; intro a hE
          refine WL.vS hS hE (runs_plain rfl) (Gives.p hE rfl) rfl ?_; clear hE a; intro a hE
          refine WL.nil ?_
          refine W.cond hE rfl (fun hc113 => ?_) (fun hc113 => ?_)
          · replace hq80 := iteT hc113 hq80
            refine W.exit rfl ?_
            refine W.region ?_
            refine WL.vS hS hE (runs_plain rfl) (Gives.inc hE rfl (by have := h_y0_2.small; omega)) rfl ?_; clear hE a; intro a hE
            refine WL.vS hS hE (runs_plain rfl) (Gives.p hE rfl) rfl ?_; clear hE a; intro a hE
            refine WL.nil ?_
            replace hS := hS.tail
            subst hK97
            exact ⟨rest84.length, Nat.lt_succ_self _, rest84, k82 + 1, q91, q92, q96, a93, c94, s89, rfl, hd85, hle90, hq80, h95, hE.pick _ ⟨rfl, rfl, rfl, rfl, rfl, rfl, rfl, trivial⟩, hS⟩
          · replace hq80 := iteF hc113 hq80
            refine W.skip ?_
            refine W.seq ?_
            refine W.region ?_
            refine WL.vS hS hE (runs_plain rfl) (Gives.p hE rfl) rfl ?_; clear hE a; intro a hE
            refine WL.vS hS hE (runs_plain rfl) (Gives.p hE rfl) rfl ?_; clear hE a; intro a hE
            refine WL.vS hS hE (runs_plain rfl) (Gives.loadBA hE 0 rfl rfl ty37) rfl ?_; clear hE a; intro a hE
            obtain ⟨q114, hq115, hq80⟩ := bindS hq80
            replace hS := hS.front 5 rfl
            replace hS := hS.front 5 rfl
            replace hS := hS.front 4 rfl
            replace hS := hS.front 4 rfl
            replace hS := hS.front 5 rfl
            have hc_ := PlanSearchchoices_v1_ok hS h1 h_y0_2 h_v0 (rfl) h_v1 (rfl) hq115
            refine WL.fnq hE (hc_) (runs_plain rfl) bd82 rfl rfl rfl ?_
            clear hE hS hc_; rintro e w ⟨a116, c117, n118, cs119, rfl, h120, rfl, hS⟩; refine ⟨_, rfl, ?_⟩; clear a; intro a hE
            refine WL.vS hS hE (runs_plain rfl) (Gives.p hE rfl) rfl ?_; clear hE a; intro a hE
            refine WL.nil ?_
            refine W.seq ?_
            refine W.seq ?_
            obtain ⟨q123, hq122, hq80⟩ := bndS hq80
            refine W.cut (fun a w => ∃ (q126 : Bool), q126 = q123 ∧ Rep a 142 [(0, .pointer (some ⟨pb0, 0, none⟩)), (1, .pointer a1), (4, .int .i64 q91), (5, .slice a93 q92.length c94), (6, .int .i64 ((k82 : Nat) : Int)), (8, .slice a116 q114.length c117), (24, .slice a_y0_2 y0_2.length c_y0_2), (25, .int .i64 ((y0_2).length : Int)), (26, .int .i64 ((k82 : Nat) : Int)), (51, .bool q126)] ∧ St w s89 (vecC 3 1 a116 c117 q114.length cs119 :: pt pb0 (.cells #[.int .i64 y0_0, .int .i64 y0_1, .slice a_y0_2 y0_2.length c_y0_2, .func (.func 71) #[] #[.pointer (some ⟨pb1, 0, none⟩), .pointer (some ⟨pb2, 0, none⟩)], .func (.func 70) #[] #[.pointer (some ⟨pb1, 0, none⟩), .pointer (some ⟨pb2, 0, none⟩)], .slice a_v0 y0_5.length c_v0, .slice a_v1 y0_6.length c_v1] 80 (0, 0)) :: pt pb1 (.cells #[.int .i64 y1] 3 (0, 0)) :: pt pb2 (.cells #[.int .i64 q96] 3 (0, 0)) :: vecC 3 1 a_v0 c_v0 y0_5.length cs_v0 :: vecC 4 1 a_v1 c_v1 y0_6.length cs_v1 :: pt b102 (.cells (PlanRule.cells x83).toArray 37 (0, 0)) :: R)) ?_ ?_
            · refine W.gen fun K127 hK127 => ?_
              refine W.region ?_
              refine WL.vS hS hE (runs_plain rfl) (Gives.p hE rfl) rfl ?_; clear hE a; intro a hE
              refine WL.vS hS hE (runs_plain rfl) (Gives.p hE rfl) rfl ?_; clear hE a; intro a hE
              refine WL.vS hS hE (runs_plain rfl) (Gives.p hE rfl) rfl ?_; clear hE a; intro a hE
              rcases Bool.eq_false_or_eq_true (decide (q91 < 0)) with hg128 | hg128
              · replace hq122 := iteT hg128 hq122
                refine WL.no hE (runs_not hE rfl rfl rfl (by rw [hg128]; decide)) rfl ?_; clear hE a; intro a hE
                refine WL.no hE (runs_not hE rfl rfl rfl (by rw [hg128]; decide)) rfl ?_; clear hE a; intro a hE
                refine WL.no hE (runs_not hE rfl rfl rfl (by rw [hg128]; decide)) rfl ?_; clear hE a; intro a hE
                refine WL.no hE (runs_not hE rfl rfl rfl (by rw [hg128]; decide)) rfl ?_; clear hE a; intro a hE
                refine WL.no hE (runs_not hE rfl rfl rfl (by rw [hg128]; decide)) rfl ?_; clear hE a; intro a hE
                refine WL.vS hS hE (runs_plain rfl) (Gives.pickT hE rfl hg128 rfl) rfl ?_; clear hE a; intro a hE
                refine WL.nil ?_
                subst hK127
                exact ⟨true, hq122, hE.pick _ ⟨rfl, rfl, rfl, rfl, rfl, rfl, rfl, rfl, rfl, rfl, trivial⟩, hS⟩
              · replace hq122 := iteF hg128 hq122
                refine WL.vS hS hE (runs_if hE rfl rfl rfl hg128) (Gives.p hE rfl) rfl ?_; clear hE a; intro a hE
                refine WL.vS hS hE (runs_if hE rfl rfl rfl hg128) (Gives.len hE rfl sl29) rfl ?_; clear hE a; intro a hE
                refine WL.vS hS hE (runs_if hE rfl rfl rfl hg128) (Gives.p hE rfl) rfl ?_; clear hE a; intro a hE
                refine WL.vS hS hE (runs_if hE rfl rfl rfl hg128) (Gives.len hE rfl sl29) rfl ?_; clear hE a; intro a hE
                refine WL.vS hS hE (runs_if hE rfl rfl rfl hg128) (Gives.p hE rfl) rfl ?_; clear hE a; intro a hE
                refine WL.vS hS hE (runs_plain rfl) (Gives.pickF hE rfl hg128 rfl) rfl ?_; clear hE a; intro a hE
                refine WL.nil ?_
                subst hK127
                exact ⟨decide (((q114.length : Nat) : Int) < ((q92).length : Int)), hq122, hE.pick _ ⟨rfl, rfl, rfl, rfl, rfl, rfl, rfl, rfl, rfl, rfl, trivial⟩, hS⟩
            · clear hE hS a w; rintro a w ⟨q126, rfl, hE, hS⟩
              have hF := hS.fixD RI.mono 0 rfl h120 rfl; clear hS; obtain ⟨s129, hle130, hS, h131⟩ := hF
              replace h1 := Pt.mono RA.mono hle130 h1
              replace h95 := Sl.mono RI.mono hle130 h95
              replace h_y0_2 := Sl.mono RPlanRule.mono hle130 h_y0_2
              replace h_v0 := Ev.mono RI.mono hle130 h_v0
              replace h_v1 := Ev.mono RB.mono hle130 h_v1
              obtain ⟨q133, hq132, hq80⟩ := bndS hq80
              refine W.cut (fun a w => ∃ (q136 : Int), ∃ (q137 : List Int), ∃ (a138 : Option Addr), ∃ (c139 : Nat), (q136, q137) = q133 ∧ Sl 1 (RI .i64) s129 a138 c139 q137 ∧ Rep a 142 [(0, .pointer (some ⟨pb0, 0, none⟩)), (1, .pointer a1), (4, .int .i64 q136), (5, .slice a138 q137.length c139), (8, .slice a116 q114.length c117), (24, .slice a_y0_2 y0_2.length c_y0_2), (25, .int .i64 ((y0_2).length : Int)), (26, .int .i64 ((k82 : Nat) : Int))] ∧ St w s129 (pt pb0 (.cells #[.int .i64 y0_0, .int .i64 y0_1, .slice a_y0_2 y0_2.length c_y0_2, .func (.func 71) #[] #[.pointer (some ⟨pb1, 0, none⟩), .pointer (some ⟨pb2, 0, none⟩)], .func (.func 70) #[] #[.pointer (some ⟨pb1, 0, none⟩), .pointer (some ⟨pb2, 0, none⟩)], .slice a_v0 y0_5.length c_v0, .slice a_v1 y0_6.length c_v1] 80 (0, 0)) :: pt pb1 (.cells #[.int .i64 y1] 3 (0, 0)) :: pt pb2 (.cells #[.int .i64 q96] 3 (0, 0)) :: vecC 3 1 a_v0 c_v0 y0_5.length cs_v0 :: vecC 4 1 a_v1 c_v1 y0_6.length cs_v1 :: pt b102 (.cells (PlanRule.cells x83).toArray 37 (0, 0)) :: R)) ?_ ?_
              · refine W.gen fun K141 hK141 => ?_
                refine W.cond hE rfl (fun hc142 => ?_) (fun hc142 => ?_)
                · replace hq132 := iteT hc142 hq132
                  refine W.region ?_
                  refine WL.vS hS hE (runs_plain rfl) (Gives.p hE rfl) rfl ?_; clear hE a; intro a hE
                  refine WL.vS hS hE (runs_plain rfl) (Gives.p hE rfl) rfl ?_; clear hE a; intro a hE
                  refine WL.vS hS hE (runs_plain rfl) (Gives.p hE rfl) rfl ?_; clear hE a; intro a hE
                  refine WL.vS hS hE (runs_plain rfl) (Gives.p hE rfl) rfl ?_; clear hE a; intro a hE
                  refine WL.nil ?_
                  subst hK141
                  exact ⟨((k82 : Nat) : Int), q114, a116, c117, hq132, h131, hE.pick _ ⟨rfl, rfl, rfl, rfl, rfl, rfl, rfl, rfl, trivial⟩, hS⟩
                · replace hq132 := iteF hc142 hq132
                  refine W.skip ?_
                  subst hK141
                  exact ⟨q91, q92, a93, c94, hq132, h95, hE.pick _ ⟨rfl, rfl, rfl, rfl, rfl, rfl, rfl, rfl, trivial⟩, hS⟩
              · clear hE hS a w; rintro a w ⟨q136, q137, a138, c139, rfl, h140, hE, hS⟩
                dsimp only at hq80
                refine W.seq ?_
                refine W.region ?_
                refine WL.vS hS hE (runs_plain rfl) (Gives.p hE rfl) rfl ?_; clear hE a; intro a hE
                refine WL.vS hS hE (runs_plain rfl) (Gives.len hE rfl sl29) rfl ?_; clear hE a; intro a hE
                refine WL.vS hS hE (runs_plain rfl) (Gives.p hE rfl) rfl ?_; clear hE a; intro a hE
                refine WL.nil ?_
                refine W.cond hE rfl (fun hc143 => ?_) (fun hc143 => ?_)
                · replace hq80 := iteT hc143 hq80
                  refine W.ret ?_
                  subst hK97
                  rw [← Option.some.inj hq80] at hr
                  dsimp only at hr
                  refine finG (fn := Try.f54) (rs := []) (vs := []) hE rfl trivial ?_
                  obtain rfl := Option.some.inj hr
                  replace hS := hS.dropAt 5
                  exact ⟨cs_v0, cs_v1, s129, rfl, (Sg.Le.trans hle90 hle130), h_v0, (rfl), h_v1, (rfl), hS⟩
                · replace hq80 := iteF hc143 hq80
                  refine W.skip ?_
                  refine W.region ?_
                  refine WL.vS hS hE (runs_plain rfl) (Gives.inc hE rfl (by have := h_y0_2.small; omega)) rfl ?_; clear hE a; intro a hE
                  refine WL.vS hS hE (runs_plain rfl) (Gives.p hE rfl) rfl ?_; clear hE a; intro a hE
                  refine WL.nil ?_
                  replace hS := hS.dropAt 5
                  replace hS := hS.front 4 rfl
                  replace hS := hS.front 4 rfl
                  replace hS := hS.front 2 rfl
                  replace hS := hS.front 4 rfl
                  replace hS := hS.front 4 rfl
                  subst hK97
                  exact ⟨rest84.length, Nat.lt_succ_self _, rest84, k82 + 1, q136, q137, q96, a138, c139, s129, rfl, hd85, (Sg.Le.trans hle90 hle130), hq80, h140, hE.pick _ ⟨rfl, rfl, rfl, rfl, rfl, rfl, rfl, trivial⟩, hS⟩
      · clear hE hS a w; rintro a w ⟨q91, q92, q96, a93, c94, s89, hle90, rfl, h95, hE, hS⟩
        dsimp only at hr
        replace h1 := Pt.mono RA.mono hle90 h1
        replace h_y0_2 := Sl.mono RPlanRule.mono hle90 h_y0_2
        replace h_v0 := Ev.mono RI.mono hle90 h_v0
        replace h_v1 := Ev.mono RB.mono hle90 h_v1
        refine W.seq ?_
        refine W.seq ?_
        refine W.region ?_
        refine WL.vS hS hE (runs_plain rfl) (Gives.p hE rfl) rfl ?_; clear hE a; intro a hE
        refine WL.vS hS hE (runs_plain rfl) (Gives.p hE rfl) rfl ?_; clear hE a; intro a hE
        refine WL.nil ?_
        refine W.cond hE rfl (fun hc144 => ?_) (fun hc144 => ?_)
        · replace hr := iteT hc144 hr
          refine W.seq ?_
          refine W.gen fun K145 hK145 => ?_
          refine W.regionE (sel (fun w => St w s89 (pt pb1 (.cells #[.int .i64 y1] 3 (0, 0)) :: pt pb2 (.cells #[.int .i64 q96] 3 (0, 0)) :: pt pb0 (.cells #[.int .i64 y0_0, .int .i64 y0_1, .slice a_y0_2 y0_2.length c_y0_2, .func (.func 71) #[] #[.pointer (some ⟨pb1, 0, none⟩), .pointer (some ⟨pb2, 0, none⟩)], .func (.func 70) #[] #[.pointer (some ⟨pb1, 0, none⟩), .pointer (some ⟨pb2, 0, none⟩)], .slice a_v0 y0_5.length c_v0, .slice a_v1 y0_6.length c_v1] 80 (0, 0)) :: vecC 3 1 a_v0 c_v0 y0_5.length cs_v0 :: vecC 4 1 a_v1 c_v1 y0_6.length cs_v1 :: R)) (fun w => St w s89 (pt pb1 (.cells #[.int .i64 y1] 3 (0, 0)) :: pt pb0 (.cells #[.int .i64 y0_0, .int .i64 y0_1, .slice a_y0_2 y0_2.length c_y0_2, .func (.func 71) #[] #[.pointer (some ⟨pb1, 0, none⟩), .pointer (some ⟨pb2, 0, none⟩)], .func (.func 70) #[] #[.pointer (some ⟨pb1, 0, none⟩), .pointer (some ⟨pb2, 0, none⟩)], .slice a_v0 y0_5.length c_v0, .slice a_v1 y0_6.length c_v1] 80 (0, 0)) :: vecC 3 1 a_v0 c_v0 y0_5.length cs_v0 :: vecC 4 1 a_v1 c_v1 y0_6.length cs_v1 :: R))) (fun b i => cond b ([0, 1, 2, 3, 4, 5, 6, 7, 8].contains i) ([0, 1, 2, 3, 4, 5, 6, 7, 8, 9].contains i)) mixed ?_
          replace hS := hS.drew
          refine Rg.takeP (i := 0) hE rfl (by kernel_rfl) (runs_plain rfl) (Gives.p hE rfl) rfl (tw_sel (fun _ => hS) (fun _ => (hS.dropAt 1))) ?_; clear hE a; intro a hE
          have hT := tw_sel (A := fun w => St w s89 (pt pb1 (.cells #[.int .i64 y1] 3 (0, 0)) :: pt pb2 (.cells #[.int .i64 q96] 3 (0, 0)) :: pt pb0 (.cells #[.int .i64 y0_0, .int .i64 y0_1, .slice a_y0_2 y0_2.length c_y0_2, .func (.func 71) #[] #[.pointer (some ⟨pb1, 0, none⟩), .pointer (some ⟨pb2, 0, none⟩)], .func (.func 70) #[] #[.pointer (some ⟨pb1, 0, none⟩), .pointer (some ⟨pb2, 0, none⟩)], .slice a_v0 y0_5.length c_v0, .slice a_v1 y0_6.length c_v1] 80 (0, 0)) :: vecC 3 1 a_v0 c_v0 y0_5.length cs_v0 :: vecC 4 1 a_v1 c_v1 y0_6.length cs_v1 :: R)) (B := fun w => St w s89 (pt pb1 (.cells #[.int .i64 y1] 3 (0, 0)) :: pt pb0 (.cells #[.int .i64 y0_0, .int .i64 y0_1, .slice a_y0_2 y0_2.length c_y0_2, .func (.func 71) #[] #[.pointer (some ⟨pb1, 0, none⟩), .pointer (some ⟨pb2, 0, none⟩)], .func (.func 70) #[] #[.pointer (some ⟨pb1, 0, none⟩), .pointer (some ⟨pb2, 0, none⟩)], .slice a_v0 y0_5.length c_v0, .slice a_v1 y0_6.length c_v1] 80 (0, 0)) :: vecC 3 1 a_v0 c_v0 y0_5.length cs_v0 :: vecC 4 1 a_v1 c_v1 y0_6.length cs_v1 :: R)) (w := _) (x := true) (y := true) (fun _ => hS) (fun _ => (hS.dropAt 1))
          have hF := hS; replace hS := (hS.dropAt 1)
          refine Rg.take (i := 1) false rfl hE rfl (by kernel_rfl) (runs_plain rfl) (Gives.nilOk hE rfl) rfl hT ?_; clear hE a; intro a hE
          replace hS := hF; clear hF hT
          refine Rg.takeP (i := 2) hE rfl (by kernel_rfl) (runs_plain rfl) (Gives.fld hE rfl fl80_1) rfl (tw_sel (fun _ => hS) (fun _ => (hS.dropAt 1))) ?_; clear hE a; intro a hE
          have hT := tw_sel (A := fun w => St w s89 (pt pb1 (.cells #[.int .i64 y1] 3 (0, 0)) :: pt pb2 (.cells #[.int .i64 q96] 3 (0, 0)) :: pt pb0 (.cells #[.int .i64 y0_0, .int .i64 y0_1, .slice a_y0_2 y0_2.length c_y0_2, .func (.func 71) #[] #[.pointer (some ⟨pb1, 0, none⟩), .pointer (some ⟨pb2, 0, none⟩)], .func (.func 70) #[] #[.pointer (some ⟨pb1, 0, none⟩), .pointer (some ⟨pb2, 0, none⟩)], .slice a_v0 y0_5.length c_v0, .slice a_v1 y0_6.length c_v1] 80 (0, 0)) :: vecC 3 1 a_v0 c_v0 y0_5.length cs_v0 :: vecC 4 1 a_v1 c_v1 y0_6.length cs_v1 :: R)) (B := fun w => St w s89 (pt pb1 (.cells #[.int .i64 y1] 3 (0, 0)) :: pt pb0 (.cells #[.int .i64 y0_0, .int .i64 y0_1, .slice a_y0_2 y0_2.length c_y0_2, .func (.func 71) #[] #[.pointer (some ⟨pb1, 0, none⟩), .pointer (some ⟨pb2, 0, none⟩)], .func (.func 70) #[] #[.pointer (some ⟨pb1, 0, none⟩), .pointer (some ⟨pb2, 0, none⟩)], .slice a_v0 y0_5.length c_v0, .slice a_v1 y0_6.length c_v1] 80 (0, 0)) :: vecC 3 1 a_v0 c_v0 y0_5.length cs_v0 :: vecC 4 1 a_v1 c_v1 y0_6.length cs_v1 :: R)) (w := _) (x := true) (y := true) (fun _ => hS) (fun _ => (hS.dropAt 1))
          have hF := hS; replace hS := hS
          refine Rg.take (i := 3) true rfl hE rfl (by kernel_rfl) (runs_plain rfl) (Gives.loadB hE 2 rfl rfl rfl ty77) rfl hT ?_; clear hE a; intro a hE
          replace hS := hF; clear hF hT
          refine Rg.takeP (i := 4) hE rfl (by kernel_rfl) (runs_plain rfl) (Gives.p hE rfl) rfl (tw_sel (fun _ => hS) (fun _ => (hS.dropAt 1))) ?_; clear hE a; intro a hE
          refine Rg.takeP (i := 5) hE rfl (by kernel_rfl) (runs_plain rfl) (Gives.p hE rfl) rfl (tw_sel (fun _ => hS) (fun _ => (hS.dropAt 1))) ?_; clear hE a; intro a hE
          have hT := tw_sel (A := fun w => St w s89 (pt pb1 (.cells #[.int .i64 y1] 3 (0, 0)) :: pt pb2 (.cells #[.int .i64 q96] 3 (0, 0)) :: pt pb0 (.cells #[.int .i64 y0_0, .int .i64 y0_1, .slice a_y0_2 y0_2.length c_y0_2, .func (.func 71) #[] #[.pointer (some ⟨pb1, 0, none⟩), .pointer (some ⟨pb2, 0, none⟩)], .func (.func 70) #[] #[.pointer (some ⟨pb1, 0, none⟩), .pointer (some ⟨pb2, 0, none⟩)], .slice a_v0 y0_5.length c_v0, .slice a_v1 y0_6.length c_v1] 80 (0, 0)) :: vecC 3 1 a_v0 c_v0 y0_5.length cs_v0 :: vecC 4 1 a_v1 c_v1 y0_6.length cs_v1 :: R)) (B := fun w => St w s89 (pt pb1 (.cells #[.int .i64 y1] 3 (0, 0)) :: pt pb0 (.cells #[.int .i64 y0_0, .int .i64 y0_1, .slice a_y0_2 y0_2.length c_y0_2, .func (.func 71) #[] #[.pointer (some ⟨pb1, 0, none⟩), .pointer (some ⟨pb2, 0, none⟩)], .func (.func 70) #[] #[.pointer (some ⟨pb1, 0, none⟩), .pointer (some ⟨pb2, 0, none⟩)], .slice a_v0 y0_5.length c_v0, .slice a_v1 y0_6.length c_v1] 80 (0, 0)) :: vecC 3 1 a_v0 c_v0 y0_5.length cs_v0 :: vecC 4 1 a_v1 c_v1 y0_6.length cs_v1 :: R)) (w := _) (x := true) (y := true) (fun _ => hS) (fun _ => (hS.dropAt 1))
          have hF := hS; replace hS := (hS.dropAt 1)
          refine Rg.take (i := 6) false rfl hE rfl (by kernel_rfl) (runs_plain rfl) (Gives.nilOk hE rfl) rfl hT ?_; clear hE a; intro a hE
          replace hS := hF; clear hF hT
          refine Rg.takeP (i := 7) hE rfl (by kernel_rfl) (runs_plain rfl) (Gives.fld hE rfl fl80_3) rfl (tw_sel (fun _ => hS) (fun _ => (hS.dropAt 1))) ?_; clear hE a; intro a hE
          have hT := tw_sel (A := fun w => St w s89 (pt pb1 (.cells #[.int .i64 y1] 3 (0, 0)) :: pt pb2 (.cells #[.int .i64 q96] 3 (0, 0)) :: pt pb0 (.cells #[.int .i64 y0_0, .int .i64 y0_1, .slice a_y0_2 y0_2.length c_y0_2, .func (.func 71) #[] #[.pointer (some ⟨pb1, 0, none⟩), .pointer (some ⟨pb2, 0, none⟩)], .func (.func 70) #[] #[.pointer (some ⟨pb1, 0, none⟩), .pointer (some ⟨pb2, 0, none⟩)], .slice a_v0 y0_5.length c_v0, .slice a_v1 y0_6.length c_v1] 80 (0, 0)) :: vecC 3 1 a_v0 c_v0 y0_5.length cs_v0 :: vecC 4 1 a_v1 c_v1 y0_6.length cs_v1 :: R)) (B := fun w => St w s89 (pt pb1 (.cells #[.int .i64 y1] 3 (0, 0)) :: pt pb0 (.cells #[.int .i64 y0_0, .int .i64 y0_1, .slice a_y0_2 y0_2.length c_y0_2, .func (.func 71) #[] #[.pointer (some ⟨pb1, 0, none⟩), .pointer (some ⟨pb2, 0, none⟩)], .func (.func 70) #[] #[.pointer (some ⟨pb1, 0, none⟩), .pointer (some ⟨pb2, 0, none⟩)], .slice a_v0 y0_5.length c_v0, .slice a_v1 y0_6.length c_v1] 80 (0, 0)) :: vecC 3 1 a_v0 c_v0 y0_5.length cs_v0 :: vecC 4 1 a_v1 c_v1 y0_6.length cs_v1 :: R)) (w := _) (x := true) (y := true) (fun _ => hS) (fun _ => (hS.dropAt 1))
          have hF := hS; replace hS := hS
          refine Rg.take (i := 8) true rfl hE rfl (by kernel_rfl) (runs_plain rfl) (Gives.loadB hE 2 rfl rfl rfl ty29) rfl hT ?_; clear hE a; intro a hE
          replace hS := hF; clear hF hT
          refine Rg.one (i := 9) false true rfl (by kernel_rfl) (by kernel_rfl) (by kernel_rfl) ?_
          obtain ⟨q146, hq147, hr⟩ := bindS hr
          have hF := hS.lendV RI.mono 3 rfl h_v0 (rfl); clear hS; obtain ⟨t148, hle149, hS, hs150, bk151⟩ := hF
          have hc_ := Plansolve_2_v1_ok hS (Pt.mono RA.mono hle149 h1) hs150 hq147
          refine WL.fnw hE (hc_) rfl (runs_plain rfl) bd71 rfl rfl rfl ?_
          clear hE hS hc_; rintro e w ⟨rfl, hS⟩; refine ⟨_, rfl, ?_⟩; clear a; intro a hE
          replace hS := bk151 _ _ hS
          refine WL.nil ?_
          refine ⟨⟨fun h => absurd h (by decide), fun _ => (St.front (St.front (St.front (St.front (hS.dropAt 2) 3 rfl) 1 rfl) 3 rfl) 3 rfl)⟩, ?_⟩
          refine Rg.done (by kernel_rfl) ?_
          subst hK145
          refine W.ret ?_
          refine finG (fn := Try.f54) (rs := []) (vs := []) hE rfl trivial ?_
          obtain rfl := Option.some.inj hr
          replace hS := hS.front 4 rfl
          replace hS := hS.front 1 rfl
          replace hS := hS.front 3 rfl
          replace hS := hS.front 3 rfl
          replace hS := hS.front 4 rfl
          exact ⟨cs_v0, cs_v1, s89, rfl, hle90, h_v0, (rfl), h_v1, (rfl), hS⟩
        · replace hr := iteF hc144 hr
          refine W.skip ?_
          refine W.seq ?_
          refine W.region ?_
          refine WL.vS hS hE (runs_plain rfl) (Gives.p hE rfl) rfl ?_; clear hE a; intro a hE
          refine WL.vS hS hE (runs_plain rfl) (Gives.nilOk hE rfl) rfl ?_; clear hE a; intro a hE
          refine WL.vS hS hE (runs_plain rfl) (Gives.fld hE rfl fl80_0) rfl ?_; clear hE a; intro a hE
          refine WL.vS hS hE (runs_plain rfl) (Gives.fld hE rfl fl24_2) rfl ?_; clear hE a; intro a hE
          refine WL.vS hS hE (runs_plain rfl) (Gives.loadB hE 2 rfl rfl rfl ty22) rfl ?_; clear hE a; intro a hE
          refine WL.vS hS hE (runs_plain rfl) (Gives.p hE rfl) rfl ?_; clear hE a; intro a hE
          obtain ⟨x152, hx153, hr⟩ := bindS hr
          obtain ⟨hi154, hlt155, hy156⟩ := gx_some hx153
          obtain ⟨cs157, hl158, hR159, hat160⟩ := h_y0_2.at hy156
          subst hR159
          refine WL.vS hS hE (runs_plain rfl) (Gives.idx hE (q91).toNat rfl rfl sl22 hi154 hlt155 (h_y0_2.aok hlt155)) rfl ?_; clear hE a; intro a hE
          refine WL.vS hS hE (runs_plain rfl) (Gives.loadA hE rfl (fun w h => hat160 w _ h) ty37) rfl ?_; clear hE a; intro a hE
          refine WL.alloc hE hS (runs_plain rfl) zr37 rfl ?_; clear hE hS a w; intro b161 a w hE hS
          refine WL.storeI hE hS 0 rfl (PlanRule.cells x152) (runs_plain rfl) rfl rfl rfl ty37 rfl rfl rfl rfl ?_; clear hE hS a w; intro a w hE hS
          refine WL.nil ?_
          refine W.seq ?_
          refine W.region ?_
          refine WL.vS hS hE (runs_plain rfl) (Gives.p hE rfl) rfl ?_; clear hE a; intro a hE
          refine WL.vS hS hE (runs_plain rfl) (Gives.nilOk hE rfl) rfl ?_; clear hE a; intro a hE
          refine WL.vS hS hE (runs_plain rfl) (Gives.fld hE rfl fl80_4) rfl ?_; clear hE a; intro a hE
          refine WL.vS hS hE (runs_plain rfl) (Gives.loadB hE 3 rfl rfl rfl ty71) rfl ?_; clear hE a; intro a hE
          refine WL.vS hS hE (runs_plain rfl) (Gives.p hE rfl) rfl ?_; clear hE a; intro a hE
          obtain ⟨_, hx163, hr⟩ := bindS hr
          obtain ⟨h164, h165⟩ := ix_some hx163
          refine WL.vS hS hE (runs_plain rfl) (Gives.idx hE ((q91).toNat) rfl rfl sl71 h164 (by omega) (hS.vecAok 5 rfl (by omega : (q91).toNat < y0_6.length))) rfl ?_; clear hE a; intro a hE
          obtain ⟨x167, hx168, hr⟩ := bindS hr
          refine WL.setD hE hS 5 rfl (runs_plain rfl) rfl rfl (vs := [.bool false]) rfl ty4 rfl rfl rfl h_v1 (rfl) (sx_some hx168).1 hx168 rfl rfl ?_; clear hE hS a w; intro cs169 a w h170 hn171 hE hS
          refine WL.nil ?_
          refine W.seq ?_
          refine W.seq ?_
          refine W.region ?_
          refine WL.vS hS hE (runs_plain rfl) (Gives.p hE rfl) rfl ?_; clear hE a; intro a hE
          refine WL.vS hS hE (runs_plain rfl) (Gives.len hE rfl sl29) rfl ?_; clear hE a; intro a hE
          refine WL.vS hS hE (runs_plain rfl) (Gives.p hE rfl) rfl ?_; clear hE a; intro a hE
          refine WL.nil ?_
          obtain ⟨q173, hq172, hr⟩ := bindS hr
          refine W.cut (fun a w => ∃ (q183 : List Int), ∃ (q189 : List Bool), ∃ (q195 : Int), ∃ (cs187 : List Value), ∃ (cs193 : List Value), ∃ (s181 : Sg), s89.Le s181 ∧ (q183, q189, q195) = q173 ∧ Ev 1 (RI .i64) s181 cs187 q183 ∧ q183.length = y0_5.length ∧ Ev 1 RB s181 cs193 q189 ∧ q189.length = y0_6.length ∧ Rep a 142 [(0, .pointer (some ⟨pb0, 0, none⟩)), (4, .int .i64 q91)] ∧ St w s181 (pt b161 (.cells (PlanRule.cells x152).toArray 37 (0, 0)) :: pt pb1 (.cells #[.int .i64 y1] 3 (0, 0)) :: pt pb2 (.cells #[.int .i64 q195] 3 (0, 0)) :: pt pb0 (.cells #[.int .i64 y0_0, .int .i64 y0_1, .slice a_y0_2 y0_2.length c_y0_2, .func (.func 71) #[] #[.pointer (some ⟨pb1, 0, none⟩), .pointer (some ⟨pb2, 0, none⟩)], .func (.func 70) #[] #[.pointer (some ⟨pb1, 0, none⟩), .pointer (some ⟨pb2, 0, none⟩)], .slice a_v0 y0_5.length c_v0, .slice a_v1 y0_6.length c_v1] 80 (0, 0)) :: vecC 3 1 a_v0 c_v0 y0_5.length cs187 :: vecC 4 1 a_v1 c_v1 y0_6.length cs193 :: R)) ?_ ?_
          · refine W.block ?_
            refine W.loop (fun m a w => ∃ (rest176 : List Int) (k174 : Nat), ∃ (q183 : List Int), ∃ (q189 : List Bool), ∃ (q195 : Int), ∃ (cs187 : List Value), ∃ (cs193 : List Value), ∃ (s181 : Sg), rest176.length = m ∧ q92.drop k174 = rest176 ∧ s89.Le s181 ∧ PlanSearchrun_v1.loop2 x1 y0_0 y0_1 y0_2 y1 fu self_PlanSearchrun_v1 q91 x152 rest176 q183 q189 q195 = some q173 ∧ Ev 1 (RI .i64) s181 cs187 q183 ∧ q183.length = y0_5.length ∧ Ev 1 RB s181 cs193 q189 ∧ q189.length = y0_6.length ∧ Rep a 142 [(0, .pointer (some ⟨pb0, 0, none⟩)), (1, .pointer a1), (4, .int .i64 q91), (9, .pointer (some ⟨b161, 0, none⟩)), (84, .slice a93 q92.length c94), (85, .int .i64 ((q92).length : Int)), (86, .int .i64 ((k174 : Nat) : Int))] ∧ St w s181 (pt b161 (.cells (PlanRule.cells x152).toArray 37 (0, 0)) :: pt pb1 (.cells #[.int .i64 y1] 3 (0, 0)) :: pt pb2 (.cells #[.int .i64 q195] 3 (0, 0)) :: pt pb0 (.cells #[.int .i64 y0_0, .int .i64 y0_1, .slice a_y0_2 y0_2.length c_y0_2, .func (.func 71) #[] #[.pointer (some ⟨pb1, 0, none⟩), .pointer (some ⟨pb2, 0, none⟩)], .func (.func 70) #[] #[.pointer (some ⟨pb1, 0, none⟩), .pointer (some ⟨pb2, 0, none⟩)], .slice a_v0 y0_5.length c_v0, .slice a_v1 y0_6.length c_v1] 80 (0, 0)) :: vecC 3 1 a_v0 c_v0 y0_5.length cs187 :: vecC 4 1 a_v1 c_v1 y0_6.length cs193 :: R)) (m := q92.length) ⟨q92, 0, y0_5, x167, q96, cs_v0, cs169, s89, rfl, rfl, (Sg.Le.refl _), hq172, h_v0, (rfl), h170, hn171, hE.pick _ ⟨rfl, rfl, rfl, rfl, rfl, rfl, rfl, trivial⟩, hS⟩ ?_
            clear hE hS a w hq172; rintro m180 a w ⟨rest176, k174, q183, q189, q195, cs187, cs193, s181, rfl, hd177, hle182, hq172, h186, hn188, h192, hn194, hE, hS⟩
            refine W.gen fun K196 hK196 => ?_
            replace h1 := Pt.mono RA.mono hle182 h1
            replace h95 := Sl.mono RI.mono hle182 h95
            replace h_y0_2 := Sl.mono RPlanRule.mono hle182 h_y0_2
            replace h_v0 := Ev.mono RI.mono hle182 h_v0
            replace h170 := Ev.mono RB.mono hle182 h170
            rcases rest176 with _ | ⟨x175, rest176⟩
            · have hlt178 := drop_nil hd177
              refine W.seq ?_
              refine W.region ?_
              refine WL.vS hS hE (runs_plain rfl) (Gives.p hE rfl) rfl ?_; clear hE a; intro a hE
              refine WL.nil ?_
              refine W.seq ?_
              refine W.condF hE rfl (decide_eq_false (by omega)) ?_
              subst hK196
              refine W.exit rfl ?_
              exact ⟨q183, q189, q195, cs187, cs193, s181, hle182, Option.some.inj hq172, h186, hn188, h192, hn194, hE.pick _ ⟨rfl, rfl, trivial⟩, hS⟩
            · obtain ⟨hlt178, hx179, hd177⟩ := drop_cons hd177
              rw [PlanSearchrun_v1.loop2] at hq172
              refine W.seq ?_
              refine W.region ?_
              refine WL.vS hS hE (runs_plain rfl) (Gives.p hE rfl) rfl ?_; clear hE a; intro a hE
              refine WL.nil ?_
              refine W.seq ?_
              refine W.condT hE rfl (decide_eq_true (by omega)) ?_
              refine W.skip ?_
              refine W.seq ?_
              refine W.block ?_
              refine W.seq ?_
              refine W.region ?_
              obtain ⟨cs197, hl198, hR199, hat200⟩ := h95.at hx179
              subst hR199
              refine WL.vS hS hE (runs_plain rfl) (Gives.idx hE k174 rfl rfl sl29 rfl hlt178 (h95.aok hlt178)) rfl ?_; clear hE a; intro a hE
              refine WL.vS hS hE (runs_plain rfl) (Gives.load1 hE rfl (fun w h => hat200 w _ h) ty3) rfl ?_; clear hE a; intro a hE
              refine WL.vS hS hE (runs_plain rfl) (Gives.p hE rfl) rfl ?_; clear hE a; intro a hE
              refine WL.nil ?_
              refine W.seq ?_
              refine W.gen fun K201 hK201 => ?_
              refine W.regionE (sel (fun w => St w s181 (pt b161 (.cells (PlanRule.cells x152).toArray 37 (0, 0)) :: pt pb1 (.cells #[.int .i64 y1] 3 (0, 0)) :: pt pb2 (.cells #[.int .i64 q195] 3 (0, 0)) :: pt pb0 (.cells #[.int .i64 y0_0, .int .i64 y0_1, .slice a_y0_2 y0_2.length c_y0_2, .func (.func 71) #[] #[.pointer (some ⟨pb1, 0, none⟩), .pointer (some ⟨pb2, 0, none⟩)], .func (.func 70) #[] #[.pointer (some ⟨pb1, 0, none⟩), .pointer (some ⟨pb2, 0, none⟩)], .slice a_v0 y0_5.length c_v0, .slice a_v1 y0_6.length c_v1] 80 (0, 0)) :: vecC 3 1 a_v0 c_v0 y0_5.length cs187 :: vecC 4 1 a_v1 c_v1 y0_6.length cs193 :: R)) (fun w => St w s181 (pt b161 (.cells (PlanRule.cells x152).toArray 37 (0, 0)) :: pt pb1 (.cells #[.int .i64 y1] 3 (0, 0)) :: pt pb2 (.cells #[.int .i64 q195] 3 (0, 0)) :: pt pb0 (.cells #[.int .i64 y0_0, .int .i64 y0_1, .slice a_y0_2 y0_2.length c_y0_2, .func (.func 71) #[] #[.pointer (some ⟨pb1, 0, none⟩), .pointer (some ⟨pb2, 0, none⟩)], .func (.func 70) #[] #[.pointer (some ⟨pb1, 0, none⟩), .pointer (some ⟨pb2, 0, none⟩)], .slice a_v0 y0_5.length c_v0, .slice a_v1 y0_6.length c_v1] 80 (0, 0)) :: vecC 3 1 a_v0 c_v0 y0_5.length cs187 :: vecC 4 1 a_v1 c_v1 y0_6.length cs193 :: R))) (fun b i => cond b ([0, 1, 2, 3, 4, 5, 6, 7, 8, 9, 10, 11, 12, 13, 14, 15, 16, 17, 18, 19, 20, 21, 22, 23, 24, 25, 26, 27, 28, 29, 30, 31, 32, 33, 34, 35].contains i) ([0, 1, 2, 3, 4, 5, 6, 7, 8, 9, 10, 11, 12, 13, 14, 15, 16, 17, 18, 19, 20, 21, 22, 23, 24, 25, 26, 27, 28, 29, 30, 31, 32, 33, 34, 35].contains i)) mixed ?_
              replace hS := hS.drew
              refine Rg.takeP (i := 0) hE rfl (by kernel_rfl) (runs_plain rfl) (Gives.p hE rfl) rfl (tw_sel (fun _ => hS) (fun _ => hS)) ?_; clear hE a; intro a hE
              refine Rg.takeP (i := 1) hE rfl (by kernel_rfl) (runs_plain rfl) (Gives.p hE rfl) rfl (tw_sel (fun _ => hS) (fun _ => hS)) ?_; clear hE a; intro a hE
              have hT := tw_sel (A := fun w => St w s181 (pt b161 (.cells (PlanRule.cells x152).toArray 37 (0, 0)) :: pt pb1 (.cells #[.int .i64 y1] 3 (0, 0)) :: pt pb2 (.cells #[.int .i64 q195] 3 (0, 0)) :: pt pb0 (.cells #[.int .i64 y0_0, .int .i64 y0_1, .slice a_y0_2 y0_2.length c_y0_2, .func (.func 71) #[] #[.pointer (some ⟨pb1, 0, none⟩), .pointer (some ⟨pb2, 0, none⟩)], .func (.func 70) #[] #[.pointer (some ⟨pb1, 0, none⟩), .pointer (some ⟨pb2, 0, none⟩)], .slice a_v0 y0_5.length c_v0, .slice a_v1 y0_6.length c_v1] 80 (0, 0)) :: vecC 3 1 a_v0 c_v0 y0_5.length cs187 :: vecC 4 1 a_v1 c_v1 y0_6.length cs193 :: R)) (B := fun w => St w s181 (pt b161 (.cells (PlanRule.cells x152).toArray 37 (0, 0)) :: pt pb1 (.cells #[.int .i64 y1] 3 (0, 0)) :: pt pb2 (.cells #[.int .i64 q195] 3 (0, 0)) :: pt pb0 (.cells #[.int .i64 y0_0, .int .i64 y0_1, .slice a_y0_2 y0_2.length c_y0_2, .func (.func 71) #[] #[.pointer (some ⟨pb1, 0, none⟩), .pointer (some ⟨pb2, 0, none⟩)], .func (.func 70) #[] #[.pointer (some ⟨pb1, 0, none⟩), .pointer (some ⟨pb2, 0, none⟩)], .slice a_v0 y0_5.length c_v0, .slice a_v1 y0_6.length c_v1] 80 (0, 0)) :: vecC 3 1 a_v0 c_v0 y0_5.length cs187 :: vecC 4 1 a_v1 c_v1 y0_6.length cs193 :: R)) (w := _) (x := true) (y := true) (fun _ => hS) (fun _ => hS)
              have hF := hS; replace hS := hS
              refine Rg.take (i := 2) true rfl hE rfl (by kernel_rfl) (runs_plain rfl) (Gives.nilOk hE rfl) rfl hT ?_; clear hE a; intro a hE
              replace hS := hF; clear hF hT
              refine Rg.takeP (i := 3) hE rfl (by kernel_rfl) (runs_plain rfl) (Gives.fld hE rfl fl80_0) rfl (tw_sel (fun _ => hS) (fun _ => hS)) ?_; clear hE a; intro a hE
              refine Rg.takeP (i := 4) hE rfl (by kernel_rfl) (runs_plain rfl) (Gives.fld hE rfl fl24_1) rfl (tw_sel (fun _ => hS) (fun _ => hS)) ?_; clear hE a; intro a hE
              have hT := tw_sel (A := fun w => St w s181 (pt b161 (.cells (PlanRule.cells x152).toArray 37 (0, 0)) :: pt pb1 (.cells #[.int .i64 y1] 3 (0, 0)) :: pt pb2 (.cells #[.int .i64 q195] 3 (0, 0)) :: pt pb0 (.cells #[.int .i64 y0_0, .int .i64 y0_1, .slice a_y0_2 y0_2.length c_y0_2, .func (.func 71) #[] #[.pointer (some ⟨pb1, 0, none⟩), .pointer (some ⟨pb2, 0, none⟩)], .func (.func 70) #[] #[.pointer (some ⟨pb1, 0, none⟩), .pointer (some ⟨pb2, 0, none⟩)], .slice a_v0 y0_5.length c_v0, .slice a_v1 y0_6.length c_v1] 80 (0, 0)) :: vecC 3 1 a_v0 c_v0 y0_5.length cs187 :: vecC 4 1 a_v1 c_v1 y0_6.length cs193 :: R)) (B := fun w => St w s181 (pt b161 (.cells (PlanRule.cells x152).toArray 37 (0, 0)) :: pt pb1 (.cells #[.int .i64 y1] 3 (0, 0)) :: pt pb2 (.cells #[.int .i64 q195] 3 (0, 0)) :: pt pb0 (.cells #[.int .i64 y0_0, .int .i64 y0_1, .slice a_y0_2 y0_2.length c_y0_2, .func (.func 71) #[] #[.pointer (some ⟨pb1, 0, none⟩), .pointer (some ⟨pb2, 0, none⟩)], .func (.func 70) #[] #[.pointer (some ⟨pb1, 0, none⟩), .pointer (some ⟨pb2, 0, none⟩)], .slice a_v0 y0_5.length c_v0, .slice a_v1 y0_6.length c_v1] 80 (0, 0)) :: vecC 3 1 a_v0 c_v0 y0_5.length cs187 :: vecC 4 1 a_v1 c_v1 y0_6.length cs193 :: R)) (w := _) (x := true) (y := true) (fun _ => hS) (fun _ => hS)
              have hF := hS; replace hS := hS
              refine Rg.take (i := 5) true rfl hE rfl (by kernel_rfl) (runs_plain rfl) (Gives.loadB hE 3 rfl rfl rfl ty3) rfl hT ?_; clear hE a; intro a hE
              replace hS := hF; clear hF hT
              refine Rg.takeP (i := 6) hE rfl (by kernel_rfl) (runs_plain rfl) (Gives.fld hE rfl fl37_0) rfl (tw_sel (fun _ => hS) (fun _ => hS)) ?_; clear hE a; intro a hE
              have hT := tw_sel (A := fun w => St w s181 (pt b161 (.cells (PlanRule.cells x152).toArray 37 (0, 0)) :: pt pb1 (.cells #[.int .i64 y1] 3 (0, 0)) :: pt pb2 (.cells #[.int .i64 q195] 3 (0, 0)) :: pt pb0 (.cells #[.int .i64 y0_0, .int .i64 y0_1, .slice a_y0_2 y0_2.length c_y0_2, .func (.func 71) #[] #[.pointer (some ⟨pb1, 0, none⟩), .pointer (some ⟨pb2, 0, none⟩)], .func (.func 70) #[] #[.pointer (some ⟨pb1, 0, none⟩), .pointer (some ⟨pb2, 0, none⟩)], .slice a_v0 y0_5.length c_v0, .slice a_v1 y0_6.length c_v1] 80 (0, 0)) :: vecC 3 1 a_v0 c_v0 y0_5.length cs187 :: vecC 4 1 a_v1 c_v1 y0_6.length cs193 :: R)) (B := fun w => St w s181 (pt b161 (.cells (PlanRule.cells x152).toArray 37 (0, 0)) :: pt pb1 (.cells #[.int .i64 y1] 3 (0, 0)) :: pt pb2 (.cells #[.int .i64 q195] 3 (0, 0)) :: pt pb0 (.cells #[.int .i64 y0_0, .int .i64 y0_1, .slice a_y0_2 y0_2.length c_y0_2, .func (.func 71) #[] #[.pointer (some ⟨pb1, 0, none⟩), .pointer (some ⟨pb2, 0, none⟩)], .func (.func 70) #[] #[.pointer (some ⟨pb1, 0, none⟩), .pointer (some ⟨pb2, 0, none⟩)], .slice a_v0 y0_5.length c_v0, .slice a_v1 y0_6.length c_v1] 80 (0, 0)) :: vecC 3 1 a_v0 c_v0 y0_5.length cs187 :: vecC 4 1 a_v1 c_v1 y0_6.length cs193 :: R)) (w := _) (x := true) (y := true) (fun _ => hS) (fun _ => hS)
              have hF := hS; replace hS := hS
              refine Rg.take (i := 7) true rfl hE rfl (by kernel_rfl) (runs_plain rfl) (Gives.loadB hE 0 rfl rfl rfl ty3) rfl hT ?_; clear hE a; intro a hE
              replace hS := hF; clear hF hT
              refine Rg.takeP (i := 8) hE rfl (by kernel_rfl) (runs_plain rfl) (Gives.fld hE rfl fl37_1) rfl (tw_sel (fun _ => hS) (fun _ => hS)) ?_; clear hE a; intro a hE
              have hT := tw_sel (A := fun w => St w s181 (pt b161 (.cells (PlanRule.cells x152).toArray 37 (0, 0)) :: pt pb1 (.cells #[.int .i64 y1] 3 (0, 0)) :: pt pb2 (.cells #[.int .i64 q195] 3 (0, 0)) :: pt pb0 (.cells #[.int .i64 y0_0, .int .i64 y0_1, .slice a_y0_2 y0_2.length c_y0_2, .func (.func 71) #[] #[.pointer (some ⟨pb1, 0, none⟩), .pointer (some ⟨pb2, 0, none⟩)], .func (.func 70) #[] #[.pointer (some ⟨pb1, 0, none⟩), .pointer (some ⟨pb2, 0, none⟩)], .slice a_v0 y0_5.length c_v0, .slice a_v1 y0_6.length c_v1] 80 (0, 0)) :: vecC 3 1 a_v0 c_v0 y0_5.length cs187 :: vecC 4 1 a_v1 c_v1 y0_6.length cs193 :: R)) (B := fun w => St w s181 (pt b161 (.cells (PlanRule.cells x152).toArray 37 (0, 0)) :: pt pb1 (.cells #[.int .i64 y1] 3 (0, 0)) :: pt pb2 (.cells #[.int .i64 q195] 3 (0, 0)) :: pt pb0 (.cells #[.int .i64 y0_0, .int .i64 y0_1, .slice a_y0_2 y0_2.length c_y0_2, .func (.func 71) #[] #[.pointer (some ⟨pb1, 0, none⟩), .pointer (some ⟨pb2, 0, none⟩)], .func (.func 70) #[] #[.pointer (some ⟨pb1, 0, none⟩), .pointer (some ⟨pb2, 0, none⟩)], .slice a_v0 y0_5.length c_v0, .slice a_v1 y0_6.length c_v1] 80 (0, 0)) :: vecC 3 1 a_v0 c_v0 y0_5.length cs187 :: vecC 4 1 a_v1 c_v1 y0_6.length cs193 :: R)) (w := _) (x := true) (y := true) (fun _ => hS) (fun _ => hS)
              have hF := hS; replace hS := hS
              refine Rg.take (i := 9) true rfl hE rfl (by kernel_rfl) (runs_plain rfl) (Gives.loadB hE 0 rfl rfl rfl ty3) rfl hT ?_; clear hE a; intro a hE
              replace hS := hF; clear hF hT
              refine Rg.takeP (i := 10) hE rfl (by kernel_rfl) (runs_plain rfl) (Gives.fld hE rfl fl37_2) rfl (tw_sel (fun _ => hS) (fun _ => hS)) ?_; clear hE a; intro a hE
              have hT := tw_sel (A := fun w => St w s181 (pt b161 (.cells (PlanRule.cells x152).toArray 37 (0, 0)) :: pt pb1 (.cells #[.int .i64 y1] 3 (0, 0)) :: pt pb2 (.cells #[.int .i64 q195] 3 (0, 0)) :: pt pb0 (.cells #[.int .i64 y0_0, .int .i64 y0_1, .slice a_y0_2 y0_2.length c_y0_2, .func (.func 71) #[] #[.pointer (some ⟨pb1, 0, none⟩), .pointer (some ⟨pb2, 0, none⟩)], .func (.func 70) #[] #[.pointer (some ⟨pb1, 0, none⟩), .pointer (some ⟨pb2, 0, none⟩)], .slice a_v0 y0_5.length c_v0, .slice a_v1 y0_6.length c_v1] 80 (0, 0)) :: vecC 3 1 a_v0 c_v0 y0_5.length cs187 :: vecC 4 1 a_v1 c_v1 y0_6.length cs193 :: R)) (B := fun w => St w s181 (pt b161 (.cells (PlanRule.cells x152).toArray 37 (0, 0)) :: pt pb1 (.cells #[.int .i64 y1] 3 (0, 0)) :: pt pb2 (.cells #[.int .i64 q195] 3 (0, 0)) :: pt pb0 (.cells #[.int .i64 y0_0, .int .i64 y0_1, .slice a_y0_2 y0_2.length c_y0_2, .func (.func 71) #[] #[.pointer (some ⟨pb1, 0, none⟩), .pointer (some ⟨pb2, 0, none⟩)], .func (.func 70) #[] #[.pointer (some ⟨pb1, 0, none⟩), .pointer (some ⟨pb2, 0, none⟩)], .slice a_v0 y0_5.length c_v0, .slice a_v1 y0_6.length c_v1] 80 (0, 0)) :: vecC 3 1 a_v0 c_v0 y0_5.length cs187 :: vecC 4 1 a_v1 c_v1 y0_6.length cs193 :: R)) (w := _) (x := true) (y := true) (fun _ => hS) (fun _ => hS)
              have hF := hS; replace hS := hS
              refine Rg.take (i := 11) true rfl hE rfl (by kernel_rfl) (runs_plain rfl) (Gives.loadB hE 0 rfl rfl rfl ty3) rfl hT ?_; clear hE a; intro a hE
              replace hS := hF; clear hF hT
              refine Rg.takeP (i := 12) hE rfl (by kernel_rfl) (runs_plain rfl) (Gives.p hE rfl) rfl (tw_sel (fun _ => hS) (fun _ => hS)) ?_; clear hE a; intro a hE
              refine Rg.takeP (i := 13) hE rfl (by kernel_rfl) (runs_plain rfl) (Gives.p hE rfl) rfl (tw_sel (fun _ => hS) (fun _ => hS)) ?_; clear hE a; intro a hE
              have hT := tw_sel (A := fun w => St w s181 (pt b161 (.cells (PlanRule.cells x152).toArray 37 (0, 0)) :: pt pb1 (.cells #[.int .i64 y1] 3 (0, 0)) :: pt pb2 (.cells #[.int .i64 q195] 3 (0, 0)) :: pt pb0 (.cells #[.int .i64 y0_0, .int .i64 y0_1, .slice a_y0_2 y0_2.length c_y0_2, .func (.func 71) #[] #[.pointer (some ⟨pb1, 0, none⟩), .pointer (some ⟨pb2, 0, none⟩)], .func (.func 70) #[] #[.pointer (some ⟨pb1, 0, none⟩), .pointer (some ⟨pb2, 0, none⟩)], .slice a_v0 y0_5.length c_v0, .slice a_v1 y0_6.length c_v1] 80 (0, 0)) :: vecC 3 1 a_v0 c_v0 y0_5.length cs187 :: vecC 4 1 a_v1 c_v1 y0_6.length cs193 :: R)) (B := fun w => St w s181 (pt b161 (.cells (PlanRule.cells x152).toArray 37 (0, 0)) :: pt pb1 (.cells #[.int .i64 y1] 3 (0, 0)) :: pt pb2 (.cells #[.int .i64 q195] 3 (0, 0)) :: pt pb0 (.cells #[.int .i64 y0_0, .int .i64 y0_1, .slice a_y0_2 y0_2.length c_y0_2, .func (.func 71) #[] #[.pointer (some ⟨pb1, 0, none⟩), .pointer (some ⟨pb2, 0, none⟩)], .func (.func 70) #[] #[.pointer (some ⟨pb1, 0, none⟩), .pointer (some ⟨pb2, 0, none⟩)], .slice a_v0 y0_5.length c_v0, .slice a_v1 y0_6.length c_v1] 80 (0, 0)) :: vecC 3 1 a_v0 c_v0 y0_5.length cs187 :: vecC 4 1 a_v1 c_v1 y0_6.length cs193 :: R)) (w := _) (x := true) (y := true) (fun _ => hS) (fun _ => hS)
              have hF := hS; replace hS := hS
              refine Rg.take (i := 14) true rfl hE rfl (by kernel_rfl) (runs_plain rfl) (Gives.nilOk hE rfl) rfl hT ?_; clear hE a; intro a hE
              replace hS := hF; clear hF hT
              refine Rg.takeP (i := 15) hE rfl (by kernel_rfl) (runs_plain rfl) (Gives.fld hE rfl fl80_0) rfl (tw_sel (fun _ => hS) (fun _ => hS)) ?_; clear hE a; intro a hE
              refine Rg.takeP (i := 16) hE rfl (by kernel_rfl) (runs_plain rfl) (Gives.fld hE rfl fl24_0) rfl (tw_sel (fun _ => hS) (fun _ => hS)) ?_; clear hE a; intro a hE
              have hT := tw_sel (A := fun w => St w s181 (pt b161 (.cells (PlanRule.cells x152).toArray 37 (0, 0)) :: pt pb1 (.cells #[.int .i64 y1] 3 (0, 0)) :: pt pb2 (.cells #[.int .i64 q195] 3 (0, 0)) :: pt pb0 (.cells #[.int .i64 y0_0, .int .i64 y0_1, .slice a_y0_2 y0_2.length c_y0_2, .func (.func 71) #[] #[.pointer (some ⟨pb1, 0, none⟩), .pointer (some ⟨pb2, 0, none⟩)], .func (.func 70) #[] #[.pointer (some ⟨pb1, 0, none⟩), .pointer (some ⟨pb2, 0, none⟩)], .slice a_v0 y0_5.length c_v0, .slice a_v1 y0_6.length c_v1] 80 (0, 0)) :: vecC 3 1 a_v0 c_v0 y0_5.length cs187 :: vecC 4 1 a_v1 c_v1 y0_6.length cs193 :: R)) (B := fun w => St w s181 (pt b161 (.cells (PlanRule.cells x152).toArray 37 (0, 0)) :: pt pb1 (.cells #[.int .i64 y1] 3 (0, 0)) :: pt pb2 (.cells #[.int .i64 q195] 3 (0, 0)) :: pt pb0 (.cells #[.int .i64 y0_0, .int .i64 y0_1, .slice a_y0_2 y0_2.length c_y0_2, .func (.func 71) #[] #[.pointer (some ⟨pb1, 0, none⟩), .pointer (some ⟨pb2, 0, none⟩)], .func (.func 70) #[] #[.pointer (some ⟨pb1, 0, none⟩), .pointer (some ⟨pb2, 0, none⟩)], .slice a_v0 y0_5.length c_v0, .slice a_v1 y0_6.length c_v1] 80 (0, 0)) :: vecC 3 1 a_v0 c_v0 y0_5.length cs187 :: vecC 4 1 a_v1 c_v1 y0_6.length cs193 :: R)) (w := _) (x := true) (y := true) (fun _ => hS) (fun _ => hS)
              have hF := hS; replace hS := hS
              refine Rg.take (i := 17) true rfl hE rfl (by kernel_rfl) (runs_plain rfl) (Gives.loadB hE 3 rfl rfl rfl ty3) rfl hT ?_; clear hE a; intro a hE
              replace hS := hF; clear hF hT
              refine Rg.takeP (i := 18) hE rfl (by kernel_rfl) (runs_plain rfl) (Gives.p hE rfl) rfl (tw_sel (fun _ => hS) (fun _ => hS)) ?_; clear hE a; intro a hE
              refine Rg.takeP (i := 19) hE rfl (by kernel_rfl) (runs_plain rfl) (Gives.p hE rfl) rfl (tw_sel (fun _ => hS) (fun _ => hS)) ?_; clear hE a; intro a hE
              refine Rg.takeP (i := 20) hE rfl (by kernel_rfl) (runs_plain rfl) (Gives.fld hE rfl fl37_3) rfl (tw_sel (fun _ => hS) (fun _ => hS)) ?_; clear hE a; intro a hE
              have hT := tw_sel (A := fun w => St w s181 (pt b161 (.cells (PlanRule.cells x152).toArray 37 (0, 0)) :: pt pb1 (.cells #[.int .i64 y1] 3 (0, 0)) :: pt pb2 (.cells #[.int .i64 q195] 3 (0, 0)) :: pt pb0 (.cells #[.int .i64 y0_0, .int .i64 y0_1, .slice a_y0_2 y0_2.length c_y0_2, .func (.func 71) #[] #[.pointer (some ⟨pb1, 0, none⟩), .pointer (some ⟨pb2, 0, none⟩)], .func (.func 70) #[] #[.pointer (some ⟨pb1, 0, none⟩), .pointer (some ⟨pb2, 0, none⟩)], .slice a_v0 y0_5.length c_v0, .slice a_v1 y0_6.length c_v1] 80 (0, 0)) :: vecC 3 1 a_v0 c_v0 y0_5.length cs187 :: vecC 4 1 a_v1 c_v1 y0_6.length cs193 :: R)) (B := fun w => St w s181 (pt b161 (.cells (PlanRule.cells x152).toArray 37 (0, 0)) :: pt pb1 (.cells #[.int .i64 y1] 3 (0, 0)) :: pt pb2 (.cells #[.int .i64 q195] 3 (0, 0)) :: pt pb0 (.cells #[.int .i64 y0_0, .int .i64 y0_1, .slice a_y0_2 y0_2.length c_y0_2, .func (.func 71) #[] #[.pointer (some ⟨pb1, 0, none⟩), .pointer (some ⟨pb2, 0, none⟩)], .func (.func 70) #[] #[.pointer (some ⟨pb1, 0, none⟩), .pointer (some ⟨pb2, 0, none⟩)], .slice a_v0 y0_5.length c_v0, .slice a_v1 y0_6.length c_v1] 80 (0, 0)) :: vecC 3 1 a_v0 c_v0 y0_5.length cs187 :: vecC 4 1 a_v1 c_v1 y0_6.length cs193 :: R)) (w := _) (x := true) (y := true) (fun _ => hS) (fun _ => hS)
              have hF := hS; replace hS := hS
              refine Rg.take (i := 21) true rfl hE rfl (by kernel_rfl) (runs_plain rfl) (Gives.loadB hE 0 rfl rfl rfl ty3) rfl hT ?_; clear hE a; intro a hE
              replace hS := hF; clear hF hT
              refine Rg.takeP (i := 22) hE rfl (by kernel_rfl) (runs_plain rfl) (Gives.p hE rfl) rfl (tw_sel (fun _ => hS) (fun _ => hS)) ?_; clear hE a; intro a hE
              refine Rg.takeP (i := 23) hE rfl (by kernel_rfl) (runs_plain rfl) (Gives.p hE rfl) rfl (tw_sel (fun _ => hS) (fun _ => hS)) ?_; clear hE a; intro a hE
              have hT := tw_sel (A := fun w => St w s181 (pt b161 (.cells (PlanRule.cells x152).toArray 37 (0, 0)) :: pt pb1 (.cells #[.int .i64 y1] 3 (0, 0)) :: pt pb2 (.cells #[.int .i64 q195] 3 (0, 0)) :: pt pb0 (.cells #[.int .i64 y0_0, .int .i64 y0_1, .slice a_y0_2 y0_2.length c_y0_2, .func (.func 71) #[] #[.pointer (some ⟨pb1, 0, none⟩), .pointer (some ⟨pb2, 0, none⟩)], .func (.func 70) #[] #[.pointer (some ⟨pb1, 0, none⟩), .pointer (some ⟨pb2, 0, none⟩)], .slice a_v0 y0_5.length c_v0, .slice a_v1 y0_6.length c_v1] 80 (0, 0)) :: vecC 3 1 a_v0 c_v0 y0_5.length cs187 :: vecC 4 1 a_v1 c_v1 y0_6.length cs193 :: R)) (B := fun w => St w s181 (pt b161 (.cells (PlanRule.cells x152).toArray 37 (0, 0)) :: pt pb1 (.cells #[.int .i64 y1] 3 (0, 0)) :: pt pb2 (.cells #[.int .i64 q195] 3 (0, 0)) :: pt pb0 (.cells #[.int .i64 y0_0, .int .i64 y0_1, .slice a_y0_2 y0_2.length c_y0_2, .func (.func 71) #[] #[.pointer (some ⟨pb1, 0, none⟩), .pointer (some ⟨pb2, 0, none⟩)], .func (.func 70) #[] #[.pointer (some ⟨pb1, 0, none⟩), .pointer (some ⟨pb2, 0, none⟩)], .slice a_v0 y0_5.length c_v0, .slice a_v1 y0_6.length c_v1] 80 (0, 0)) :: vecC 3 1 a_v0 c_v0 y0_5.length cs187 :: vecC 4 1 a_v1 c_v1 y0_6.length cs193 :: R)) (w := _) (x := true) (y := true) (fun _ => hS) (fun _ => hS)
              have hF := hS; replace hS := hS
              refine Rg.take (i := 24) true rfl hE rfl (by kernel_rfl) (runs_plain rfl) (Gives.nilOk hE rfl) rfl hT ?_; clear hE a; intro a hE
              replace hS := hF; clear hF hT
              refine Rg.takeP (i := 25) hE rfl (by kernel_rfl) (runs_plain rfl) (Gives.fld hE rfl fl80_0) rfl (tw_sel (fun _ => hS) (fun _ => hS)) ?_; clear hE a; intro a hE
              refine Rg.takeP (i := 26) hE rfl (by kernel_rfl) (runs_plain rfl) (Gives.fld hE rfl fl24_0) rfl (tw_sel (fun _ => hS) (fun _ => hS)) ?_; clear hE a; intro a hE
              have hT := tw_sel (A := fun w => St w s181 (pt b161 (.cells (PlanRule.cells x152).toArray 37 (0, 0)) :: pt pb1 (.cells #[.int .i64 y1] 3 (0, 0)) :: pt pb2 (.cells #[.int .i64 q195] 3 (0, 0)) :: pt pb0 (.cells #[.int .i64 y0_0, .int .i64 y0_1, .slice a_y0_2 y0_2.length c_y0_2, .func (.func 71) #[] #[.pointer (some ⟨pb1, 0, none⟩), .pointer (some ⟨pb2, 0, none⟩)], .func (.func 70) #[] #[.pointer (some ⟨pb1, 0, none⟩), .pointer (some ⟨pb2, 0, none⟩)], .slice a_v0 y0_5.length c_v0, .slice a_v1 y0_6.length c_v1] 80 (0, 0)) :: vecC 3 1 a_v0 c_v0 y0_5.length cs187 :: vecC 4 1 a_v1 c_v1 y0_6.length cs193 :: R)) (B := fun w => St w s181 (pt b161 (.cells (PlanRule.cells x152).toArray 37 (0, 0)) :: pt pb1 (.cells #[.int .i64 y1] 3 (0, 0)) :: pt pb2 (.cells #[.int .i64 q195] 3 (0, 0)) :: pt pb0 (.cells #[.int .i64 y0_0, .int .i64 y0_1, .slice a_y0_2 y0_2.length c_y0_2, .func (.func 71) #[] #[.pointer (some ⟨pb1, 0, none⟩), .pointer (some ⟨pb2, 0, none⟩)], .func (.func 70) #[] #[.pointer (some ⟨pb1, 0, none⟩), .pointer (some ⟨pb2, 0, none⟩)], .slice a_v0 y0_5.length c_v0, .slice a_v1 y0_6.length c_v1] 80 (0, 0)) :: vecC 3 1 a_v0 c_v0 y0_5.length cs187 :: vecC 4 1 a_v1 c_v1 y0_6.length cs193 :: R)) (w := _) (x := true) (y := true) (fun _ => hS) (fun _ => hS)
              have hF := hS; replace hS := hS
              refine Rg.take (i := 27) true rfl hE rfl (by kernel_rfl) (runs_plain rfl) (Gives.loadB hE 3 rfl rfl rfl ty3) rfl hT ?_; clear hE a; intro a hE
              replace hS := hF; clear hF hT
              refine Rg.takeP (i := 28) hE rfl (by kernel_rfl) (runs_plain rfl) (Gives.p hE rfl) rfl (tw_sel (fun _ => hS) (fun _ => hS)) ?_; clear hE a; intro a hE
              refine Rg.takeP (i := 29) hE rfl (by kernel_rfl) (runs_plain rfl) (Gives.p hE rfl) rfl (tw_sel (fun _ => hS) (fun _ => hS)) ?_; clear hE a; intro a hE
              refine Rg.one (i := 30) true true rfl (by kernel_rfl) (by kernel_rfl) (by kernel_rfl) ?_
              obtain ⟨q202, hq203, hq172⟩ := bindS hq172
              have hc_ := PlanBoundsbetween_ok hS h1 hq203
              refine WL.fnq hE (hc_) (runs_plain rfl) bd72 rfl rfl rfl ?_
              clear hE hS hc_; rintro e w ⟨a204, s206, rfl, hle207, h205, hS⟩; refine ⟨_, rfl, ?_⟩; clear a; intro a hE
              replace h1 := Pt.mono RA.mono hle207 h1
              replace h95 := Sl.mono RI.mono hle207 h95
              replace h_y0_2 := Sl.mono RPlanRule.mono hle207 h_y0_2
              replace h186 := Ev.mono RI.mono hle207 h186
              replace h192 := Ev.mono RB.mono hle207 h192
              refine WL.nil ?_
              refine ⟨⟨fun _ => (St.down hle207 hS), fun _ => (St.down hle207 hS)⟩, ?_⟩
              refine Rg.takeP (i := 31) hE rfl (by kernel_rfl) (runs_plain rfl) (Gives.p hE rfl) rfl (tw_sel (fun _ => (St.down hle207 hS)) (fun _ => (St.down hle207 hS))) ?_; clear hE a; intro a hE
              refine Rg.takeP (i := 32) hE rfl (by kernel_rfl) (runs_plain rfl) (Gives.p hE rfl) rfl (tw_sel (fun _ => (St.down hle207 hS)) (fun _ => (St.down hle207 hS))) ?_; clear hE a; intro a hE
              refine Rg.takeP (i := 33) hE rfl (by kernel_rfl) (runs_plain rfl) (Gives.p hE rfl) rfl (tw_sel (fun _ => (St.down hle207 hS)) (fun _ => (St.down hle207 hS))) ?_; clear hE a; intro a hE
              refine Rg.takeP (i := 34) hE rfl (by kernel_rfl) (runs_plain rfl) (Gives.p hE rfl) rfl (tw_sel (fun _ => (St.down hle207 hS)) (fun _ => (St.down hle207 hS))) ?_; clear hE a; intro a hE
              refine Rg.takeP (i := 35) hE rfl (by kernel_rfl) (runs_plain rfl) (Gives.p hE rfl) rfl (tw_sel (fun _ => (St.down hle207 hS)) (fun _ => (St.down hle207 hS))) ?_; clear hE a; intro a hE
              refine Rg.done (by kernel_rfl) ?_
              subst hK201
              refine W.seq ?_
              refine W.region ?_
              refine WL.vS hS hE (runs_plain rfl) (Gives.p hE rfl) rfl ?_; clear hE a; intro a hE
              refine WL.nil ?_
              obtain ⟨q209, hq208, hq172⟩ := bindS hq172
              refine W.cut (fun a w => ∃ (q212 : List Int), ∃ (q218 : List Bool), ∃ (q224 : Int), ∃ (cs216 : List Value), ∃ (cs222 : List Value), ∃ (s210 : Sg), s206.Le s210 ∧ (q212, q218, q224) = q209 ∧ Ev 1 (RI .i64) s210 cs216 q212 ∧ q212.length = y0_5.length ∧ Ev 1 RB s210 cs222 q218 ∧ q218.length = y0_6.length ∧ Rep a 142 [(0, .pointer (some ⟨pb0, 0, none⟩)), (1, .pointer a1), (4, .int .i64 q91), (9, .pointer (some ⟨b161, 0, none⟩)), (84, .slice a93 q92.length c94), (85, .int .i64 ((q92).length : Int)), (86, .int .i64 ((k174 : Nat) : Int))] ∧ St w s210 (pt b161 (.cells (PlanRule.cells x152).toArray 37 (0, 0)) :: pt pb1 (.cells #[.int .i64 y1] 3 (0, 0)) :: pt pb2 (.cells #[.int .i64 q224] 3 (0, 0)) :: pt pb0 (.cells #[.int .i64 y0_0, .int .i64 y0_1, .slice a_y0_2 y0_2.length c_y0_2, .func (.func 71) #[] #[.pointer (some ⟨pb1, 0, none⟩), .pointer (some ⟨pb2, 0, none⟩)], .func (.func 70) #[] #[.pointer (some ⟨pb1, 0, none⟩), .pointer (some ⟨pb2, 0, none⟩)], .slice a_v0 y0_5.length c_v0, .slice a_v1 y0_6.length c_v1] 80 (0, 0)) :: vecC 3 1 a_v0 c_v0 y0_5.length cs216 :: vecC 4 1 a_v1 c_v1 y0_6.length cs222 :: R)) ?_ ?_
              · refine W.gen fun K225 hK225 => ?_
                refine W.cond hE rfl (fun hc226 => ?_) (fun hc226 => ?_)
                · replace hq208 := iteT hc226 hq208
                  refine W.seq ?_
                  refine W.region ?_
                  refine WL.vS hS hE (runs_plain rfl) (Gives.p hE rfl) rfl ?_; clear hE a; intro a hE
                  refine WL.vS hS hE (runs_plain rfl) (Gives.nilOk hE rfl) rfl ?_; clear hE a; intro a hE
                  refine WL.vS hS hE (runs_plain rfl) (Gives.fld hE rfl fl80_3) rfl ?_; clear hE a; intro a hE
                  refine WL.vS hS hE (runs_plain rfl) (Gives.loadB hE 3 rfl rfl rfl ty29) rfl ?_; clear hE a; intro a hE
                  refine WL.vS hS hE (runs_plain rfl) (Gives.p hE rfl) rfl ?_; clear hE a; intro a hE
                  refine WL.vS hS hE (runs_plain rfl) (Gives.p hE rfl) rfl ?_; clear hE a; intro a hE
                  obtain ⟨_, hx228, hq208⟩ := bindS hq208
                  obtain ⟨h229, h230⟩ := ix_some hx228
                  refine WL.vS hS hE (runs_plain rfl) (Gives.idx hE ((q91).toNat) rfl rfl sl29 h229 (by have := hn188; omega) (hS.vecAok 4 rfl (by have := hn188; omega : (q91).toNat < y0_5.length))) rfl ?_; clear hE a; intro a hE
                  obtain ⟨x232, hx233, hq208⟩ := bindS hq208
                  refine WL.setD hE hS 4 rfl (runs_plain rfl) rfl rfl (vs := [.int .i64 x175]) rfl ty3 rfl rfl rfl h186 hn188 (sx_some hx233).1 hx233 rfl rfl ?_; clear hE hS a w; intro cs234 a w h235 hn236 hE hS
                  refine WL.nil ?_
                  refine W.region ?_
                  refine WL.vS hS hE (runs_plain rfl) (Gives.p hE rfl) rfl ?_; clear hE a; intro a hE
                  refine WL.vS hS hE (runs_plain rfl) (Gives.p hE rfl) rfl ?_; clear hE a; intro a hE
                  obtain ⟨q237, hq238, hq208⟩ := bindS hq208
                  replace hS := hS.front 5 rfl
                  replace hS := hS.front 5 rfl
                  replace hS := hS.front 4 rfl
                  replace hS := hS.front 4 rfl
                  replace hS := hS.front 5 rfl
                  have hc_ := ih_PlanSearchrun_v1 hS h205 h_y0_2 h235 hn236 h192 hn194 hq238
                  refine WL.fnq hE (hc_) (runs_plain rfl) bd54 rfl rfl rfl ?_
                  clear hE hS hc_; rintro e w ⟨cs239, cs242, s245, rfl, hle246, h240, hn241, h243, hn244, hS⟩; refine ⟨_, rfl, ?_⟩; clear a; intro a hE
                  replace h1 := Pt.mono RA.mono hle246 h1
                  replace h95 := Sl.mono RI.mono hle246 h95
                  replace h205 := Pt.mono RA.mono hle246 h205
                  replace h_y0_2 := Sl.mono RPlanRule.mono hle246 h_y0_2
                  replace h235 := Ev.mono RI.mono hle246 h235
                  replace h192 := Ev.mono RB.mono hle246 h192
                  refine WL.nil ?_
                  replace hS := hS.front 4 rfl
                  replace hS := hS.front 4 rfl
                  replace hS := hS.front 2 rfl
                  replace hS := hS.front 4 rfl
                  replace hS := hS.front 4 rfl
                  replace hS := hS.front 5 rfl
                  subst hK225
                  exact ⟨q237.1, q237.2.1, q237.2.2, cs239, cs242, s245, hle246, Option.some.inj hq208, h240, hn241, h243, hn244, hE.pick _ ⟨rfl, rfl, rfl, rfl, rfl, rfl, rfl, trivial⟩, hS⟩
                · replace hq208 := iteF hc226 hq208
                  refine W.skip ?_
                  subst hK225
                  exact ⟨q183, q189, q195, cs187, cs193, s206, (Sg.Le.refl _), Option.some.inj hq208, h186, hn188, h192, hn194, hE.pick _ ⟨rfl, rfl, rfl, rfl, rfl, rfl, rfl, trivial⟩, hS⟩
              · clear hE hS a w; rintro a w ⟨q212, q218, q224, cs216, cs222, s210, hle211, rfl, h215, hn217, h221, hn223, hE, hS⟩
                dsimp only at hq172
                replace h1 := Pt.mono RA.mono hle211 h1
                replace h95 := Sl.mono RI.mono hle211 h95
                replace h_y0_2 := Sl.mono RPlanRule.mono hle211 h_y0_2
                replace h186 := Ev.mono RI.mono hle211 h186
                replace h192 := Ev.mono RB.mono hle211 h192
                refine W.region ?_
                refine WL.vS hS hE (runs_plain rfl) (Gives.inc hE rfl (by have := h95.small; omega)) rfl ?_; clear hE a; intro a hE
                refine WL.vS hS hE (runs_plain rfl) (Gives.p hE rfl) rfl ?_; clear hE a; intro a hE
                refine WL.nil ?_
                subst hK196
                exact ⟨rest176.length, Nat.lt_succ_self _, rest176, k174 + 1, q212, q218, q224, cs216, cs222, s210, rfl, hd177, (Sg.Le.trans (Sg.Le.trans hle182 hle207) hle211), hq172, h215, hn217, h221, hn223, hE.pick _ ⟨rfl, rfl, rfl, rfl, rfl, rfl, rfl, trivial⟩, hS⟩
          · clear hE hS a w; rintro a w ⟨q183, q189, q195, cs187, cs193, s181, hle182, rfl, h186, hn188, h192, hn194, hE, hS⟩
            dsimp only at hr
            replace h1 := Pt.mono RA.mono hle182 h1
            replace h95 := Sl.mono RI.mono hle182 h95
            replace h_y0_2 := Sl.mono RPlanRule.mono hle182 h_y0_2
            replace h_v0 := Ev.mono RI.mono hle182 h_v0
            replace h170 := Ev.mono RB.mono hle182 h170
            refine W.region ?_
            refine WL.vS hS hE (runs_plain rfl) (Gives.p hE rfl) rfl ?_; clear hE a; intro a hE
            refine WL.vS hS hE (runs_plain rfl) (Gives.nilOk hE rfl) rfl ?_; clear hE a; intro a hE
            refine WL.vS hS hE (runs_plain rfl) (Gives.fld hE rfl fl80_4) rfl ?_; clear hE a; intro a hE
            refine WL.vS hS hE (runs_plain rfl) (Gives.loadB hE 3 rfl rfl rfl ty71) rfl ?_; clear hE a; intro a hE
            refine WL.vS hS hE (runs_plain rfl) (Gives.p hE rfl) rfl ?_; clear hE a; intro a hE
            obtain ⟨_, hx248, hr⟩ := bindS hr
            obtain ⟨h249, h250⟩ := ix_some hx248
            refine WL.vS hS hE (runs_plain rfl) (Gives.idx hE ((q91).toNat) rfl rfl sl71 h249 (by have := hn194; omega) (hS.vecAok 5 rfl (by have := hn194; omega : (q91).toNat < y0_6.length))) rfl ?_; clear hE a; intro a hE
            obtain ⟨x252, hx253, hr⟩ := bindS hr
            refine WL.setD hE hS 5 rfl (runs_plain rfl) rfl rfl (vs := [.bool true]) rfl ty4 rfl rfl rfl h192 hn194 (sx_some hx253).1 hx253 rfl rfl ?_; clear hE hS a w; intro cs254 a w h255 hn256 hE hS
            refine WL.nil ?_
            refine finG (fn := Try.f54) (rs := []) (vs := []) hE rfl trivial ?_
            obtain rfl := Option.some.inj hr
            replace hS := hS.front 5 rfl
            replace hS := hS.front 5 rfl
            replace hS := hS.front 4 rfl
            replace hS := hS.front 4 rfl
            replace hS := hS.front 5 rfl
            replace hS := hS.dropAt 5
            exact ⟨cs187, cs254, s181, rfl, (Sg.Le.trans hle90 hle182), h186, hn188, h255, hn256, hS⟩
set_option maxHeartbeats 8000000 in
theorem Plansolve_ok {fu : Nat}  {w : World} {s : Sg} {R : List HP} {x0 : PlanPeriodic} {a0_0 : Option Addr} {c0_0 : Nat} (hS : St w s (R)) (h0_0 : Sl 5 RPlanRule s a0_0 c0_0 x0.Rules) {r : (List Int)} (hr : Plansolve fu x0 = some r) :
    Calls Try.prog 43 [.agg [.int .i64 x0.Period, .int .i64 x0.Events, .slice a0_0 x0.Rules.length c0_0].toArray].toArray w (fun e w => ∃ (a0 : Option Addr) (c0 : Nat) (t : Sg), e = .returned (.slice a0 r.length c0) ∧ s.Le t ∧ Sl 1 (RI .i64) t a0 c0 r ∧ (r = [] → a0 = none) ∧ St w t (R)) := by
  refine enter Try.func43 rfl rfl rfl fun a hE => ?_
  rw [Plansolve] at hr
  refine W.seq ?_
  refine W.region ?_
  refine WL.box hE hS (runs_plain rfl) rfl rfl rfl ?_; clear hE hS a w; intro b51 a w hE hS
  refine WL.vS hS hE (runs_plain rfl) (Gives.p hE rfl) rfl ?_; clear hE a; intro a hE
  refine WL.nil ?_
  refine W.seq ?_
  refine W.region ?_
  refine WL.vS hS hE (runs_plain rfl) (Gives.loadBA hE 0 rfl rfl ty24) rfl ?_; clear hE a; intro a hE
  obtain ⟨q52, hq53, hr⟩ := bindS hr
  have hc_ := PlannewSearch_ok hS h0_0 hq53
  refine WL.fnq hE (hc_) (runs_plain rfl) bd48 rfl rfl rfl ?_
  clear hE hS hc_; rintro e w ⟨b54, a55, c56, a58, c59, n60, cs61, a64, c65, n66, cs67, s70, rfl, hle71, h57, h62, rfl, h68, rfl, hS⟩; refine ⟨_, rfl, ?_⟩; clear a; intro a hE
  replace h0_0 := Sl.mono RPlanRule.mono hle71 h0_0
  refine WL.vS hS hE (runs_plain rfl) (Gives.p hE rfl) rfl ?_; clear hE a; intro a hE
  refine WL.nil ?_
  refine W.seq ?_
  refine W.region ?_
  refine WL.vS hS hE (runs_plain rfl) (Gives.p hE rfl) rfl ?_; clear hE a; intro a hE
  obtain ⟨q72, hq73, hr⟩ := bindS hr
  have hc_ := PlanSearchstart_v1_ok hS h57 h62 rfl h68 rfl hq73
  refine WL.fnq hE (hc_) (runs_plain rfl) bd53 rfl rfl rfl ?_
  clear hE hS hc_; rintro e w ⟨a74, s76, rfl, hle77, h75, hS⟩; refine ⟨_, rfl, ?_⟩; clear a; intro a hE
  replace h0_0 := Sl.mono RPlanRule.mono hle77 h0_0
  replace h57 := Sl.mono RPlanRule.mono hle77 h57
  replace h62 := Ev.mono RI.mono hle77 h62
  replace h68 := Ev.mono RB.mono hle77 h68
  refine WL.vS hS hE (runs_plain rfl) (Gives.p hE rfl) rfl ?_; clear hE a; intro a hE
  refine WL.nil ?_
  refine W.seq ?_
  refine W.region ?_
  refine WL.lit hE hS (e := 3) (es := 1) (vs := [(0, .int .i64 0)]) (cs := [.int .i64 0]) (runs_plain rfl) rfl (by kernel_rfl) rfl ?_; clear hE hS a w; intro b78 a w hE hS
  replace hS := hS.ptVec (es := 1) (m := 1) rfl (by decide)
  have h80 : Ev 1 (RI .i64) s76 [.int .i64 0] [0] := (Ev.cons (c1 := [.int .i64 0]) rfl rfl (Ev.nil))
  refine WL.vS hS hE (runs_plain rfl) (Gives.p hE rfl) rfl ?_; clear hE a; intro a hE
  refine WL.nil ?_
  refine W.seq ?_
  refine W.seq ?_
  refine W.region ?_
  refine WL.alloc hE hS (runs_plain rfl) zr3 rfl ?_; clear hE hS a w; intro b81 a w hE hS
  refine WL.storeI hE hS 0 rfl [.int .i64 1] (runs_plain rfl) rfl rfl rfl ty3 rfl rfl rfl rfl ?_; clear hE hS a w; intro a w hE hS
  refine WL.nil ?_
  obtain ⟨q83, hq82, hr⟩ := bindS hr
  refine W.cut (fun a w => ∃ (q88 : Option (List Int)), ∃ (q91 : List Int), ∃ (q99 : Int), ∃ (q100 : List Int), ∃ (q106 : List Bool), ∃ (q112 : Unit), ∃ (q114 : Unit), ∃ (a89 : Option Addr), ∃ (a92 : Option Addr), ∃ (c93 : Nat), ∃ (n95 : Nat), ∃ (cs96 : List Value), ∃ (b98 : Nat), ∃ (cs104 : List Value), ∃ (cs110 : List Value), ∃ (f113 : Value), ∃ (f115 : Value), ∃ (s86 : Sg), s76.Le s86 ∧ (.next (q88, q91, q99, q100, q106, q112, q114)) = q83 ∧ Pt 64 (RA .i64 64) s86 a89 q88 ∧ Ev 1 (RI .i64) s86 cs96 q91 ∧ q91.length = n95 ∧ Ev 1 (RI .i64) s86 cs104 q100 ∧ q100.length = q52.2.2.2.1.length ∧ Ev 1 RB s86 cs110 q106 ∧ q106.length = q52.2.2.2.2.length ∧ Rep a 52 [(5, .slice a92 n95 c93)] ∧ St w s86 (pt b98 (.cells #[.int .i64 q99] 3 (0, 0)) :: vecC 3 1 a92 c93 n95 cs96 :: pt b54 (.cells #[.int .i64 q52.1, .int .i64 q52.2.1, .slice a55 q52.2.2.1.length c56, f113, f115, .slice a58 q52.2.2.2.1.length c59, .slice a64 q52.2.2.2.2.length c65] 80 (0, 0)) :: vecC 3 1 a58 c59 q52.2.2.2.1.length cs104 :: vecC 4 1 a64 c65 q52.2.2.2.2.length cs110 :: pt b51 (.cells #[.int .i64 x0.Period, .int .i64 x0.Events, .slice a0_0 x0.Rules.length c0_0] 24 (0, 0)) :: R)) ?_ ?_
  · refine W.block ?_
    refine W.loop (fun m a w => ∃ (n84 : Nat), ∃ (q88 : Option (List Int)), ∃ (q91 : List Int), ∃ (q99 : Int), ∃ (q100 : List Int), ∃ (q106 : List Bool), ∃ (q112 : Unit), ∃ (q114 : Unit), ∃ (a89 : Option Addr), ∃ (a92 : Option Addr), ∃ (c93 : Nat), ∃ (n95 : Nat), ∃ (cs96 : List Value), ∃ (b98 : Nat), ∃ (cs104 : List Value), ∃ (cs110 : List Value), ∃ (f113 : Value), ∃ (f115 : Value), ∃ (s86 : Sg), n84 = m ∧ s76.Le s86 ∧ Plansolve.loop1 x0 fu q52 n84 q88 q91 q99 q100 q106 q112 q114 = some q83 ∧ Pt 64 (RA .i64 64) s86 a89 q88 ∧ Ev 1 (RI .i64) s86 cs96 q91 ∧ q91.length = n95 ∧ Ev 1 (RI .i64) s86 cs104 q100 ∧ q100.length = q52.2.2.2.1.length ∧ Ev 1 RB s86 cs110 q106 ∧ q106.length = q52.2.2.2.2.length ∧ Rep a 52 [(1, .pointer (some ⟨b51, 0, none⟩)), (3, .pointer (some ⟨b54, 0, none⟩)), (4, .pointer a89), (5, .slice a92 n95 c93), (6, .pointer (some ⟨b98, 0, none⟩))] ∧ St w s86 (pt b98 (.cells #[.int .i64 q99] 3 (0, 0)) :: vecC 3 1 a92 c93 n95 cs96 :: pt b54 (.cells #[.int .i64 q52.1, .int .i64 q52.2.1, .slice a55 q52.2.2.1.length c56, f113, f115, .slice a58 q52.2.2.2.1.length c59, .slice a64 q52.2.2.2.2.length c65] 80 (0, 0)) :: vecC 3 1 a58 c59 q52.2.2.2.1.length cs104 :: vecC 4 1 a64 c65 q52.2.2.2.2.length cs110 :: pt b51 (.cells #[.int .i64 x0.Period, .int .i64 x0.Events, .slice a0_0 x0.Rules.length c0_0] 24 (0, 0)) :: R)) (m := fu) ⟨fu, q72, [0], 1, q52.2.2.2.1, q52.2.2.2.2, (), (), a74, (some ⟨b78, 0, none⟩), 1, 1, [.int .i64 0], b81, cs61, cs67, .nilFunc, (.func (.func 78) #[] #[]), s76, rfl, (Sg.Le.refl _), hq82, h75, h80, (rfl), h62, rfl, h68, rfl, hE.pick _ ⟨rfl, rfl, rfl, rfl, rfl, trivial⟩, hS⟩ ?_
    clear hE hS a w hq82; rintro m85 a w ⟨n84, q88, q91, q99, q100, q106, q112, q114, a89, a92, c93, n95, cs96, b98, cs104, cs110, f113, f115, s86, rfl, hle87, hq82, h90, h94, rfl, h103, hn105, h109, hn111, hE, hS⟩
    refine W.gen fun K116 hK116 => ?_
    replace h0_0 := Sl.mono RPlanRule.mono hle87 h0_0
    replace h75 := Pt.mono RA.mono hle87 h75
    replace h80 := Ev.mono RI.mono hle87 h80
    replace h57 := Sl.mono RPlanRule.mono hle87 h57
    replace h62 := Ev.mono RI.mono hle87 h62
    replace h68 := Ev.mono RB.mono hle87 h68
    rcases n84 with _ | n84
    · rw [Plansolve.loop1] at hq82; exact absurd hq82 (by simp)
    rw [Plansolve.loop1] at hq82
    refine W.seq ?_
    refine W.seq ?_
    refine W.region ?_
    refine WL.vS hS hE (runs_plain rfl) (Gives.loadB hE 0 rfl rfl rfl ty3) rfl ?_; clear hE a; intro a hE
    refine WL.vS hS hE (runs_plain rfl) (Gives.fld hE rfl fl24_1) rfl ?_; clear hE a; intro a hE
    refine WL.vS hS hE (runs_plain rfl) (Gives.loadB hE 5 rfl rfl rfl ty3) rfl ?_; clear hE a; intro a hE
    refine WL.vS hS hE (runs_plain rfl) (Gives.p hE rfl) rfl ?_; clear hE a; intro a hE
    refine WL.nil ?_
    refine W.cond hE rfl (fun hc117 => ?_) (fun hc117 => ?_)
    · replace hq82 := iteT hc117 hq82
      refine W.skip ?_
      refine W.seq ?_
      refine W.block ?_
      refine W.seq ?_
      refine W.region ?_
      refine WL.vS hS hE (runs_plain rfl) (Gives.fld hE rfl fl24_0) rfl ?_; clear hE a; intro a hE
      refine WL.vS hS hE (runs_plain rfl) (Gives.loadB hE 5 rfl rfl rfl ty3) rfl ?_; clear hE a; intro a hE
      refine WL.alloc hE hS (runs_plain rfl) zr3 rfl ?_; clear hE hS a w; intro b118 a w hE hS
      refine WL.storeI hE hS 0 rfl [.int .i64 x0.Period] (runs_plain rfl) rfl rfl rfl ty3 rfl rfl rfl rfl ?_; clear hE hS a w; intro a w hE hS
      refine WL.nil ?_
      refine W.seq ?_
      refine W.region ?_
      refine WL.vS hS hE (runs_plain rfl) (Gives.p hE rfl) rfl ?_; clear hE a; intro a hE
      refine WL.vS hS hE (runs_plain rfl) (Gives.mkfn hE (vs := [.pointer (some ⟨b98, 0, none⟩), .pointer (some ⟨b118, 0, none⟩)]) rfl) rfl ?_; clear hE a; intro a hE
      refine WL.vS hS hE (runs_plain rfl) (Gives.nilOk hE rfl) rfl ?_; clear hE a; intro a hE
      refine WL.vS hS hE (runs_plain rfl) (Gives.fld hE rfl fl80_2) rfl ?_; clear hE a; intro a hE
      refine WL.storeI hE hS 3 rfl [.int .i64 q52.1, .int .i64 q52.2.1, .slice a55 q52.2.2.1.length c56, f113, .func (.func 70) #[] #[.pointer (some ⟨b98, 0, none⟩), .pointer (some ⟨b118, 0, none⟩)], .slice a58 q52.2.2.2.1.length c59, .slice a64 q52.2.2.2.2.length c65] (runs_plain rfl) rfl rfl rfl ty78 rfl rfl rfl rfl ?_; clear hE hS a w; intro a w hE hS
      refine WL.nil ?_
      refine W.seq ?_
      refine W.region ?_
      refine WL.vS hS hE (runs_plain rfl) (Gives.p hE rfl) rfl ?_; clear hE a; intro a hE
      refine WL.vS hS hE (runs_plain rfl) (Gives.mkfn hE (vs := [.pointer (some ⟨b98, 0, none⟩), .pointer (some ⟨b118, 0, none⟩)]) rfl) rfl ?_; clear hE a; intro a hE
      refine WL.vS hS hE (runs_plain rfl) (Gives.nilOk hE rfl) rfl ?_; clear hE a; intro a hE
      refine WL.vS hS hE (runs_plain rfl) (Gives.fld hE rfl fl80_1) rfl ?_; clear hE a; intro a hE
      refine WL.storeI hE hS 3 rfl [.int .i64 q52.1, .int .i64 q52.2.1, .slice a55 q52.2.2.1.length c56, .func (.func 71) #[] #[.pointer (some ⟨b98, 0, none⟩), .pointer (some ⟨b118, 0, none⟩)], .func (.func 70) #[] #[.pointer (some ⟨b98, 0, none⟩), .pointer (some ⟨b118, 0, none⟩)], .slice a58 q52.2.2.2.1.length c59, .slice a64 q52.2.2.2.2.length c65] (runs_plain rfl) rfl rfl rfl ty77 rfl rfl rfl rfl ?_; clear hE hS a w; intro a w hE hS
      refine WL.nil ?_
      refine W.seq ?_
      refine W.region ?_
      refine WL.vS hS hE (runs_plain rfl) (Gives.p hE rfl) rfl ?_; clear hE a; intro a hE
      refine WL.vS hS hE (runs_plain rfl) (Gives.p hE rfl) rfl ?_; clear hE a; intro a hE
      obtain ⟨q119, hq120, hq82⟩ := bindS hq82
      replace hS := hS.front 5 rfl
      replace hS := hS.front 5 rfl
      replace hS := hS.front 2 rfl
      replace hS := hS.front 3 rfl
      replace hS := hS.front 5 rfl
      have hc_ := PlanSearchrun_v1_ok hS h90 h57 h103 hn105 h109 hn111 hq120
      refine WL.fnq hE (hc_) (runs_plain rfl) bd54 rfl rfl rfl ?_
      clear hE hS hc_; rintro e w ⟨cs121, cs124, s127, rfl, hle128, h122, hn123, h125, hn126, hS⟩; refine ⟨_, rfl, ?_⟩; clear a; intro a hE
      replace h90 := Pt.mono RA.mono hle128 h90
      replace h57 := Sl.mono RPlanRule.mono hle128 h57
      replace h103 := Ev.mono RI.mono hle128 h103
      replace h109 := Ev.mono RB.mono hle128 h109
      replace h94 := Ev.mono RI.mono hle128 h94
      replace h0_0 := Sl.mono RPlanRule.mono hle128 h0_0
      refine WL.nil ?_
      refine W.seq ?_
      refine W.seq ?_
      refine W.region ?_
      refine WL.vS hS hE (runs_plain rfl) (Gives.loadB hE 2 rfl rfl rfl ty3) rfl ?_; clear hE a; intro a hE
      refine WL.vS hS hE (runs_plain rfl) (Gives.fld hE rfl fl24_0) rfl ?_; clear hE a; intro a hE
      refine WL.vS hS hE (runs_plain rfl) (Gives.loadB hE 6 rfl rfl rfl ty3) rfl ?_; clear hE a; intro a hE
      refine WL.vS hS hE (runs_plain rfl) (Gives.p hE rfl) rfl ?_; clear hE a; intro a hE
      refine WL.nil ?_
      refine W.cond hE rfl (fun hc129 => ?_) (fun hc129 => ?_)
      · replace hq82 := iteT hc129 hq82
        refine W.seq ?_
        refine W.region ?_
        refine WL.vS hS hE (runs_plain rfl) (Gives.p hE rfl) rfl ?_; clear hE a; intro a hE
        refine WL.nil ?_
        refine W.ret ?_
        subst hK116
        rw [← Option.some.inj hq82] at hr
        dsimp only at hr
        refine finG (fn := Try.f43) (rs := [.tmp 2]) (vs := [_]) hE rfl ⟨rfl, trivial⟩ ?_
        obtain rfl := Option.some.inj hr
        replace hS := hS.tail
        replace hS := hS.tail
        replace hS := hS.tail
        replace hS := hS.tail
        replace hS := hS.tail
        replace hS := hS.tail
        replace hS := hS.tail
        exact ⟨none, 0, s127, rfl, (Sg.Le.trans (Sg.Le.trans (Sg.Le.trans hle71 hle77) hle87) hle128), Sl.nil, (fun _ => rfl), hS⟩
      · replace hq82 := iteF hc129 hq82
        refine W.skip ?_
        refine W.seq ?_
        refine W.region ?_
        refine WL.vS hS hE (runs_plain rfl) (Gives.p hE rfl) rfl ?_; clear hE a; intro a hE
        refine WL.vS hS hE (runs_plain rfl) (Gives.loadB hE 2 rfl rfl rfl ty3) rfl ?_; clear hE a; intro a hE
        refine WL.lit hE hS (e := 3) (es := 1) (vs := [(0, .int .i64 q119.2.2)]) (cs := [.int .i64 q119.2.2]) (runs_plain rfl) rfl (by kernel_rfl) rfl ?_; clear hE hS a w; intro b130 a w hE hS
        obtain ⟨x131, hx132, hq82⟩ := bindS hq82
        refine WL.appD hE hS 5 (m := 1) (runs_plain rfl) rfl rfl rfl ap29 rfl h94 rfl (xs := [q119.2.2]) (Ev.cons (c1 := [.int .i64 q119.2.2]) rfl rfl (Ev.nil)) rfl rfl hx132 rfl ?_; clear hE hS a w; intro a133 c134 cs135 a w h136 hE hS
        refine WL.vS hS hE (runs_plain rfl) (Gives.p hE rfl) rfl ?_; clear hE a; intro a hE
        refine WL.nil ?_
        refine W.region ?_
        refine WL.vS hS hE (runs_plain rfl) (Gives.p hE rfl) rfl ?_; clear hE a; intro a hE
        refine WL.vS hS hE (runs_plain rfl) (Gives.fld hE rfl fl24_1) rfl ?_; clear hE a; intro a hE
        refine WL.vS hS hE (runs_plain rfl) (Gives.loadB hE 6 rfl rfl rfl ty3) rfl ?_; clear hE a; intro a hE
        refine WL.vS hS hE (runs_plain rfl) (Gives.loadB hE 1 rfl rfl rfl ty3) rfl ?_; clear hE a; intro a hE
        refine WL.vS hS hE (runs_plain rfl) (Gives.loadB hE 2 rfl rfl rfl ty3) rfl ?_; clear hE a; intro a hE
        refine WL.vS hS hE (runs_plain rfl) (Gives.loadB hE 2 rfl rfl rfl ty3) rfl ?_; clear hE a; intro a hE
        obtain ⟨q137, hq138, hq82⟩ := bindS hq82
        have hc_ := PlanBoundsbetween_ok hS h90 hq138
        refine WL.fnq hE (hc_) (runs_plain rfl) bd72 rfl rfl rfl ?_
        clear hE hS hc_; rintro e w ⟨a139, s141, rfl, hle142, h140, hS⟩; refine ⟨_, rfl, ?_⟩; clear a; intro a hE
        replace h90 := Pt.mono RA.mono hle142 h90
        replace h57 := Sl.mono RPlanRule.mono hle142 h57
        replace h122 := Ev.mono RI.mono hle142 h122
        replace h125 := Ev.mono RB.mono hle142 h125
        replace h136 := Ev.mono RI.mono hle142 h136
        replace h0_0 := Sl.mono RPlanRule.mono hle142 h0_0
        refine WL.vS hS hE (runs_plain rfl) (Gives.p hE rfl) rfl ?_; clear hE a; intro a hE
        refine WL.vS hS hE (runs_plain rfl) (Gives.p hE rfl) rfl ?_; clear hE a; intro a hE
        refine WL.vS hS hE (runs_plain rfl) (Gives.p hE rfl) rfl ?_; clear hE a; intro a hE
        refine WL.vS hS hE (runs_plain rfl) (Gives.p hE rfl) rfl ?_; clear hE a; intro a hE
        refine WL.nil ?_
        refine W.seq ?_
        refine W.seq ?_
        refine W.region ?_
        refine WL.vS hS hE (runs_plain rfl) (Gives.loadB hE 1 rfl rfl rfl ty3) rfl ?_; clear hE a; intro a hE
        refine WL.nil ?_
        refine W.region ?_
        refine WL.alloc hE hS (runs_plain rfl) zr3 rfl ?_; clear hE hS a w; intro b143 a w hE hS
        refine WL.storeI hE hS 0 rfl [.int .i64 q99] (runs_plain rfl) rfl rfl rfl ty3 rfl rfl rfl rfl ?_; clear hE hS a w; intro a w hE hS
        refine WL.nil ?_
        refine W.region ?_
        refine WL.vS hS hE (runs_plain rfl) (Gives.loadB hE 0 rfl rfl rfl ty3) rfl ?_; clear hE a; intro a hE
        refine WL.vS hS hE (runs_plain rfl) (Gives.p hE rfl) rfl ?_; clear hE a; intro a hE
        refine WL.storeI hE hS 0 rfl [.int .i64 (w64 (q99 + 1))] (runs_plain rfl) rfl rfl rfl ty3 rfl rfl rfl rfl ?_; clear hE hS a w; intro a w hE hS
        refine WL.nil ?_
        replace hS := hS.dropAt 2
        replace hS := hS.dropAt 2
        replace hS := hS.front 5 rfl
        replace hS := hS.front 4 rfl
        replace hS := hS.front 4 rfl
        replace hS := hS.front 4 rfl
        replace hS := hS.front 5 rfl
        replace hS := hS.front 5 rfl
        subst hK116
        exact ⟨n84, Nat.lt_succ_self _, n84, q137.1, x131, (w64 (q99 + 1)), q119.1, q119.2.1, (), (), a139, a133, c134, x131.length, cs135, b143, cs121, cs124, (.func (.func 71) #[] #[.pointer (some ⟨b98, 0, none⟩), .pointer (some ⟨b118, 0, none⟩)]), (.func (.func 70) #[] #[.pointer (some ⟨b98, 0, none⟩), .pointer (some ⟨b118, 0, none⟩)]), s141, rfl, (Sg.Le.trans (Sg.Le.trans hle87 hle128) hle142), hq82, h140, h136, (rfl), h122, hn123, h125, hn126, hE.pick _ ⟨rfl, rfl, rfl, rfl, rfl, trivial⟩, hS⟩
    · replace hq82 := iteF hc117 hq82
      subst hK116
      refine W.exit rfl ?_
      exact ⟨q88, q91, q99, q100, q106, (), (), a89, a92, c93, q91.length, cs96, b98, cs104, cs110, f113, f115, s86, hle87, Option.some.inj hq82, h90, h94, rfl, h103, hn105, h109, hn111, hE.pick _ ⟨rfl, trivial⟩, hS⟩
  · clear hE hS a w; rintro a w ⟨q88, q91, q99, q100, q106, q112, q114, a89, a92, c93, n95, cs96, b98, cs104, cs110, f113, f115, s86, hle87, rfl, h90, h94, rfl, h103, hn105, h109, hn111, hE, hS⟩
    dsimp only at hr
    replace h0_0 := Sl.mono RPlanRule.mono hle87 h0_0
    replace h75 := Pt.mono RA.mono hle87 h75
    replace h80 := Ev.mono RI.mono hle87 h80
    replace h57 := Sl.mono RPlanRule.mono hle87 h57
    replace h62 := Ev.mono RI.mono hle87 h62
    replace h68 := Ev.mono RB.mono hle87 h68
    refine W.seq ?_
    refine W.region ?_
    refine WL.vS hS hE (runs_plain rfl) (Gives.p hE rfl) rfl ?_; clear hE a; intro a hE
    have hF := hS.fixD RI.mono 1 rfl h94 rfl; clear hS; obtain ⟨s144, hle145, hS, h146⟩ := hF
    replace h90 := Pt.mono RA.mono hle145 h90
    replace h57 := Sl.mono RPlanRule.mono hle145 h57
    replace h103 := Ev.mono RI.mono hle145 h103
    replace h109 := Ev.mono RB.mono hle145 h109
    replace h0_0 := Sl.mono RPlanRule.mono hle145 h0_0
    obtain ⟨_, hx147, hr⟩ := bindS hr
    refine WL.vS hS hE (runs_plain rfl) (Gives.p hE rfl) rfl ?_; clear hE a; intro a hE
    refine WL.nil ?_
    refine W.ret ?_
    refine finG (fn := Try.f43) (rs := [.tmp 2]) (vs := [_]) hE rfl ⟨rfl, trivial⟩ ?_
    obtain rfl := Option.some.inj hr
    replace hS := hS.tail
    replace hS := hS.tail
    replace hS := hS.tail
    replace hS := hS.tail
    replace hS := hS.tail
    exact ⟨a92, c93, s144, rfl, (Sg.Le.trans (Sg.Le.trans (Sg.Le.trans hle71 hle77) hle87) hle145), h146, (nz_some hx147), hS⟩
set_option maxHeartbeats 8000000 in
theorem PlanSolve_ok {fu : Nat}  {w : World} {s : Sg} {R : List HP} {x0 : PlanPeriodic} {a0_0 : Option Addr} {c0_0 : Nat} (hS : St w s (R)) (h0_0 : Sl 5 RPlanRule s a0_0 c0_0 x0.Rules) {r : (List Int) × Int} (hr : PlanSolve fu x0 = some r) :
    Calls Try.prog 19 [.agg [.int .i64 x0.Period, .int .i64 x0.Events, .slice a0_0 x0.Rules.length c0_0].toArray].toArray w (fun e w => ∃ (a0 : Option Addr) (c0 : Nat) (t : Sg), e = .returned (.tuple #[.slice a0 r.1.length c0, .int .i64 r.2]) ∧ s.Le t ∧ Sl 1 (RI .i64) t a0 c0 r.1 ∧ St w t (R)) := by
  refine enter Try.func19 rfl rfl rfl fun a hE => ?_
  rw [PlanSolve] at hr
  refine W.seq ?_
  refine W.region ?_
  refine WL.box hE hS (runs_plain rfl) rfl rfl rfl ?_; clear hE hS a w; intro b51 a w hE hS
  refine WL.vS hS hE (runs_plain rfl) (Gives.p hE rfl) rfl ?_; clear hE a; intro a hE
  refine WL.vS hS hE (runs_plain rfl) (Gives.p hE rfl) rfl ?_; clear hE a; intro a hE
  refine WL.nil ?_
  refine W.seq ?_
  refine W.seq ?_
  refine W.region ?_
  refine WL.vS hS hE (runs_plain rfl) (Gives.loadBA hE 0 rfl rfl ty24) rfl ?_; clear hE a; intro a hE
  refine WL.fnq hE (PlanCheckPeriodic_ok hS h0_0 rfl (r := PlanCheckPeriodic x0)) (runs_plain rfl) bd10 rfl rfl rfl ?_
  clear hE hS; rintro e w ⟨rfl, hS⟩; refine ⟨_, rfl, ?_⟩; clear a; intro a hE
  refine WL.vS hS hE (runs_plain rfl) (Gives.p hE rfl) rfl ?_; clear hE a; intro a hE
  refine WL.nil ?_
  refine W.seq ?_
  refine W.region ?_
  refine WL.vS hS hE (runs_plain rfl) (Gives.p hE rfl) rfl ?_; clear hE a; intro a hE
  refine WL.vS hS hE (runs_plain rfl) (Gives.p hE rfl) rfl ?_; clear hE a; intro a hE
  refine WL.nil ?_
  refine W.cond hE rfl (fun hc52 => ?_) (fun hc52 => ?_)
  · replace hr := iteT hc52 hr
    refine W.seq ?_
    refine W.region ?_
    refine WL.vS hS hE (runs_plain rfl) (Gives.p hE rfl) rfl ?_; clear hE a; intro a hE
    refine WL.vS hS hE (runs_plain rfl) (Gives.p hE rfl) rfl ?_; clear hE a; intro a hE
    refine WL.vS hS hE (runs_plain rfl) (Gives.p hE rfl) rfl ?_; clear hE a; intro a hE
    refine WL.nil ?_
    refine W.ret ?_
    refine finG (fn := Try.f19) (rs := [.tmp 2, .tmp 3]) (vs := [_, _]) hE rfl ⟨rfl, rfl, trivial⟩ ?_
    obtain rfl := Option.some.inj hr
    replace hS := hS.tail
    exact ⟨none, 0, s, rfl, (Sg.Le.refl _), Sl.nil, hS⟩
  · replace hr := iteF hc52 hr
    refine W.skip ?_
    refine W.seq ?_
    refine W.region ?_
    refine WL.vS hS hE (runs_plain rfl) (Gives.loadBA hE 0 rfl rfl ty24) rfl ?_; clear hE a; intro a hE
    obtain ⟨q53, hq54, hr⟩ := bindS hr
    have hc_ := Plansolve_ok hS h0_0 hq54
    refine WL.fnq hE (hc_) (runs_plain rfl) bd43 rfl rfl rfl ?_
    clear hE hS hc_; rintro e w ⟨a55, c56, s59, rfl, hle60, h57, hz58, hS⟩; refine ⟨_, rfl, ?_⟩; clear a; intro a hE
    replace h0_0 := Sl.mono RPlanRule.mono hle60 h0_0
    refine WL.vS hS hE (runs_plain rfl) (Gives.p hE rfl) rfl ?_; clear hE a; intro a hE
    refine WL.nil ?_
    refine W.seq ?_
    refine W.seq ?_
    refine W.region ?_
    refine WL.vS hS hE (runs_plain rfl) (Gives.p hE rfl) rfl ?_; clear hE a; intro a hE
    refine WL.vS hS hE (runs_plain rfl) (Gives.isNilZ hE (isNone_eq h57 hz58) rfl rfl isl29) rfl ?_; clear hE a; intro a hE
    refine WL.nil ?_
    refine W.cond hE rfl (fun hc61 => ?_) (fun hc61 => ?_)
    · replace hr := iteT hc61 hr
      refine W.seq ?_
      refine W.region ?_
      refine WL.vS hS hE (runs_plain rfl) (Gives.p hE rfl) rfl ?_; clear hE a; intro a hE
      refine WL.vS hS hE (runs_plain rfl) (Gives.p hE rfl) rfl ?_; clear hE a; intro a hE
      refine WL.nil ?_
      refine W.ret ?_
      refine finG (fn := Try.f19) (rs := [.tmp 2, .tmp 3]) (vs := [_, _]) hE rfl ⟨rfl, rfl, trivial⟩ ?_
      obtain rfl := Option.some.inj hr
      replace hS := hS.tail
      exact ⟨none, 0, s59, rfl, hle60, Sl.nil, hS⟩
    · replace hr := iteF hc61 hr
      refine W.skip ?_
      refine W.seq ?_
      refine W.region ?_
      refine WL.vS hS hE (runs_plain rfl) (Gives.p hE rfl) rfl ?_; clear hE a; intro a hE
      refine WL.vS hS hE (runs_plain rfl) (Gives.p hE rfl) rfl ?_; clear hE a; intro a hE
      refine WL.vS hS hE (runs_plain rfl) (Gives.p hE rfl) rfl ?_; clear hE a; intro a hE
      refine WL.nil ?_
      refine W.ret ?_
      refine finG (fn := Try.f19) (rs := [.tmp 2, .tmp 3]) (vs := [_, _]) hE rfl ⟨rfl, rfl, trivial⟩ ?_
      obtain rfl := Option.some.inj hr
      replace hS := hS.tail
      exact ⟨a55, c56, s59, rfl, hle60, h57, hS⟩
set_option maxHeartbeats 8000000 in
theorem SlicesEqualLint_ok  {w : World} {s : Sg} {R : List HP} {x0 : List Int} {a0 : Option Addr} {c0 : Nat} {x1 : List Int} {a1 : Option Addr} {c1 : Nat} (hS : St w s (R)) (h0 : Sl 1 (RI .i64) s a0 c0 x0) (h1 : Sl 1 (RI .i64) s a1 c1 x1) {r : Bool} (hr : SlicesEqualLint x0 x1 = some r) :
    Calls Try.prog 21 [.slice a0 x0.length c0, .slice a1 x1.length c1].toArray w (fun e w => e = .returned (.bool r) ∧ St w s (R)) := by
  refine enter Try.func21 rfl rfl rfl fun a hE => ?_
  rw [SlicesEqualLint] at hr
  refine W.seq ?_
  refine W.region ?_
  refine WL.vS hS hE (runs_plain rfl) (Gives.p hE rfl) rfl ?_; clear hE a; intro a hE
  refine WL.nil ?_
  refine W.seq ?_
  refine W.seq ?_
  refine W.region ?_
  refine WL.vS hS hE (runs_plain rfl) (Gives.p hE rfl) rfl ?_; clear hE a; intro a hE
  refine WL.vS hS hE (runs_plain rfl) (Gives.len hE rfl sl29) rfl ?_; clear hE a; intro a hE
  refine WL.vS hS hE (runs_plain rfl) (Gives.p hE rfl) rfl ?_; clear hE a; intro a hE
  refine WL.vS hS hE (runs_plain rfl) (Gives.len hE rfl sl29) rfl ?_; clear hE a; intro a hE
  refine WL.vS hS hE (runs_plain rfl) (Gives.p hE rfl) rfl ?_; clear hE a; intro a hE
  refine WL.nil ?_
  refine W.cond hE rfl (fun hc51 => ?_) (fun hc51 => ?_)
  · replace hr := iteT hc51 hr
    refine W.seq ?_
    refine W.region ?_
    refine WL.vS hS hE (runs_plain rfl) (Gives.p hE rfl) rfl ?_; clear hE a; intro a hE
    refine WL.nil ?_
    refine W.ret ?_
    refine finG (fn := Try.f21) (rs := [.tmp 4]) (vs := [_]) hE rfl ⟨rfl, trivial⟩ ?_
    obtain rfl := Option.some.inj hr
    exact ⟨rfl, hS⟩
  · replace hr := iteF hc51 hr
    refine W.skip ?_
    refine W.seq ?_
    refine W.seq ?_
    refine W.region ?_
    refine WL.vS hS hE (runs_plain rfl) (Gives.p hE rfl) rfl ?_; clear hE a; intro a hE
    refine WL.vS hS hE (runs_plain rfl) (Gives.len hE rfl sl29) rfl ?_; clear hE a; intro a hE
    refine WL.vS hS hE (runs_plain rfl) (Gives.p hE rfl) rfl ?_; clear hE a; intro a hE
    refine WL.nil ?_
    obtain ⟨q53, hq52, hr⟩ := bindS hr
    refine W.cut (fun a w => (.next ()) = q53 ∧ Rep a 26 [] ∧ St w s (R)) ?_ ?_
    · refine W.block ?_
      refine W.loop (fun m a w => ∃ (rest56 : List Int) (k54 : Nat), rest56.length = m ∧ x0.drop k54 = rest56 ∧ SlicesEqualLint.loop1 x1 rest56 k54 = some q53 ∧ Rep a 26 [(0, .slice a0 x0.length c0), (1, .slice a1 x1.length c1), (12, .int .i64 ((x0).length : Int)), (13, .int .i64 ((k54 : Nat) : Int))] ∧ St w s (R)) (m := x0.length) ⟨x0, 0, rfl, rfl, hq52, hE.pick _ ⟨rfl, rfl, rfl, rfl, trivial⟩, hS⟩ ?_
      clear hE hS a w hq52; rintro m60 a w ⟨rest56, k54, rfl, hd57, hq52, hE, hS⟩
      refine W.gen fun K63 hK63 => ?_
      rcases rest56 with _ | ⟨x55, rest56⟩
      · have hlt58 := drop_nil hd57
        refine W.seq ?_
        refine W.region ?_
        refine WL.vS hS hE (runs_plain rfl) (Gives.p hE rfl) rfl ?_; clear hE a; intro a hE
        refine WL.nil ?_
        refine W.seq ?_
        refine W.condF hE rfl (decide_eq_false (by omega)) ?_
        subst hK63
        refine W.exit rfl ?_
        exact ⟨Option.some.inj hq52, hE.pick _ trivial, hS⟩
      · obtain ⟨hlt58, hx59, hd57⟩ := drop_cons hd57
        rw [SlicesEqualLint.loop1] at hq52
        refine W.seq ?_
        refine W.region ?_
        refine WL.vS hS hE (runs_plain rfl) (Gives.p hE rfl) rfl ?_; clear hE a; intro a hE
        refine WL.nil ?_
        refine W.seq ?_
        refine W.condT hE rfl (decide_eq_true (by omega)) ?_
        refine W.skip ?_
        refine W.seq ?_
        refine W.block ?_
        refine W.seq ?_
        refine W.region ?_
        refine WL.vS hS hE (runs_plain rfl) (Gives.p hE rfl) rfl ?_; clear hE a; intro a hE
        refine WL.vS hS hE (runs_plain rfl) (Gives.p hE rfl) rfl ?_; clear hE a; intro a hE
        refine WL.nil ?_
        refine W.seq ?_
        refine W.regionQ (C := fun w => St w s (R)) mixed (by kernel_rfl) hS.drew ?_
        refine QL.v hE (runs_plain rfl) (Gives.p hE rfl) rfl ?_; clear hE a; intro a hE
        refine QL.v hE (runs_plain rfl) (Gives.p hE rfl) rfl ?_; clear hE a; intro a hE
        obtain ⟨cs64, hl65, hR66, hat67⟩ := h0.at hx59
        subst hR66
        refine QL.v hE (runs_plain rfl) (Gives.idx hE k54 rfl rfl sl29 rfl hlt58 (h0.aok hlt58)) rfl ?_; clear hE a; intro a hE
        refine QL.v hE (runs_plain rfl) (Gives.load1 hE rfl (fun w h => hat67 w _ h) ty3) rfl ?_; clear hE a; intro a hE
        refine QL.v hE (runs_plain rfl) (Gives.p hE rfl) rfl ?_; clear hE a; intro a hE
        refine QL.v hE (runs_plain rfl) (Gives.p hE rfl) rfl ?_; clear hE a; intro a hE
        obtain ⟨x68, hx69, hq52⟩ := bindS hq52
        obtain ⟨hi70, hlt71, hy72⟩ := gx_some hx69
        obtain ⟨cs73, hl74, hR75, hat76⟩ := h1.at hy72
        subst hR75
        refine QL.v hE (runs_plain rfl) (Gives.idx hE (((k54 : Nat) : Int)).toNat rfl rfl sl29 hi70 hlt71 (h1.aok hlt71)) rfl ?_; clear hE a; intro a hE
        refine QL.v hE (runs_plain rfl) (Gives.load1 hE rfl (fun w h => hat76 w _ h) ty3) rfl ?_; clear hE a; intro a hE
        refine QL.v hE (runs_plain rfl) (Gives.p hE rfl) rfl ?_; clear hE a; intro a hE
        refine QL.nil ?_; clear hS w; intro w hS
        refine W.cond hE rfl (fun hc77 => ?_) (fun hc77 => ?_)
        · replace hq52 := iteT hc77 hq52
          refine W.seq ?_
          refine W.region ?_
          refine WL.vS hS hE (runs_plain rfl) (Gives.p hE rfl) rfl ?_; clear hE a; intro a hE
          refine WL.nil ?_
          refine W.ret ?_
          subst hK63
          rw [← Option.some.inj hq52] at hr
          dsimp only at hr
          refine finG (fn := Try.f21) (rs := [.tmp 4]) (vs := [_]) hE rfl ⟨rfl, trivial⟩ ?_
          obtain rfl := Option.some.inj hr
          exact ⟨rfl, hS⟩
        · replace hq52 := iteF hc77 hq52
          refine W.skip ?_
          refine W.region ?_
          refine WL.vS hS hE (runs_plain rfl) (Gives.inc hE rfl (by have := h0.small; omega)) rfl ?_; clear hE a; intro a hE
          refine WL.vS hS hE (runs_plain rfl) (Gives.p hE rfl) rfl ?_; clear hE a; intro a hE
          refine WL.nil ?_
          subst hK63
          exact ⟨rest56.length, Nat.lt_succ_self _, rest56, k54 + 1, rfl, hd57, hq52, hE.pick _ ⟨rfl, rfl, rfl, rfl, trivial⟩, hS⟩
    · clear hE hS a w; rintro a w ⟨rfl, hE, hS⟩
      dsimp only at hr
      refine W.seq ?_
      refine W.region ?_
      refine WL.vS hS hE (runs_plain rfl) (Gives.p hE rfl) rfl ?_; clear hE a; intro a hE
      refine WL.nil ?_
      refine W.ret ?_
      refine finG (fn := Try.f21) (rs := [.tmp 4]) (vs := [_]) hE rfl ⟨rfl, trivial⟩ ?_
      obtain rfl := Option.some.inj hr
      exact ⟨rfl, hS⟩
set_option maxHeartbeats 8000000 in
theorem Fishlaw2periods_ok {fu : Nat}  {w : World} {s : Sg} {R : List HP}  (hS : St w s (R))  {r : Bool} (hr : Fishlaw2periods fu = some r) :
    Calls Try.prog 9 [].toArray w (fun e w => e = .returned (.bool r) ∧ St w s (R)) := by
  refine enter Try.func9 rfl rfl rfl fun a hE => ?_
  rw [Fishlaw2periods] at hr
  refine W.seq ?_
  refine W.region ?_
  refine WL.vS hS hE (runs_plain rfl) (Gives.p hE rfl) rfl ?_; clear hE a; intro a hE
  refine WL.nil ?_
  refine W.seq ?_
  refine W.region ?_
  refine WL.vS hS hE (runs_plain rfl) (Gives.build hE (vs := [(0, .int .i64 0), (1, .int .i64 1), (2, .int .i64 10), (3, .int .i64 20)]) [.int .i64 0, .int .i64 1, .int .i64 10, .int .i64 20, .int .i64 0] rfl (by kernel_rfl)) rfl ?_; clear hE a; intro a hE
  refine WL.vS hS hE (runs_plain rfl) (Gives.build hE (vs := [(0, .int .i64 1), (1, .int .i64 2), (2, .int .i64 10), (3, .int .i64 20)]) [.int .i64 1, .int .i64 2, .int .i64 10, .int .i64 20, .int .i64 0] rfl (by kernel_rfl)) rfl ?_; clear hE a; intro a hE
  refine WL.vS hS hE (runs_plain rfl) (Gives.build hE (vs := [(0, .int .i64 2), (1, .int .i64 0), (2, .int .i64 10), (3, .int .i64 20)]) [.int .i64 2, .int .i64 0, .int .i64 10, .int .i64 20, .int .i64 0] rfl (by kernel_rfl)) rfl ?_; clear hE a; intro a hE
  refine WL.lit hE hS (e := 37) (es := 5) (vs := [(0, .agg [.int .i64 0, .int .i64 1, .int .i64 10, .int .i64 20, .int .i64 0].toArray), (1, .agg [.int .i64 1, .int .i64 2, .int .i64 10, .int .i64 20, .int .i64 0].toArray), (2, .agg [.int .i64 2, .int .i64 0, .int .i64 10, .int .i64 20, .int .i64 0].toArray)]) (cs := [.int .i64 0, .int .i64 1, .int .i64 10, .int .i64 20, .int .i64 0, .int .i64 1, .int .i64 2, .int .i64 10, .int .i64 20, .int .i64 0, .int .i64 2, .int .i64 0, .int .i64 10, .int .i64 20, .int .i64 0]) (runs_plain rfl) rfl (by kernel_rfl) rfl ?_; clear hE hS a w; intro b51 a w hE hS
  replace hS := hS.ptVec (es := 5) (m := 3) rfl (by decide)
  have h53 : Ev 5 RPlanRule s [.int .i64 0, .int .i64 1, .int .i64 10, .int .i64 20, .int .i64 0, .int .i64 1, .int .i64 2, .int .i64 10, .int .i64 20, .int .i64 0, .int .i64 2, .int .i64 0, .int .i64 10, .int .i64 20, .int .i64 0] [(PlanRule.mk 0 1 10 20 0), (PlanRule.mk 1 2 10 20 0), (PlanRule.mk 2 0 10 20 0)] := (Ev.cons (c1 := [.int .i64 0, .int .i64 1, .int .i64 10, .int .i64 20, .int .i64 0]) rfl rfl (Ev.cons (c1 := [.int .i64 1, .int .i64 2, .int .i64 10, .int .i64 20, .int .i64 0]) rfl rfl (Ev.cons (c1 := [.int .i64 2, .int .i64 0, .int .i64 10, .int .i64 20, .int .i64 0]) rfl rfl (Ev.nil))))
  have hF := hS.fixD RPlanRule.mono 0 rfl h53 (rfl); clear hS; obtain ⟨s54, hle55, hS, h56⟩ := hF
  refine WL.vS hS hE (runs_plain rfl) (Gives.build hE (vs := [(0, .int .i64 60), (1, .int .i64 3), (2, .slice (some ⟨b51, 0, none⟩) 3 3)]) [.int .i64 60, .int .i64 3, .slice (some ⟨b51, 0, none⟩) 3 3] rfl (by kernel_rfl)) rfl ?_; clear hE a; intro a hE
  refine WL.alloc hE hS (runs_plain rfl) zr24 rfl ?_; clear hE hS a w; intro b57 a w hE hS
  refine WL.storeI hE hS 0 rfl [.int .i64 60, .int .i64 3, .slice (some ⟨b51, 0, none⟩) 3 3] (runs_plain rfl) rfl rfl rfl ty24 rfl rfl rfl rfl ?_; clear hE hS a w; intro a w hE hS
  refine WL.nil ?_
  refine W.seq ?_
  refine W.region ?_
  refine WL.vS hS hE (runs_plain rfl) (Gives.loadBA hE 0 rfl rfl ty24) rfl ?_; clear hE a; intro a hE
  obtain ⟨q58, hq59, hr⟩ := bindS hr
  have hc_ := PlanSolve_ok hS h56 hq59
  refine WL.fnq hE (hc_) (runs_plain rfl) bd19 rfl rfl rfl ?_
  clear hE hS hc_; rintro e w ⟨a60, c61, s63, rfl, hle64, h62, hS⟩; refine ⟨_, rfl, ?_⟩; clear a; intro a hE
  replace h56 := Sl.mono RPlanRule.mono hle64 h56
  refine WL.vS hS hE (runs_plain rfl) (Gives.p hE rfl) rfl ?_; clear hE a; intro a hE
  refine WL.vS hS hE (runs_plain rfl) (Gives.p hE rfl) rfl ?_; clear hE a; intro a hE
  refine WL.vS hS hE (runs_plain rfl) (Gives.p hE rfl) rfl ?_; clear hE a; intro a hE
  refine WL.vS hS hE (runs_plain rfl) (Gives.p hE rfl) rfl ?_; clear hE a; intro a hE
  refine WL.vS hS hE (runs_plain rfl) (Gives.p hE rfl) rfl ?_; clear hE a; intro a hE
  refine WL.nil ?_
  refine W.seq ?_
  obtain ⟨q66, hq65, hr⟩ := bindS hr
  refine W.cut (fun a w => ∃ (q69 : Bool), ∃ (s67 : Sg), s63.Le s67 ∧ q69 = q66 ∧ Rep a 21 [(0, .bool q69)] ∧ St w s67 (pt b57 (.cells #[.int .i64 60, .int .i64 3, .slice (some ⟨b51, 0, none⟩) 3 3] 24 (0, 0)) :: R)) ?_ ?_
  · refine W.gen fun K70 hK70 => ?_
    refine W.region ?_
    refine WL.vS hS hE (runs_plain rfl) (Gives.p hE rfl) rfl ?_; clear hE a; intro a hE
    refine WL.vS hS hE (runs_plain rfl) (Gives.p hE rfl) rfl ?_; clear hE a; intro a hE
    refine WL.vS hS hE (runs_plain rfl) (Gives.p hE rfl) rfl ?_; clear hE a; intro a hE
    rcases Bool.eq_false_or_eq_true (q58.2 == 0) with hg71 | hg71
    · replace hq65 := iteT hg71 hq65
      refine WL.vS hS hE (runs_if hE rfl rfl rfl hg71) (Gives.p hE rfl) rfl ?_; clear hE a; intro a hE
      refine WL.lit hE hS (e := 3) (es := 1) (vs := [(0, .int .i64 0), (1, .int .i64 20), (2, .int .i64 40)]) (cs := [.int .i64 0, .int .i64 20, .int .i64 40]) (runs_if hE rfl rfl rfl hg71) rfl (by kernel_rfl) rfl ?_; clear hE hS a w; intro b72 a w hE hS
      replace hS := hS.ptVec (es := 1) (m := 3) rfl (by decide)
      have h74 : Ev 1 (RI .i64) s63 [.int .i64 0, .int .i64 20, .int .i64 40] [0, 20, 40] := (Ev.cons (c1 := [.int .i64 0]) rfl rfl (Ev.cons (c1 := [.int .i64 20]) rfl rfl (Ev.cons (c1 := [.int .i64 40]) rfl rfl (Ev.nil))))
      have hF := hS.fixD RI.mono 0 rfl h74 (rfl); clear hS; obtain ⟨s75, hle76, hS, h77⟩ := hF
      replace h56 := Sl.mono RPlanRule.mono hle76 h56
      replace h62 := Sl.mono RI.mono hle76 h62
      obtain ⟨q78, hq79, hq65⟩ := bindS hq65
      have hc_ := SlicesEqualLint_ok hS h62 h77 hq79
      refine WL.fnq hE (hc_) (runs_if hE rfl rfl rfl hg71) bd21 rfl rfl rfl ?_
      clear hE hS hc_; rintro e w ⟨rfl, hS⟩; refine ⟨_, rfl, ?_⟩; clear a; intro a hE
      refine WL.vS hS hE (runs_plain rfl) (Gives.pickT hE rfl hg71 rfl) rfl ?_; clear hE a; intro a hE
      refine WL.vS hS hE (runs_plain rfl) (Gives.p hE rfl) rfl ?_; clear hE a; intro a hE
      refine WL.nil ?_
      subst hK70
      exact ⟨q78, s75, hle76, Option.some.inj hq65, hE.pick _ ⟨rfl, trivial⟩, hS⟩
    · replace hq65 := iteF hg71 hq65
      refine WL.no hE (runs_not hE rfl rfl rfl (by rw [hg71]; decide)) rfl ?_; clear hE a; intro a hE
      refine WL.no hE (runs_not hE rfl rfl rfl (by rw [hg71]; decide)) rfl ?_; clear hE a; intro a hE
      refine WL.no hE (runs_not hE rfl rfl rfl (by rw [hg71]; decide)) rfl ?_; clear hE a; intro a hE
      refine WL.vS hS hE (runs_plain rfl) (Gives.pickF hE rfl hg71 rfl) rfl ?_; clear hE a; intro a hE
      refine WL.vS hS hE (runs_plain rfl) (Gives.p hE rfl) rfl ?_; clear hE a; intro a hE
      refine WL.nil ?_
      subst hK70
      exact ⟨false, s63, (Sg.Le.refl _), Option.some.inj hq65, hE.pick _ ⟨rfl, trivial⟩, hS⟩
  · clear hE hS a w; rintro a w ⟨q69, s67, hle68, rfl, hE, hS⟩
    replace h56 := Sl.mono RPlanRule.mono hle68 h56
    refine W.ret ?_
    refine finG (fn := Try.f9) (rs := [.tmp 0]) (vs := [_]) hE rfl ⟨rfl, trivial⟩ ?_
    obtain rfl := Option.some.inj hr
    replace hS := hS.tail
    exact ⟨rfl, (hS.down (Sg.Le.trans (Sg.Le.trans hle55 hle64) hle68))⟩
set_option maxHeartbeats 8000000 in
theorem Fishref2GapOf_ok {fu : Nat}  {w : World} {s : Sg} {R : List HP} {x0 : PlanPeriodic} {a0_0 : Option Addr} {c0_0 : Nat} {x1 : PlanRule} {x2 : List Int} {a2 : Option Addr} {c2 : Nat} (hS : St w s (R)) (_h0_0 : Sl 5 RPlanRule s a0_0 c0_0 x0.Rules) (h2 : Sl 1 (RI .i64) s a2 c2 x2) {r : Int} (hr : Fishref2GapOf fu x0 x1 x2 = some r) :
    Calls Try.prog 18 [.agg [.int .i64 x0.Period, .int .i64 x0.Events, .slice a0_0 x0.Rules.length c0_0].toArray, .agg (PlanRule.cells x1).toArray, .slice a2 x2.length c2].toArray w (fun e w => e = .returned (.int .i64 r) ∧ St w s (R)) := by
  refine enter Try.func18 rfl rfl rfl fun a hE => ?_
  rw [Fishref2GapOf] at hr
  refine W.seq ?_
  refine W.region ?_
  refine WL.box hE hS (runs_plain rfl) rfl rfl rfl ?_; clear hE hS a w; intro b51 a w hE hS
  refine WL.box hE hS (runs_plain rfl) rfl rfl rfl ?_; clear hE hS a w; intro b52 a w hE hS
  refine WL.vS hS hE (runs_plain rfl) (Gives.p hE rfl) rfl ?_; clear hE a; intro a hE
  refine WL.nil ?_
  refine W.seq ?_
  refine W.regionQ (C := fun w => St w s (pt b52 (.cells (PlanRule.cells x1).toArray 37 (0, 0)) :: pt b51 (.cells #[.int .i64 x0.Period, .int .i64 x0.Events, .slice a0_0 x0.Rules.length c0_0] 24 (0, 0)) :: R)) mixed (by kernel_rfl) hS.drew ?_
  refine QL.v hE (runs_plain rfl) (Gives.p hE rfl) rfl ?_; clear hE a; intro a hE
  refine QL.v hE (runs_plain rfl) (Gives.fld hE rfl fl37_1) rfl ?_; clear hE a; intro a hE
  refine QL.v hE (runs_plain rfl) (Gives.loadB hE 0 rfl rfl rfl ty3) rfl ?_; clear hE a; intro a hE
  obtain ⟨x53, hx54, hr⟩ := bindS hr
  obtain ⟨hi55, hlt56, hy57⟩ := gx_some hx54
  obtain ⟨cs58, hl59, hR60, hat61⟩ := h2.at hy57
  subst hR60
  refine QL.v hE (runs_plain rfl) (Gives.idx hE (x1.To).toNat rfl rfl sl29 hi55 hlt56 (h2.aok hlt56)) rfl ?_; clear hE a; intro a hE
  refine QL.v hE (runs_plain rfl) (Gives.load1 hE rfl (fun w h => hat61 w _ h) ty3) rfl ?_; clear hE a; intro a hE
  refine QL.v hE (runs_plain rfl) (Gives.p hE rfl) rfl ?_; clear hE a; intro a hE
  refine QL.v hE (runs_plain rfl) (Gives.fld hE rfl fl37_0) rfl ?_; clear hE a; intro a hE
  refine QL.v hE (runs_plain rfl) (Gives.loadB hE 0 rfl rfl rfl ty3) rfl ?_; clear hE a; intro a hE
  obtain ⟨x62, hx63, hr⟩ := bindS hr
  obtain ⟨hi64, hlt65, hy66⟩ := gx_some hx63
  obtain ⟨cs67, hl68, hR69, hat70⟩ := h2.at hy66
  subst hR69
  refine QL.v hE (runs_plain rfl) (Gives.idx hE (x1.From).toNat rfl rfl sl29 hi64 hlt65 (h2.aok hlt65)) rfl ?_; clear hE a; intro a hE
  refine QL.v hE (runs_plain rfl) (Gives.load1 hE rfl (fun w h => hat70 w _ h) ty3) rfl ?_; clear hE a; intro a hE
  refine QL.v hE (runs_plain rfl) (Gives.p hE rfl) rfl ?_; clear hE a; intro a hE
  refine QL.v hE (runs_plain rfl) (Gives.p hE rfl) rfl ?_; clear hE a; intro a hE
  refine QL.nil ?_; clear hS w; intro w hS
  refine W.seq ?_
  obtain ⟨q72, hq71, hr⟩ := bindS hr
  refine W.cut (fun a w => ∃ (q77 : Int), q77 = q72 ∧ Rep a 39 [(3, .pointer (some ⟨b51, 0, none⟩)), (4, .pointer (some ⟨b52, 0, none⟩)), (7, .int .i64 q77)] ∧ St w s (pt b52 (.cells (PlanRule.cells x1).toArray 37 (0, 0)) :: pt b51 (.cells #[.int .i64 x0.Period, .int .i64 x0.Events, .slice a0_0 x0.Rules.length c0_0] 24 (0, 0)) :: R)) ?_ ?_
  · refine W.block ?_
    refine W.loop (fun m a w => ∃ (n73 : Nat), ∃ (q77 : Int), n73 = m ∧ Fishref2GapOf.loop1 x0 x1 n73 q77 = some q72 ∧ Rep a 39 [(3, .pointer (some ⟨b51, 0, none⟩)), (4, .pointer (some ⟨b52, 0, none⟩)), (7, .int .i64 q77)] ∧ St w s (pt b52 (.cells (PlanRule.cells x1).toArray 37 (0, 0)) :: pt b51 (.cells #[.int .i64 x0.Period, .int .i64 x0.Events, .slice a0_0 x0.Rules.length c0_0] 24 (0, 0)) :: R)) (m := fu) ⟨fu, (w64 (x53 - x62)), rfl, hq71, hE.pick _ ⟨rfl, rfl, rfl, trivial⟩, hS⟩ ?_
    clear hE hS a w hq71; rintro m74 a w ⟨n73, q77, rfl, hq71, hE, hS⟩
    refine W.gen fun K78 hK78 => ?_
    rcases n73 with _ | n73
    · rw [Fishref2GapOf.loop1] at hq71; exact absurd hq71 (by simp)
    rw [Fishref2GapOf.loop1] at hq71
    refine W.seq ?_
    refine W.seq ?_
    refine W.region ?_
    refine WL.vS hS hE (runs_plain rfl) (Gives.p hE rfl) rfl ?_; clear hE a; intro a hE
    refine WL.vS hS hE (runs_plain rfl) (Gives.fld hE rfl fl37_2) rfl ?_; clear hE a; intro a hE
    refine WL.vS hS hE (runs_plain rfl) (Gives.loadB hE 0 rfl rfl rfl ty3) rfl ?_; clear hE a; intro a hE
    refine WL.vS hS hE (runs_plain rfl) (Gives.p hE rfl) rfl ?_; clear hE a; intro a hE
    refine WL.nil ?_
    refine W.cond hE rfl (fun hc79 => ?_) (fun hc79 => ?_)
    · replace hq71 := iteT hc79 hq71
      refine W.skip ?_
      refine W.block ?_
      refine W.region ?_
      refine WL.vS hS hE (runs_plain rfl) (Gives.p hE rfl) rfl ?_; clear hE a; intro a hE
      refine WL.vS hS hE (runs_plain rfl) (Gives.fld hE rfl fl24_0) rfl ?_; clear hE a; intro a hE
      refine WL.vS hS hE (runs_plain rfl) (Gives.loadB hE 1 rfl rfl rfl ty3) rfl ?_; clear hE a; intro a hE
      refine WL.vS hS hE (runs_plain rfl) (Gives.p hE rfl) rfl ?_; clear hE a; intro a hE
      refine WL.vS hS hE (runs_plain rfl) (Gives.p hE rfl) rfl ?_; clear hE a; intro a hE
      refine WL.nil ?_
      subst hK78
      exact ⟨n73, Nat.lt_succ_self _, n73, (w64 (q77 + x0.Period)), rfl, hq71, hE.pick _ ⟨rfl, rfl, rfl, trivial⟩, hS⟩
    · replace hq71 := iteF hc79 hq71
      subst hK78
      refine W.exit rfl ?_
      exact ⟨q77, Option.some.inj hq71, hE.pick _ ⟨rfl, rfl, rfl, trivial⟩, hS⟩
  · clear hE hS a w; rintro a w ⟨q77, rfl, hE, hS⟩
    refine W.seq ?_
    obtain ⟨q81, hq80, hr⟩ := bindS hr
    refine W.cut (fun a w => ∃ (q86 : Int), q86 = q81 ∧ Rep a 39 [(7, .int .i64 q86)] ∧ St w s (pt b52 (.cells (PlanRule.cells x1).toArray 37 (0, 0)) :: pt b51 (.cells #[.int .i64 x0.Period, .int .i64 x0.Events, .slice a0_0 x0.Rules.length c0_0] 24 (0, 0)) :: R)) ?_ ?_
    · refine W.block ?_
      refine W.loop (fun m a w => ∃ (n82 : Nat), ∃ (q86 : Int), n82 = m ∧ Fishref2GapOf.loop2 x0 x1 n82 q86 = some q81 ∧ Rep a 39 [(3, .pointer (some ⟨b51, 0, none⟩)), (4, .pointer (some ⟨b52, 0, none⟩)), (7, .int .i64 q86)] ∧ St w s (pt b52 (.cells (PlanRule.cells x1).toArray 37 (0, 0)) :: pt b51 (.cells #[.int .i64 x0.Period, .int .i64 x0.Events, .slice a0_0 x0.Rules.length c0_0] 24 (0, 0)) :: R)) (m := fu) ⟨fu, q77, rfl, hq80, hE.pick _ ⟨rfl, rfl, rfl, trivial⟩, hS⟩ ?_
      clear hE hS a w hq80; rintro m83 a w ⟨n82, q86, rfl, hq80, hE, hS⟩
      refine W.gen fun K87 hK87 => ?_
      rcases n82 with _ | n82
      · rw [Fishref2GapOf.loop2] at hq80; exact absurd hq80 (by simp)
      rw [Fishref2GapOf.loop2] at hq80
      refine W.seq ?_
      refine W.seq ?_
      refine W.region ?_
      refine WL.vS hS hE (runs_plain rfl) (Gives.p hE rfl) rfl ?_; clear hE a; intro a hE
      refine WL.vS hS hE (runs_plain rfl) (Gives.fld hE rfl fl37_2) rfl ?_; clear hE a; intro a hE
      refine WL.vS hS hE (runs_plain rfl) (Gives.loadB hE 0 rfl rfl rfl ty3) rfl ?_; clear hE a; intro a hE
      refine WL.vS hS hE (runs_plain rfl) (Gives.fld hE rfl fl24_0) rfl ?_; clear hE a; intro a hE
      refine WL.vS hS hE (runs_plain rfl) (Gives.loadB hE 1 rfl rfl rfl ty3) rfl ?_; clear hE a; intro a hE
      refine WL.vS hS hE (runs_plain rfl) (Gives.p hE rfl) rfl ?_; clear hE a; intro a hE
      refine WL.vS hS hE (runs_plain rfl) (Gives.p hE rfl) rfl ?_; clear hE a; intro a hE
      refine WL.nil ?_
      refine W.cond hE rfl (fun hc88 => ?_) (fun hc88 => ?_)
      · replace hq80 := iteT hc88 hq80
        refine W.skip ?_
        refine W.block ?_
        refine W.region ?_
        refine WL.vS hS hE (runs_plain rfl) (Gives.p hE rfl) rfl ?_; clear hE a; intro a hE
        refine WL.vS hS hE (runs_plain rfl) (Gives.fld hE rfl fl24_0) rfl ?_; clear hE a; intro a hE
        refine WL.vS hS hE (runs_plain rfl) (Gives.loadB hE 1 rfl rfl rfl ty3) rfl ?_; clear hE a; intro a hE
        refine WL.vS hS hE (runs_plain rfl) (Gives.p hE rfl) rfl ?_; clear hE a; intro a hE
        refine WL.vS hS hE (runs_plain rfl) (Gives.p hE rfl) rfl ?_; clear hE a; intro a hE
        refine WL.nil ?_
        subst hK87
        exact ⟨n82, Nat.lt_succ_self _, n82, (w64 (q86 - x0.Period)), rfl, hq80, hE.pick _ ⟨rfl, rfl, rfl, trivial⟩, hS⟩
      · replace hq80 := iteF hc88 hq80
        subst hK87
        refine W.exit rfl ?_
        exact ⟨q86, Option.some.inj hq80, hE.pick _ ⟨rfl, trivial⟩, hS⟩
    · clear hE hS a w; rintro a w ⟨q86, rfl, hE, hS⟩
      refine W.seq ?_
      refine W.region ?_
      refine WL.vS hS hE (runs_plain rfl) (Gives.p hE rfl) rfl ?_; clear hE a; intro a hE
      refine WL.vS hS hE (runs_plain rfl) (Gives.p hE rfl) rfl ?_; clear hE a; intro a hE
      refine WL.nil ?_
      refine W.ret ?_
      refine finG (fn := Try.f18) (rs := [.tmp 6]) (vs := [_]) hE rfl ⟨rfl, trivial⟩ ?_
      obtain rfl := Option.some.inj hr
      replace hS := hS.tail
      replace hS := hS.tail
      exact ⟨rfl, hS⟩
set_option maxHeartbeats 8000000 in
theorem Fishref2BrokenOf_1_v1_ok {fu : Nat}  {w : World} {s : Sg} {R : List HP} {pb0 : Nat} {pb1 : Nat} {x0 : PlanRule} {y0 : PlanPeriodic} {a_y0_2 : Option Addr} {c_y0_2 : Nat} {y1 : List Int} {a_y1_0 : Option Addr} {c_y1_0 : Nat} (hS : St w s (pt pb0 (.cells #[.int .i64 y0.Period, .int .i64 y0.Events, .slice a_y0_2 y0.Rules.length c_y0_2] 24 (0, 0)) :: pt pb1 (.cells #[.slice a_y1_0 y1.length c_y1_0] 29 (0, 0)) :: R)) (h_y0_2 : Sl 5 RPlanRule s a_y0_2 c_y0_2 y0.Rules) (h_y1_0 : Sl 1 (RI .i64) s a_y1_0 c_y1_0 y1) {r : Bool} (hr : Fishref2BrokenOf_1_v1 fu x0 y0 y1 = some r) :
    Calls Try.prog 42 [.agg (PlanRule.cells x0).toArray, .pointer (some ⟨pb0, 0, none⟩), .pointer (some ⟨pb1, 0, none⟩)].toArray w (fun e w => e = .returned (.bool r) ∧ St w s (pt pb0 (.cells #[.int .i64 y0.Period, .int .i64 y0.Events, .slice a_y0_2 y0.Rules.length c_y0_2] 24 (0, 0)) :: pt pb1 (.cells #[.slice a_y1_0 y1.length c_y1_0] 29 (0, 0)) :: R)) := by
  refine enter Try.func42 rfl rfl rfl fun a hE => ?_
  rw [Fishref2BrokenOf_1_v1] at hr
  refine W.seq ?_
  refine W.region ?_
  refine WL.box hE hS (runs_plain rfl) rfl rfl rfl ?_; clear hE hS a w; intro b51 a w hE hS
  refine WL.vS hS hE (runs_plain rfl) (Gives.p hE rfl) rfl ?_; clear hE a; intro a hE
  refine WL.nil ?_
  refine W.seq ?_
  refine W.regionQ (C := fun w => St w s (pt b51 (.cells (PlanRule.cells x0).toArray 37 (0, 0)) :: pt pb0 (.cells #[.int .i64 y0.Period, .int .i64 y0.Events, .slice a_y0_2 y0.Rules.length c_y0_2] 24 (0, 0)) :: pt pb1 (.cells #[.slice a_y1_0 y1.length c_y1_0] 29 (0, 0)) :: R)) mixed (by kernel_rfl) hS.drew ?_
  refine QL.v hE (runs_plain rfl) (Gives.loadBA hE 1 rfl rfl ty24) rfl ?_; clear hE a; intro a hE
  refine QL.v hE (runs_plain rfl) (Gives.loadBA hE 0 rfl rfl ty37) rfl ?_; clear hE a; intro a hE
  refine QL.v hE (runs_plain rfl) (Gives.loadB hE 2 rfl rfl rfl ty29) rfl ?_; clear hE a; intro a hE
  obtain ⟨q52, hq53, hr⟩ := bindS hr
  refine QL.fnq hE (fun w hS => Fishref2GapOf_ok hS h_y0_2 h_y1_0 hq53) (runs_plain rfl) bd18 rfl rfl rfl ?_; clear hE a; intro a hE
  refine QL.v hE (runs_plain rfl) (Gives.fld hE rfl fl37_3) rfl ?_; clear hE a; intro a hE
  refine QL.v hE (runs_plain rfl) (Gives.loadB hE 0 rfl rfl rfl ty3) rfl ?_; clear hE a; intro a hE
  refine QL.v hE (runs_plain rfl) (Gives.p hE rfl) rfl ?_; clear hE a; intro a hE
  refine QL.v hE (runs_plain rfl) (Gives.p hE rfl) rfl ?_; clear hE a; intro a hE
  refine QL.nil ?_; clear hS w; intro w hS
  refine W.ret ?_
  refine finG (fn := Try.f42) (rs := [.tmp 4]) (vs := [_]) hE rfl ⟨rfl, trivial⟩ ?_
  obtain rfl := Option.some.inj hr
  replace hS := hS.tail
  exact ⟨rfl, hS⟩
set_option maxHeartbeats 8000000 in
theorem SlicesIndexFuncLplanRule_v2_ok {fu : Nat}  {w : World} {s : Sg} {R : List HP} {pb0 : Nat} {pb1 : Nat} {x0 : List PlanRule} {a0 : Option Addr} {c0 : Nat} {y0 : PlanPeriodic} {a_y0_2 : Option Addr} {c_y0_2 : Nat} {y1 : List Int} {a_y1_0 : Option Addr} {c_y1_0 : Nat} (hS : St w s (pt pb0 (.cells #[.int .i64 y0.Period, .int .i64 y0.Events, .slice a_y0_2 y0.Rules.length c_y0_2] 24 (0, 0)) :: pt pb1 (.cells #[.slice a_y1_0 y1.length c_y1_0] 29 (0, 0)) :: R)) (h0 : Sl 5 RPlanRule s a0 c0 x0) (h_y0_2 : Sl 5 RPlanRule s a_y0_2 c_y0_2 y0.Rules) (h_y1_0 : Sl 1 (RI .i64) s a_y1_0 c_y1_0 y1) {r : Int} (hr : SlicesIndexFuncLplanRule_v2 fu x0 y0 y1 = some r) :
    Calls Try.prog 39 [.slice a0 x0.length c0, .func (.func 42) #[] #[.pointer (some ⟨pb0, 0, none⟩), .pointer (some ⟨pb1, 0, none⟩)]].toArray w (fun e w => e = .returned (.int .i64 r) ∧ St w s (pt pb0 (.cells #[.int .i64 y0.Period, .int .i64 y0.Events, .slice a_y0_2 y0.Rules.length c_y0_2] 24 (0, 0)) :: pt pb1 (.cells #[.slice a_y1_0 y1.length c_y1_0] 29 (0, 0)) :: R)) := by
  refine enter Try.func39 rfl rfl rfl fun a hE => ?_
  rw [SlicesIndexFuncLplanRule_v2] at hr
  refine W.seq ?_
  refine W.region ?_
  refine WL.vS hS hE (runs_plain rfl) (Gives.p hE rfl) rfl ?_; clear hE a; intro a hE
  refine WL.nil ?_
  refine W.seq ?_
  refine W.seq ?_
  refine W.region ?_
  refine WL.vS hS hE (runs_plain rfl) (Gives.p hE rfl) rfl ?_; clear hE a; intro a hE
  refine WL.vS hS hE (runs_plain rfl) (Gives.len hE rfl sl22) rfl ?_; clear hE a; intro a hE
  refine WL.vS hS hE (runs_plain rfl) (Gives.p hE rfl) rfl ?_; clear hE a; intro a hE
  refine WL.nil ?_
  obtain ⟨q52, hq51, hr⟩ := bindS hr
  refine W.cut (fun a w => (.next ()) = q52 ∧ Rep a 19 [] ∧ St w s (pt pb0 (.cells #[.int .i64 y0.Period, .int .i64 y0.Events, .slice a_y0_2 y0.Rules.length c_y0_2] 24 (0, 0)) :: pt pb1 (.cells #[.slice a_y1_0 y1.length c_y1_0] 29 (0, 0)) :: R)) ?_ ?_
  · refine W.block ?_
    refine W.loop (fun m a w => ∃ (rest55 : List PlanRule) (k53 : Nat), rest55.length = m ∧ x0.drop k53 = rest55 ∧ SlicesIndexFuncLplanRule_v2.loop1 y0 y1 fu rest55 k53 = some q52 ∧ Rep a 19 [(0, .slice a0 x0.length c0), (1, .func (.func 42) #[] #[.pointer (some ⟨pb0, 0, none⟩), .pointer (some ⟨pb1, 0, none⟩)]), (7, .int .i64 ((x0).length : Int)), (8, .int .i64 ((k53 : Nat) : Int))] ∧ St w s (pt pb0 (.cells #[.int .i64 y0.Period, .int .i64 y0.Events, .slice a_y0_2 y0.Rules.length c_y0_2] 24 (0, 0)) :: pt pb1 (.cells #[.slice a_y1_0 y1.length c_y1_0] 29 (0, 0)) :: R)) (m := x0.length) ⟨x0, 0, rfl, rfl, hq51, hE.pick _ ⟨rfl, rfl, rfl, rfl, trivial⟩, hS⟩ ?_
    clear hE hS a w hq51; rintro m59 a w ⟨rest55, k53, rfl, hd56, hq51, hE, hS⟩
    refine W.gen fun K62 hK62 => ?_
    rcases rest55 with _ | ⟨x54, rest55⟩
    · have hlt57 := drop_nil hd56
      refine W.seq ?_
      refine W.region ?_
      refine WL.vS hS hE (runs_plain rfl) (Gives.p hE rfl) rfl ?_; clear hE a; intro a hE
      refine WL.nil ?_
      refine W.seq ?_
      refine W.condF hE rfl (decide_eq_false (by omega)) ?_
      subst hK62
      refine W.exit rfl ?_
      exact ⟨Option.some.inj hq51, hE.pick _ trivial, hS⟩
    · obtain ⟨hlt57, hx58, hd56⟩ := drop_cons hd56
      rw [SlicesIndexFuncLplanRule_v2.loop1] at hq51
      refine W.seq ?_
      refine W.region ?_
      refine WL.vS hS hE (runs_plain rfl) (Gives.p hE rfl) rfl ?_; clear hE a; intro a hE
      refine WL.nil ?_
      refine W.seq ?_
      refine W.condT hE rfl (decide_eq_true (by omega)) ?_
      refine W.skip ?_
      refine W.seq ?_
      refine W.block ?_
      refine W.seq ?_
      refine W.region ?_
      refine WL.vS hS hE (runs_plain rfl) (Gives.p hE rfl) rfl ?_; clear hE a; intro a hE
      refine WL.vS hS hE (runs_plain rfl) (Gives.p hE rfl) rfl ?_; clear hE a; intro a hE
      refine WL.nil ?_
      refine W.seq ?_
      refine W.region ?_
      refine WL.vS hS hE (runs_plain rfl) (Gives.p hE rfl) rfl ?_; clear hE a; intro a hE
      refine WL.vS hS hE (runs_plain rfl) (Gives.p hE rfl) rfl ?_; clear hE a; intro a hE
      refine WL.vS hS hE (runs_plain rfl) (Gives.p hE rfl) rfl ?_; clear hE a; intro a hE
      obtain ⟨cs63, hl64, hR65, hat66⟩ := h0.at hx58
      subst hR65
      refine WL.vS hS hE (runs_plain rfl) (Gives.idx hE k53 rfl rfl sl22 rfl hlt57 (h0.aok hlt57)) rfl ?_; clear hE a; intro a hE
      refine WL.vS hS hE (runs_plain rfl) (Gives.loadA hE rfl (fun w h => hat66 w _ h) ty37) rfl ?_; clear hE a; intro a hE
      obtain ⟨q67, hq68, hq51⟩ := bindS hq51
      have hc_ := Fishref2BrokenOf_1_v1_ok (y0 := y0) hS h_y0_2 h_y1_0 hq68
      refine WL.fnw hE (hc_) rfl (runs_plain rfl) bd42 rfl rfl rfl ?_
      clear hE hS hc_; rintro e w ⟨rfl, hS⟩; refine ⟨_, rfl, ?_⟩; clear a; intro a hE
      refine WL.nil ?_
      refine W.cond hE rfl (fun hc69 => ?_) (fun hc69 => ?_)
      · replace hq51 := iteT hc69 hq51
        refine W.seq ?_
        refine W.region ?_
        refine WL.vS hS hE (runs_plain rfl) (Gives.p hE rfl) rfl ?_; clear hE a; intro a hE
        refine WL.vS hS hE (runs_plain rfl) (Gives.p hE rfl) rfl ?_; clear hE a; intro a hE
        refine WL.nil ?_
        refine W.ret ?_
        subst hK62
        rw [← Option.some.inj hq51] at hr
        dsimp only at hr
        refine finG (fn := Try.f39) (rs := [.tmp 4]) (vs := [_]) hE rfl ⟨rfl, trivial⟩ ?_
        obtain rfl := Option.some.inj hr
        exact ⟨rfl, hS⟩
      · replace hq51 := iteF hc69 hq51
        refine W.skip ?_
        refine W.region ?_
        refine WL.vS hS hE (runs_plain rfl) (Gives.inc hE rfl (by have := h0.small; omega)) rfl ?_; clear hE a; intro a hE
        refine WL.vS hS hE (runs_plain rfl) (Gives.p hE rfl) rfl ?_; clear hE a; intro a hE
        refine WL.nil ?_
        subst hK62
        exact ⟨rest55.length, Nat.lt_succ_self _, rest55, k53 + 1, rfl, hd56, hq51, hE.pick _ ⟨rfl, rfl, rfl, rfl, trivial⟩, hS⟩
  · clear hE hS a w; rintro a w ⟨rfl, hE, hS⟩
    dsimp only at hr
    refine W.seq ?_
    refine W.region ?_
    refine WL.vS hS hE (runs_plain rfl) (Gives.p hE rfl) rfl ?_; clear hE a; intro a hE
    refine WL.nil ?_
    refine W.ret ?_
    refine finG (fn := Try.f39) (rs := [.tmp 4]) (vs := [_]) hE rfl ⟨rfl, trivial⟩ ?_
    obtain rfl := Option.some.inj hr
    exact ⟨rfl, hS⟩
set_option maxHeartbeats 8000000 in
theorem Fishref2BrokenOf_ok {fu : Nat}  {w : World} {s : Sg} {R : List HP} {x0 : PlanPeriodic} {a0_0 : Option Addr} {c0_0 : Nat} {x1 : List Int} {a1 : Option Addr} {c1 : Nat} (hS : St w s (R)) (h0_0 : Sl 5 RPlanRule s a0_0 c0_0 x0.Rules) (h1 : Sl 1 (RI .i64) s a1 c1 x1) {r : Int} (hr : Fishref2BrokenOf fu x0 x1 = some r) :
    Calls Try.prog 16 [.agg [.int .i64 x0.Period, .int .i64 x0.Events, .slice a0_0 x0.Rules.length c0_0].toArray, .slice a1 x1.length c1].toArray w (fun e w => e = .returned (.int .i64 r) ∧ St w s (R)) := by
  refine enter Try.func16 rfl rfl rfl fun a hE => ?_
  rw [Fishref2BrokenOf] at hr
  refine W.seq ?_
  refine W.region ?_
  refine WL.box hE hS (runs_plain rfl) rfl rfl rfl ?_; clear hE hS a w; intro b51 a w hE hS
  refine WL.box hE hS (runs_plain rfl) rfl rfl rfl ?_; clear hE hS a w; intro b52 a w hE hS
  refine WL.vS hS hE (runs_plain rfl) (Gives.p hE rfl) rfl ?_; clear hE a; intro a hE
  refine WL.nil ?_
  refine W.seq ?_
  refine W.region ?_
  refine WL.vS hS hE (runs_plain rfl) (Gives.fld hE rfl fl24_2) rfl ?_; clear hE a; intro a hE
  refine WL.vS hS hE (runs_plain rfl) (Gives.loadB hE 1 rfl rfl rfl ty22) rfl ?_; clear hE a; intro a hE
  refine WL.vS hS hE (runs_plain rfl) (Gives.mkfn hE (vs := [.pointer (some ⟨b51, 0, none⟩), .pointer (some ⟨b52, 0, none⟩)]) rfl) rfl ?_; clear hE a; intro a hE
  obtain ⟨q53, hq54, hr⟩ := bindS hr
  replace hS := hS.front 0 rfl
  replace hS := hS.front 1 rfl
  have hc_ := SlicesIndexFuncLplanRule_v2_ok (y0 := x0) hS h0_0 h0_0 h1 hq54
  refine WL.fnq hE (hc_) (runs_plain rfl) bd39 rfl rfl rfl ?_
  clear hE hS hc_; rintro e w ⟨rfl, hS⟩; refine ⟨_, rfl, ?_⟩; clear a; intro a hE
  refine WL.vS hS hE (runs_plain rfl) (Gives.p hE rfl) rfl ?_; clear hE a; intro a hE
  refine WL.nil ?_
  refine W.ret ?_
  refine finG (fn := Try.f16) (rs := [.tmp 4]) (vs := [_]) hE rfl ⟨rfl, trivial⟩ ?_
  obtain rfl := Option.some.inj hr
  replace hS := hS.tail
  replace hS := hS.tail
  exact ⟨rfl, hS⟩
set_option maxHeartbeats 8000000 in
theorem Fishref2CostOf_ok {fu : Nat}  {w : World} {s : Sg} {R : List HP} {x0 : PlanPeriodic} {a0_0 : Option Addr} {c0_0 : Nat} {x1 : List Int} {a1 : Option Addr} {c1 : Nat} (hS : St w s (R)) (h0_0 : Sl 5 RPlanRule s a0_0 c0_0 x0.Rules) (h1 : Sl 1 (RI .i64) s a1 c1 x1) {r : Int} (hr : Fishref2CostOf fu x0 x1 = some r) :
    Calls Try.prog 17 [.agg [.int .i64 x0.Period, .int .i64 x0.Events, .slice a0_0 x0.Rules.length c0_0].toArray, .slice a1 x1.length c1].toArray w (fun e w => e = .returned (.int .i64 r) ∧ St w s (R)) := by
  refine enter Try.func17 rfl rfl rfl fun a hE => ?_
  rw [Fishref2CostOf] at hr
  refine W.seq ?_
  refine W.region ?_
  refine WL.box hE hS (runs_plain rfl) rfl rfl rfl ?_; clear hE hS a w; intro b51 a w hE hS
  refine WL.vS hS hE (runs_plain rfl) (Gives.p hE rfl) rfl ?_; clear hE a; intro a hE
  refine WL.nil ?_
  refine W.seq ?_
  refine W.region ?_
  refine WL.vS hS hE (runs_plain rfl) (Gives.p hE rfl) rfl ?_; clear hE a; intro a hE
  refine WL.nil ?_
  refine W.seq ?_
  refine W.seq ?_
  refine W.region ?_
  refine WL.vS hS hE (runs_plain rfl) (Gives.fld hE rfl fl24_2) rfl ?_; clear hE a; intro a hE
  refine WL.vS hS hE (runs_plain rfl) (Gives.loadB hE 0 rfl rfl rfl ty22) rfl ?_; clear hE a; intro a hE
  refine WL.vS hS hE (runs_plain rfl) (Gives.len hE rfl sl22) rfl ?_; clear hE a; intro a hE
  refine WL.vS hS hE (runs_plain rfl) (Gives.p hE rfl) rfl ?_; clear hE a; intro a hE
  refine WL.nil ?_
  obtain ⟨q53, hq52, hr⟩ := bindS hr
  refine W.cut (fun a w => ∃ (q63 : Int), q63 = q53 ∧ Rep a 29 [(5, .int .i64 q63)] ∧ St w s (pt b51 (.cells #[.int .i64 x0.Period, .int .i64 x0.Events, .slice a0_0 x0.Rules.length c0_0] 24 (0, 0)) :: R)) ?_ ?_
  · refine W.block ?_
    refine W.loop (fun m a w => ∃ (rest56 : List PlanRule) (k54 : Nat), ∃ (q63 : Int), rest56.length = m ∧ x0.Rules.drop k54 = rest56 ∧ Fishref2CostOf.loop1 x0 x1 fu rest56 q63 = some q53 ∧ Rep a 29 [(1, .slice a1 x1.length c1), (2, .pointer (some ⟨b51, 0, none⟩)), (5, .int .i64 q63), (9, .slice a0_0 x0.Rules.length c0_0), (10, .int .i64 ((x0.Rules).length : Int)), (11, .int .i64 ((k54 : Nat) : Int))] ∧ St w s (pt b51 (.cells #[.int .i64 x0.Period, .int .i64 x0.Events, .slice a0_0 x0.Rules.length c0_0] 24 (0, 0)) :: R)) (m := x0.Rules.length) ⟨x0.Rules, 0, 0, rfl, rfl, hq52, hE.pick _ ⟨rfl, rfl, rfl, rfl, rfl, rfl, trivial⟩, hS⟩ ?_
    clear hE hS a w hq52; rintro m60 a w ⟨rest56, k54, q63, rfl, hd57, hq52, hE, hS⟩
    refine W.gen fun K64 hK64 => ?_
    rcases rest56 with _ | ⟨x55, rest56⟩
    · have hlt58 := drop_nil hd57
      refine W.seq ?_
      refine W.region ?_
      refine WL.vS hS hE (runs_plain rfl) (Gives.p hE rfl) rfl ?_; clear hE a; intro a hE
      refine WL.nil ?_
      refine W.seq ?_
      refine W.condF hE rfl (decide_eq_false (by omega)) ?_
      subst hK64
      refine W.exit rfl ?_
      exact ⟨q63, Option.some.inj hq52, hE.pick _ ⟨rfl, trivial⟩, hS⟩
    · obtain ⟨hlt58, hx59, hd57⟩ := drop_cons hd57
      rw [Fishref2CostOf.loop1] at hq52
      refine W.seq ?_
      refine W.region ?_
      refine WL.vS hS hE (runs_plain rfl) (Gives.p hE rfl) rfl ?_; clear hE a; intro a hE
      refine WL.nil ?_
      refine W.seq ?_
      refine W.condT hE rfl (decide_eq_true (by omega)) ?_
      refine W.skip ?_
      refine W.seq ?_
      refine W.block ?_
      refine W.seq ?_
      refine W.region ?_
      obtain ⟨cs65, hl66, hR67, hat68⟩ := h0_0.at hx59
      subst hR67
      refine WL.vS hS hE (runs_plain rfl) (Gives.idx hE k54 rfl rfl sl22 rfl hlt58 (h0_0.aok hlt58)) rfl ?_; clear hE a; intro a hE
      refine WL.vS hS hE (runs_plain rfl) (Gives.loadA hE rfl (fun w h => hat68 w _ h) ty37) rfl ?_; clear hE a; intro a hE
      refine WL.alloc hE hS (runs_plain rfl) zr37 rfl ?_; clear hE hS a w; intro b69 a w hE hS
      refine WL.storeI hE hS 0 rfl (PlanRule.cells x55) (runs_plain rfl) rfl rfl rfl ty37 rfl rfl rfl rfl ?_; clear hE hS a w; intro a w hE hS
      refine WL.nil ?_
      refine W.regionQ (C := fun w => St w s (pt b69 (.cells (PlanRule.cells x55).toArray 37 (0, 0)) :: pt b51 (.cells #[.int .i64 x0.Period, .int .i64 x0.Events, .slice a0_0 x0.Rules.length c0_0] 24 (0, 0)) :: R)) mixed (by kernel_rfl) hS.drew ?_
      refine QL.v hE (runs_plain rfl) (Gives.p hE rfl) rfl ?_; clear hE a; intro a hE
      refine QL.v hE (runs_plain rfl) (Gives.fld hE rfl fl37_4) rfl ?_; clear hE a; intro a hE
      refine QL.v hE (runs_plain rfl) (Gives.loadB hE 0 rfl rfl rfl ty3) rfl ?_; clear hE a; intro a hE
      refine QL.v hE (runs_plain rfl) (Gives.loadBA hE 1 rfl rfl ty24) rfl ?_; clear hE a; intro a hE
      refine QL.v hE (runs_plain rfl) (Gives.loadBA hE 0 rfl rfl ty37) rfl ?_; clear hE a; intro a hE
      refine QL.v hE (runs_plain rfl) (Gives.p hE rfl) rfl ?_; clear hE a; intro a hE
      obtain ⟨q70, hq71, hq52⟩ := bindS hq52
      refine QL.fnq hE (fun w hS => Fishref2GapOf_ok hS h0_0 h1 hq71) (runs_plain rfl) bd18 rfl rfl rfl ?_; clear hE a; intro a hE
      refine QL.v hE (runs_plain rfl) (Gives.fld hE rfl fl37_2) rfl ?_; clear hE a; intro a hE
      refine QL.v hE (runs_plain rfl) (Gives.loadB hE 0 rfl rfl rfl ty3) rfl ?_; clear hE a; intro a hE
      refine QL.v hE (runs_plain rfl) (Gives.p hE rfl) rfl ?_; clear hE a; intro a hE
      refine QL.v hE (runs_plain rfl) (Gives.p hE rfl) rfl ?_; clear hE a; intro a hE
      refine QL.v hE (runs_plain rfl) (Gives.p hE rfl) rfl ?_; clear hE a; intro a hE
      refine QL.v hE (runs_plain rfl) (Gives.p hE rfl) rfl ?_; clear hE a; intro a hE
      refine QL.nil ?_; clear hS w; intro w hS
      refine W.region ?_
      refine WL.vS hS hE (runs_plain rfl) (Gives.inc hE rfl (by have := h0_0.small; omega)) rfl ?_; clear hE a; intro a hE
      refine WL.vS hS hE (runs_plain rfl) (Gives.p hE rfl) rfl ?_; clear hE a; intro a hE
      refine WL.nil ?_
      replace hS := hS.tail
      subst hK64
      exact ⟨rest56.length, Nat.lt_succ_self _, rest56, k54 + 1, (w64 (q63 + (w64 (x55.Weight * (w64 (q70 - x55.Min)))))), rfl, hd57, hq52, hE.pick _ ⟨rfl, rfl, rfl, rfl, rfl, rfl, trivial⟩, hS⟩
  · clear hE hS a w; rintro a w ⟨q63, rfl, hE, hS⟩
    refine W.seq ?_
    refine W.region ?_
    refine WL.vS hS hE (runs_plain rfl) (Gives.p hE rfl) rfl ?_; clear hE a; intro a hE
    refine WL.vS hS hE (runs_plain rfl) (Gives.p hE rfl) rfl ?_; clear hE a; intro a hE
    refine WL.nil ?_
    refine W.ret ?_
    refine finG (fn := Try.f17) (rs := [.tmp 4]) (vs := [_]) hE rfl ⟨rfl, trivial⟩ ?_
    obtain rfl := Option.some.inj hr
    replace hS := hS.tail
    exact ⟨rfl, hS⟩
set_option maxHeartbeats 8000000 in
theorem Fishlaw2PlanGaps_ok {fu : Nat}  {w : World} {s : Sg} {R : List HP} {x0 : PlanPeriodic} {a0_0 : Option Addr} {c0_0 : Nat} {x1 : Int} {x2 : List Int} {a2 : Option Addr} {c2 : Nat} (hS : St w s (R)) (h0_0 : Sl 5 RPlanRule s a0_0 c0_0 x0.Rules) (h2 : Sl 1 (RI .i64) s a2 c2 x2) {r : Bool} (hr : Fishlaw2PlanGaps fu x0 x1 x2 = some r) :
    Calls Try.prog 4 [.agg [.int .i64 x0.Period, .int .i64 x0.Events, .slice a0_0 x0.Rules.length c0_0].toArray, .int .i64 x1, .slice a2 x2.length c2].toArray w (fun e w => e = .returned (.bool r) ∧ St w s (R)) := by
  refine enter Try.func4 rfl rfl rfl fun a hE => ?_
  rw [Fishlaw2PlanGaps] at hr
  refine W.seq ?_
  refine W.region ?_
  refine WL.box hE hS (runs_plain rfl) rfl rfl rfl ?_; clear hE hS a w; intro b51 a w hE hS
  refine WL.vS hS hE (runs_plain rfl) (Gives.p hE rfl) rfl ?_; clear hE a; intro a hE
  refine WL.nil ?_
  refine W.seq ?_
  refine W.region ?_
  refine WL.vS hS hE (runs_plain rfl) (Gives.loadBA hE 0 rfl rfl ty24) rfl ?_; clear hE a; intro a hE
  refine WL.vS hS hE (runs_plain rfl) (Gives.p hE rfl) rfl ?_; clear hE a; intro a hE
  refine WL.vS hS hE (runs_plain rfl) (Gives.p hE rfl) rfl ?_; clear hE a; intro a hE
  obtain ⟨q52, hq53, hr⟩ := bindS hr
  have hc_ := PlanGap_ok hS h0_0 h2 hq53
  refine WL.fnq hE (hc_) (runs_plain rfl) bd12 rfl rfl rfl ?_
  clear hE hS hc_; rintro e w ⟨rfl, hS⟩; refine ⟨_, rfl, ?_⟩; clear a; intro a hE
  refine WL.vS hS hE (runs_plain rfl) (Gives.p hE rfl) rfl ?_; clear hE a; intro a hE
  refine WL.vS hS hE (runs_plain rfl) (Gives.p hE rfl) rfl ?_; clear hE a; intro a hE
  refine WL.vS hS hE (runs_plain rfl) (Gives.p hE rfl) rfl ?_; clear hE a; intro a hE
  refine WL.vS hS hE (runs_plain rfl) (Gives.p hE rfl) rfl ?_; clear hE a; intro a hE
  refine WL.vS hS hE (runs_plain rfl) (Gives.p hE rfl) rfl ?_; clear hE a; intro a hE
  refine WL.nil ?_
  refine W.seq ?_
  refine W.region ?_
  refine WL.vS hS hE (runs_plain rfl) (Gives.loadBA hE 0 rfl rfl ty24) rfl ?_; clear hE a; intro a hE
  refine WL.vS hS hE (runs_plain rfl) (Gives.p hE rfl) rfl ?_; clear hE a; intro a hE
  obtain ⟨q54, hq55, hr⟩ := bindS hr
  have hc_ := PlanBroken_ok hS h0_0 h2 hq55
  refine WL.fnq hE (hc_) (runs_plain rfl) bd13 rfl rfl rfl ?_
  clear hE hS hc_; rintro e w ⟨rfl, hS⟩; refine ⟨_, rfl, ?_⟩; clear a; intro a hE
  refine WL.vS hS hE (runs_plain rfl) (Gives.p hE rfl) rfl ?_; clear hE a; intro a hE
  refine WL.vS hS hE (runs_plain rfl) (Gives.p hE rfl) rfl ?_; clear hE a; intro a hE
  refine WL.vS hS hE (runs_plain rfl) (Gives.p hE rfl) rfl ?_; clear hE a; intro a hE
  refine WL.vS hS hE (runs_plain rfl) (Gives.p hE rfl) rfl ?_; clear hE a; intro a hE
  refine WL.vS hS hE (runs_plain rfl) (Gives.p hE rfl) rfl ?_; clear hE a; intro a hE
  refine WL.nil ?_
  refine W.seq ?_
  refine W.region ?_
  refine WL.vS hS hE (runs_plain rfl) (Gives.loadBA hE 0 rfl rfl ty24) rfl ?_; clear hE a; intro a hE
  refine WL.vS hS hE (runs_plain rfl) (Gives.p hE rfl) rfl ?_; clear hE a; intro a hE
  obtain ⟨q56, hq57, hr⟩ := bindS hr
  have hc_ := PlanCost_ok hS h0_0 h2 hq57
  refine WL.fnq hE (hc_) (runs_plain rfl) bd14 rfl rfl rfl ?_
  clear hE hS hc_; rintro e w ⟨rfl, hS⟩; refine ⟨_, rfl, ?_⟩; clear a; intro a hE
  refine WL.vS hS hE (runs_plain rfl) (Gives.p hE rfl) rfl ?_; clear hE a; intro a hE
  refine WL.vS hS hE (runs_plain rfl) (Gives.p hE rfl) rfl ?_; clear hE a; intro a hE
  refine WL.vS hS hE (runs_plain rfl) (Gives.p hE rfl) rfl ?_; clear hE a; intro a hE
  refine WL.vS hS hE (runs_plain rfl) (Gives.p hE rfl) rfl ?_; clear hE a; intro a hE
  refine WL.vS hS hE (runs_plain rfl) (Gives.p hE rfl) rfl ?_; clear hE a; intro a hE
  refine WL.nil ?_
  refine W.seq ?_
  refine W.seq ?_
  refine W.region ?_
  refine WL.vS hS hE (runs_plain rfl) (Gives.loadBA hE 0 rfl rfl ty24) rfl ?_; clear hE a; intro a hE
  refine WL.vS hS hE (runs_plain rfl) (Gives.p hE rfl) rfl ?_; clear hE a; intro a hE
  refine WL.fnq hE (Fishref2TimesFault_ok hS h0_0 h2 rfl (r := Fishref2TimesFault x0 x2)) (runs_plain rfl) bd15 rfl rfl rfl ?_
  clear hE hS; rintro e w ⟨rfl, hS⟩; refine ⟨_, rfl, ?_⟩; clear a; intro a hE
  refine WL.vS hS hE (runs_plain rfl) (Gives.p hE rfl) rfl ?_; clear hE a; intro a hE
  refine WL.nil ?_
  refine W.seq ?_
  refine W.region ?_
  refine WL.vS hS hE (runs_plain rfl) (Gives.p hE rfl) rfl ?_; clear hE a; intro a hE
  refine WL.vS hS hE (runs_plain rfl) (Gives.p hE rfl) rfl ?_; clear hE a; intro a hE
  refine WL.nil ?_
  refine W.cond hE rfl (fun hc58 => ?_) (fun hc58 => ?_)
  · replace hr := iteT hc58 hr
    refine W.seq ?_
    obtain ⟨q60, hq59, hr⟩ := bindS hr
    refine W.cut (fun a w => ∃ (q63 : Bool), q63 = q60 ∧ Rep a 119 [(6, .bool q63)] ∧ St w s (pt b51 (.cells #[.int .i64 x0.Period, .int .i64 x0.Events, .slice a0_0 x0.Rules.length c0_0] 24 (0, 0)) :: R)) ?_ ?_
    · refine W.gen fun K64 hK64 => ?_
      refine W.region ?_
      obtain ⟨q65, hq66, hq59⟩ := bindS hq59
      have hc_ := Fishlaw2periods_ok hS  hq66
      refine WL.fnq hE (hc_) (runs_plain rfl) bd9 rfl rfl rfl ?_
      clear hE hS hc_; rintro e w ⟨rfl, hS⟩; refine ⟨_, rfl, ?_⟩; clear a; intro a hE
      refine WL.vS hS hE (runs_plain rfl) (Gives.p hE rfl) rfl ?_; clear hE a; intro a hE
      rcases Bool.eq_false_or_eq_true q65 with hg67 | hg67
      · replace hq59 := iteT hg67 hq59
        refine WL.vS hS hE (runs_if hE rfl rfl rfl hg67) (Gives.p hE rfl) rfl ?_; clear hE a; intro a hE
        refine WL.vS hS hE (runs_if hE rfl rfl rfl hg67) (Gives.p hE rfl) rfl ?_; clear hE a; intro a hE
        refine WL.vS hS hE (runs_if hE rfl rfl rfl hg67) (Gives.p hE rfl) rfl ?_; clear hE a; intro a hE
        refine WL.vS hS hE (runs_plain rfl) (Gives.pickT hE rfl hg67 rfl) rfl ?_; clear hE a; intro a hE
        refine WL.vS hS hE (runs_plain rfl) (Gives.p hE rfl) rfl ?_; clear hE a; intro a hE
        rcases Bool.eq_false_or_eq_true (q52.2 == (Fishref2TimesFault x0 x2)) with hg68 | hg68
        · replace hq59 := iteT hg68 hq59
          refine WL.vS hS hE (runs_if hE rfl rfl rfl hg68) (Gives.p hE rfl) rfl ?_; clear hE a; intro a hE
          refine WL.vS hS hE (runs_if hE rfl rfl rfl hg68) (Gives.p hE rfl) rfl ?_; clear hE a; intro a hE
          refine WL.vS hS hE (runs_if hE rfl rfl rfl hg68) (Gives.p hE rfl) rfl ?_; clear hE a; intro a hE
          refine WL.vS hS hE (runs_plain rfl) (Gives.pickT hE rfl hg68 rfl) rfl ?_; clear hE a; intro a hE
          refine WL.vS hS hE (runs_plain rfl) (Gives.p hE rfl) rfl ?_; clear hE a; intro a hE
          rcases Bool.eq_false_or_eq_true (q54.2 == (Fishref2TimesFault x0 x2)) with hg69 | hg69
          · replace hq59 := iteT hg69 hq59
            refine WL.vS hS hE (runs_if hE rfl rfl rfl hg69) (Gives.p hE rfl) rfl ?_; clear hE a; intro a hE
            refine WL.vS hS hE (runs_if hE rfl rfl rfl hg69) (Gives.p hE rfl) rfl ?_; clear hE a; intro a hE
            refine WL.vS hS hE (runs_if hE rfl rfl rfl hg69) (Gives.p hE rfl) rfl ?_; clear hE a; intro a hE
            refine WL.vS hS hE (runs_plain rfl) (Gives.pickT hE rfl hg69 rfl) rfl ?_; clear hE a; intro a hE
            refine WL.vS hS hE (runs_plain rfl) (Gives.p hE rfl) rfl ?_; clear hE a; intro a hE
            rcases Bool.eq_false_or_eq_true (q56.2 == (Fishref2TimesFault x0 x2)) with hg70 | hg70
            · replace hq59 := iteT hg70 hq59
              refine WL.vS hS hE (runs_if hE rfl rfl rfl hg70) (Gives.p hE rfl) rfl ?_; clear hE a; intro a hE
              refine WL.vS hS hE (runs_if hE rfl rfl rfl hg70) (Gives.p hE rfl) rfl ?_; clear hE a; intro a hE
              refine WL.vS hS hE (runs_plain rfl) (Gives.pickT hE rfl hg70 rfl) rfl ?_; clear hE a; intro a hE
              refine WL.vS hS hE (runs_plain rfl) (Gives.p hE rfl) rfl ?_; clear hE a; intro a hE
              rcases Bool.eq_false_or_eq_true (q52.1 == 0) with hg71 | hg71
              · replace hq59 := iteT hg71 hq59
                refine WL.vS hS hE (runs_if hE rfl rfl rfl hg71) (Gives.p hE rfl) rfl ?_; clear hE a; intro a hE
                refine WL.vS hS hE (runs_if hE rfl rfl rfl hg71) (Gives.p hE rfl) rfl ?_; clear hE a; intro a hE
                refine WL.vS hS hE (runs_plain rfl) (Gives.pickT hE rfl hg71 rfl) rfl ?_; clear hE a; intro a hE
                refine WL.vS hS hE (runs_plain rfl) (Gives.p hE rfl) rfl ?_; clear hE a; intro a hE
                rcases Bool.eq_false_or_eq_true (q54.1 == 0) with hg72 | hg72
                · replace hq59 := iteT hg72 hq59
                  refine WL.vS hS hE (runs_if hE rfl rfl rfl hg72) (Gives.p hE rfl) rfl ?_; clear hE a; intro a hE
                  refine WL.vS hS hE (runs_if hE rfl rfl rfl hg72) (Gives.p hE rfl) rfl ?_; clear hE a; intro a hE
                  refine WL.vS hS hE (runs_plain rfl) (Gives.pickT hE rfl hg72 rfl) rfl ?_; clear hE a; intro a hE
                  refine WL.vS hS hE (runs_plain rfl) (Gives.p hE rfl) rfl ?_; clear hE a; intro a hE
                  refine WL.nil ?_
                  subst hK64
                  exact ⟨(q56.1 == 0), Option.some.inj hq59, hE.pick _ ⟨rfl, trivial⟩, hS⟩
                · replace hq59 := iteF hg72 hq59
                  refine WL.no hE (runs_not hE rfl rfl rfl (by rw [hg72]; decide)) rfl ?_; clear hE a; intro a hE
                  refine WL.no hE (runs_not hE rfl rfl rfl (by rw [hg72]; decide)) rfl ?_; clear hE a; intro a hE
                  refine WL.vS hS hE (runs_plain rfl) (Gives.pickF hE rfl hg72 rfl) rfl ?_; clear hE a; intro a hE
                  refine WL.vS hS hE (runs_plain rfl) (Gives.p hE rfl) rfl ?_; clear hE a; intro a hE
                  refine WL.nil ?_
                  subst hK64
                  exact ⟨false, Option.some.inj hq59, hE.pick _ ⟨rfl, trivial⟩, hS⟩
              · replace hq59 := iteF hg71 hq59
                refine WL.no hE (runs_not hE rfl rfl rfl (by rw [hg71]; decide)) rfl ?_; clear hE a; intro a hE
                refine WL.no hE (runs_not hE rfl rfl rfl (by rw [hg71]; decide)) rfl ?_; clear hE a; intro a hE
                refine WL.vS hS hE (runs_plain rfl) (Gives.pickF hE rfl hg71 rfl) rfl ?_; clear hE a; intro a hE
                refine WL.vS hS hE (runs_plain rfl) (Gives.p hE rfl) rfl ?_; clear hE a; intro a hE
                refine WL.no hE (runs_not hE rfl rfl rfl (by decide)) rfl ?_; clear hE a; intro a hE
                refine WL.no hE (runs_not hE rfl rfl rfl (by decide)) rfl ?_; clear hE a; intro a hE
                refine WL.vS hS hE (runs_plain rfl) (Gives.pickF hE rfl rfl rfl) rfl ?_; clear hE a; intro a hE
                refine WL.vS hS hE (runs_plain rfl) (Gives.p hE rfl) rfl ?_; clear hE a; intro a hE
                refine WL.nil ?_
                subst hK64
                exact ⟨false, Option.some.inj hq59, hE.pick _ ⟨rfl, trivial⟩, hS⟩
            · replace hq59 := iteF hg70 hq59
              refine WL.no hE (runs_not hE rfl rfl rfl (by rw [hg70]; decide)) rfl ?_; clear hE a; intro a hE
              refine WL.no hE (runs_not hE rfl rfl rfl (by rw [hg70]; decide)) rfl ?_; clear hE a; intro a hE
              refine WL.vS hS hE (runs_plain rfl) (Gives.pickF hE rfl hg70 rfl) rfl ?_; clear hE a; intro a hE
              refine WL.vS hS hE (runs_plain rfl) (Gives.p hE rfl) rfl ?_; clear hE a; intro a hE
              refine WL.no hE (runs_not hE rfl rfl rfl (by decide)) rfl ?_; clear hE a; intro a hE
              refine WL.no hE (runs_not hE rfl rfl rfl (by decide)) rfl ?_; clear hE a; intro a hE
              refine WL.vS hS hE (runs_plain rfl) (Gives.pickF hE rfl rfl rfl) rfl ?_; clear hE a; intro a hE
              refine WL.vS hS hE (runs_plain rfl) (Gives.p hE rfl) rfl ?_; clear hE a; intro a hE
              refine WL.no hE (runs_not hE rfl rfl rfl (by decide)) rfl ?_; clear hE a; intro a hE
              refine WL.no hE (runs_not hE rfl rfl rfl (by decide)) rfl ?_; clear hE a; intro a hE
              refine WL.vS hS hE (runs_plain rfl) (Gives.pickF hE rfl rfl rfl) rfl ?_; clear hE a; intro a hE
              refine WL.vS hS hE (runs_plain rfl) (Gives.p hE rfl) rfl ?_; clear hE a; intro a hE
              refine WL.nil ?_
              subst hK64
              exact ⟨false, Option.some.inj hq59, hE.pick _ ⟨rfl, trivial⟩, hS⟩
          · replace hq59 := iteF hg69 hq59
            refine WL.no hE (runs_not hE rfl rfl rfl (by rw [hg69]; decide)) rfl ?_; clear hE a; intro a hE
            refine WL.no hE (runs_not hE rfl rfl rfl (by rw [hg69]; decide)) rfl ?_; clear hE a; intro a hE
            refine WL.no hE (runs_not hE rfl rfl rfl (by rw [hg69]; decide)) rfl ?_; clear hE a; intro a hE
            refine WL.vS hS hE (runs_plain rfl) (Gives.pickF hE rfl hg69 rfl) rfl ?_; clear hE a; intro a hE
            refine WL.vS hS hE (runs_plain rfl) (Gives.p hE rfl) rfl ?_; clear hE a; intro a hE
            refine WL.no hE (runs_not hE rfl rfl rfl (by decide)) rfl ?_; clear hE a; intro a hE
            refine WL.no hE (runs_not hE rfl rfl rfl (by decide)) rfl ?_; clear hE a; intro a hE
            refine WL.vS hS hE (runs_plain rfl) (Gives.pickF hE rfl rfl rfl) rfl ?_; clear hE a; intro a hE
            refine WL.vS hS hE (runs_plain rfl) (Gives.p hE rfl) rfl ?_; clear hE a; intro a hE
            refine WL.no hE (runs_not hE rfl rfl rfl (by decide)) rfl ?_; clear hE a; intro a hE
            refine WL.no hE (runs_not hE rfl rfl rfl (by decide)) rfl ?_; clear hE a; intro a hE
            refine WL.vS hS hE (runs_plain rfl) (Gives.pickF hE rfl rfl rfl) rfl ?_; clear hE a; intro a hE
            refine WL.vS hS hE (runs_plain rfl) (Gives.p hE rfl) rfl ?_; clear hE a; intro a hE
            refine WL.no hE (runs_not hE rfl rfl rfl (by decide)) rfl ?_; clear hE a; intro a hE
            refine WL.no hE (runs_not hE rfl rfl rfl (by decide)) rfl ?_; clear hE a; intro a hE
            refine WL.vS hS hE (runs_plain rfl) (Gives.pickF hE rfl rfl rfl) rfl ?_; clear hE a; intro a hE
            refine WL.vS hS hE (runs_plain rfl) (Gives.p hE rfl) rfl ?_; clear hE a; intro a hE
            refine WL.nil ?_
            subst hK64
            exact ⟨false, Option.some.inj hq59, hE.pick _ ⟨rfl, trivial⟩, hS⟩
        · replace hq59 := iteF hg68 hq59
          refine WL.no hE (runs_not hE rfl rfl rfl (by rw [hg68]; decide)) rfl ?_; clear hE a; intro a hE
          refine WL.no hE (runs_not hE rfl rfl rfl (by rw [hg68]; decide)) rfl ?_; clear hE a; intro a hE
          refine WL.no hE (runs_not hE rfl rfl rfl (by rw [hg68]; decide)) rfl ?_; clear hE a; intro a hE
          refine WL.vS hS hE (runs_plain rfl) (Gives.pickF hE rfl hg68 rfl) rfl ?_; clear hE a; intro a hE
          refine WL.vS hS hE (runs_plain rfl) (Gives.p hE rfl) rfl ?_; clear hE a; intro a hE
          refine WL.no hE (runs_not hE rfl rfl rfl (by decide)) rfl ?_; clear hE a; intro a hE
          refine WL.no hE (runs_not hE rfl rfl rfl (by decide)) rfl ?_; clear hE a; intro a hE
          refine WL.no hE (runs_not hE rfl rfl rfl (by decide)) rfl ?_; clear hE a; intro a hE
          refine WL.vS hS hE (runs_plain rfl) (Gives.pickF hE rfl rfl rfl) rfl ?_; clear hE a; intro a hE
          refine WL.vS hS hE (runs_plain rfl) (Gives.p hE rfl) rfl ?_; clear hE a; intro a hE
          refine WL.no hE (runs_not hE rfl rfl rfl (by decide)) rfl ?_; clear hE a; intro a hE
          refine WL.no hE (runs_not hE rfl rfl rfl (by decide)) rfl ?_; clear hE a; intro a hE
          refine WL.vS hS hE (runs_plain rfl) (Gives.pickF hE rfl rfl rfl) rfl ?_; clear hE a; intro a hE
          refine WL.vS hS hE (runs_plain rfl) (Gives.p hE rfl) rfl ?_; clear hE a; intro a hE
          refine WL.no hE (runs_not hE rfl rfl rfl (by decide)) rfl ?_; clear hE a; intro a hE
          refine WL.no hE (runs_not hE rfl rfl rfl (by decide)) rfl ?_; clear hE a; intro a hE
          refine WL.vS hS hE (runs_plain rfl) (Gives.pickF hE rfl rfl rfl) rfl ?_; clear hE a; intro a hE
          refine WL.vS hS hE (runs_plain rfl) (Gives.p hE rfl) rfl ?_; clear hE a; intro a hE
          refine WL.no hE (runs_not hE rfl rfl rfl (by decide)) rfl ?_; clear hE a; intro a hE
          refine WL.no hE (runs_not hE rfl rfl rfl (by decide)) rfl ?_; clear hE a; intro a hE
          refine WL.vS hS hE (runs_plain rfl) (Gives.pickF hE rfl rfl rfl) rfl ?_; clear hE a; intro a hE
          refine WL.vS hS hE (runs_plain rfl) (Gives.p hE rfl) rfl ?_; clear hE a; intro a hE
          refine WL.nil ?_
          subst hK64
          exact ⟨false, Option.some.inj hq59, hE.pick _ ⟨rfl, trivial⟩, hS⟩
      · replace hq59 := iteF hg67 hq59
        refine WL.no hE (runs_not hE rfl rfl rfl (by rw [hg67]; decide)) rfl ?_; clear hE a; intro a hE
        refine WL.no hE (runs_not hE rfl rfl rfl (by rw [hg67]; decide)) rfl ?_; clear hE a; intro a hE
        refine WL.no hE (runs_not hE rfl rfl rfl (by rw [hg67]; decide)) rfl ?_; clear hE a; intro a hE
        refine WL.vS hS hE (runs_plain rfl) (Gives.pickF hE rfl hg67 rfl) rfl ?_; clear hE a; intro a hE
        refine WL.vS hS hE (runs_plain rfl) (Gives.p hE rfl) rfl ?_; clear hE a; intro a hE
        refine WL.no hE (runs_not hE rfl rfl rfl (by decide)) rfl ?_; clear hE a; intro a hE
        refine WL.no hE (runs_not hE rfl rfl rfl (by decide)) rfl ?_; clear hE a; intro a hE
        refine WL.no hE (runs_not hE rfl rfl rfl (by decide)) rfl ?_; clear hE a; intro a hE
        refine WL.vS hS hE (runs_plain rfl) (Gives.pickF hE rfl rfl rfl) rfl ?_; clear hE a; intro a hE
        refine WL.vS hS hE (runs_plain rfl) (Gives.p hE rfl) rfl ?_; clear hE a; intro a hE
        refine WL.no hE (runs_not hE rfl rfl rfl (by decide)) rfl ?_; clear hE a; intro a hE
        refine WL.no hE (runs_not hE rfl rfl rfl (by decide)) rfl ?_; clear hE a; intro a hE
        refine WL.no hE (runs_not hE rfl rfl rfl (by decide)) rfl ?_; clear hE a; intro a hE
        refine WL.vS hS hE (runs_plain rfl) (Gives.pickF hE rfl rfl rfl) rfl ?_; clear hE a; intro a hE
        refine WL.vS hS hE (runs_plain rfl) (Gives.p hE rfl) rfl ?_; clear hE a; intro a hE
        refine WL.no hE (runs_not hE rfl rfl rfl (by decide)) rfl ?_; clear hE a; intro a hE
        refine WL.no hE (runs_not hE rfl rfl rfl (by decide)) rfl ?_; clear hE a; intro a hE
        refine WL.vS hS hE (runs_plain rfl) (Gives.pickF hE rfl rfl rfl) rfl ?_; clear hE a; intro a hE
        refine WL.vS hS hE (runs_plain rfl) (Gives.p hE rfl) rfl ?_; clear hE a; intro a hE
        refine WL.no hE (runs_not hE rfl rfl rfl (by decide)) rfl ?_; clear hE a; intro a hE
        refine WL.no hE (runs_not hE rfl rfl rfl (by decide)) rfl ?_; clear hE a; intro a hE
        refine WL.vS hS hE (runs_plain rfl) (Gives.pickF hE rfl rfl rfl) rfl ?_; clear hE a; intro a hE
        refine WL.vS hS hE (runs_plain rfl) (Gives.p hE rfl) rfl ?_; clear hE a; intro a hE
        refine WL.no hE (runs_not hE rfl rfl rfl (by decide)) rfl ?_; clear hE a; intro a hE
        refine WL.no hE (runs_not hE rfl rfl rfl (by decide)) rfl ?_; clear hE a; intro a hE
        refine WL.vS hS hE (runs_plain rfl) (Gives.pickF hE rfl rfl rfl) rfl ?_; clear hE a; intro a hE
        refine WL.vS hS hE (runs_plain rfl) (Gives.p hE rfl) rfl ?_; clear hE a; intro a hE
        refine WL.nil ?_
        subst hK64
        exact ⟨false, Option.some.inj hq59, hE.pick _ ⟨rfl, trivial⟩, hS⟩
    · clear hE hS a w; rintro a w ⟨q63, rfl, hE, hS⟩
      refine W.ret ?_
      refine finG (fn := Try.f4) (rs := [.tmp 6]) (vs := [_]) hE rfl ⟨rfl, trivial⟩ ?_
      obtain rfl := Option.some.inj hr
      replace hS := hS.tail
      exact ⟨rfl, hS⟩
  · replace hr := iteF hc58 hr
    refine W.skip ?_
    refine W.seq ?_
    refine W.seq ?_
    obtain ⟨q74, hq73, hr⟩ := bindS hr
    refine W.cut (fun a w => ∃ (q77 : Bool), q77 = q74 ∧ Rep a 119 [(1, .int .i64 x1), (2, .slice a2 x2.length c2), (3, .pointer (some ⟨b51, 0, none⟩)), (7, .int .i64 q52.1), (8, .int .i64 q52.2), (89, .bool q77)] ∧ St w s (pt b51 (.cells #[.int .i64 x0.Period, .int .i64 x0.Events, .slice a0_0 x0.Rules.length c0_0] 24 (0, 0)) :: R)) ?_ ?_
    · refine W.gen fun K78 hK78 => ?_
      refine W.region ?_
      obtain ⟨q79, hq80, hq73⟩ := bindS hq73
      have hc_ := Fishlaw2periods_ok hS  hq80
      refine WL.fnq hE (hc_) (runs_plain rfl) bd9 rfl rfl rfl ?_
      clear hE hS hc_; rintro e w ⟨rfl, hS⟩; refine ⟨_, rfl, ?_⟩; clear a; intro a hE
      refine WL.vS hS hE (runs_plain rfl) (Gives.p hE rfl) rfl ?_; clear hE a; intro a hE
      refine WL.vS hS hE (runs_plain rfl) (Gives.p hE rfl) rfl ?_; clear hE a; intro a hE
      rcases Bool.eq_false_or_eq_true !q79 with hg81 | hg81
      · replace hq73 := iteT hg81 hq73
        refine WL.no hE (runs_not hE rfl rfl rfl (by rw [hg81]; decide)) rfl ?_; clear hE a; intro a hE
        refine WL.no hE (runs_not hE rfl rfl rfl (by rw [hg81]; decide)) rfl ?_; clear hE a; intro a hE
        refine WL.vS hS hE (runs_plain rfl) (Gives.pickT hE rfl hg81 rfl) rfl ?_; clear hE a; intro a hE
        refine WL.vS hS hE (runs_plain rfl) (Gives.p hE rfl) rfl ?_; clear hE a; intro a hE
        refine WL.no hE (runs_not hE rfl rfl rfl (by decide)) rfl ?_; clear hE a; intro a hE
        refine WL.no hE (runs_not hE rfl rfl rfl (by decide)) rfl ?_; clear hE a; intro a hE
        refine WL.vS hS hE (runs_plain rfl) (Gives.pickT hE rfl rfl rfl) rfl ?_; clear hE a; intro a hE
        refine WL.vS hS hE (runs_plain rfl) (Gives.p hE rfl) rfl ?_; clear hE a; intro a hE
        refine WL.no hE (runs_not hE rfl rfl rfl (by decide)) rfl ?_; clear hE a; intro a hE
        refine WL.no hE (runs_not hE rfl rfl rfl (by decide)) rfl ?_; clear hE a; intro a hE
        refine WL.no hE (runs_not hE rfl rfl rfl (by decide)) rfl ?_; clear hE a; intro a hE
        refine WL.no hE (runs_not hE rfl rfl rfl (by decide)) rfl ?_; clear hE a; intro a hE
        refine WL.no hE (runs_not hE rfl rfl rfl (by decide)) rfl ?_; clear hE a; intro a hE
        refine WL.vS hS hE (runs_plain rfl) (Gives.pickT hE rfl rfl rfl) rfl ?_; clear hE a; intro a hE
        refine WL.vS hS hE (runs_plain rfl) (Gives.p hE rfl) rfl ?_; clear hE a; intro a hE
        refine WL.no hE (runs_not hE rfl rfl rfl (by decide)) rfl ?_; clear hE a; intro a hE
        refine WL.no hE (runs_not hE rfl rfl rfl (by decide)) rfl ?_; clear hE a; intro a hE
        refine WL.no hE (runs_not hE rfl rfl rfl (by decide)) rfl ?_; clear hE a; intro a hE
        refine WL.no hE (runs_not hE rfl rfl rfl (by decide)) rfl ?_; clear hE a; intro a hE
        refine WL.no hE (runs_not hE rfl rfl rfl (by decide)) rfl ?_; clear hE a; intro a hE
        refine WL.vS hS hE (runs_plain rfl) (Gives.pickT hE rfl rfl rfl) rfl ?_; clear hE a; intro a hE
        refine WL.nil ?_
        subst hK78
        exact ⟨true, Option.some.inj hq73, hE.pick _ ⟨rfl, rfl, rfl, rfl, rfl, rfl, trivial⟩, hS⟩
      · replace hq73 := iteF hg81 hq73
        refine WL.vS hS hE (runs_if hE rfl rfl rfl hg81) (Gives.p hE rfl) rfl ?_; clear hE a; intro a hE
        refine WL.vS hS hE (runs_if hE rfl rfl rfl hg81) (Gives.p hE rfl) rfl ?_; clear hE a; intro a hE
        refine WL.vS hS hE (runs_plain rfl) (Gives.pickF hE rfl hg81 rfl) rfl ?_; clear hE a; intro a hE
        refine WL.vS hS hE (runs_plain rfl) (Gives.p hE rfl) rfl ?_; clear hE a; intro a hE
        rcases Bool.eq_false_or_eq_true (q54.2 != 0) with hg82 | hg82
        · replace hq73 := iteT hg82 hq73
          refine WL.no hE (runs_not hE rfl rfl rfl (by rw [hg82]; decide)) rfl ?_; clear hE a; intro a hE
          refine WL.no hE (runs_not hE rfl rfl rfl (by rw [hg82]; decide)) rfl ?_; clear hE a; intro a hE
          refine WL.vS hS hE (runs_plain rfl) (Gives.pickT hE rfl hg82 rfl) rfl ?_; clear hE a; intro a hE
          refine WL.vS hS hE (runs_plain rfl) (Gives.p hE rfl) rfl ?_; clear hE a; intro a hE
          refine WL.no hE (runs_not hE rfl rfl rfl (by decide)) rfl ?_; clear hE a; intro a hE
          refine WL.no hE (runs_not hE rfl rfl rfl (by decide)) rfl ?_; clear hE a; intro a hE
          refine WL.no hE (runs_not hE rfl rfl rfl (by decide)) rfl ?_; clear hE a; intro a hE
          refine WL.no hE (runs_not hE rfl rfl rfl (by decide)) rfl ?_; clear hE a; intro a hE
          refine WL.no hE (runs_not hE rfl rfl rfl (by decide)) rfl ?_; clear hE a; intro a hE
          refine WL.vS hS hE (runs_plain rfl) (Gives.pickT hE rfl rfl rfl) rfl ?_; clear hE a; intro a hE
          refine WL.vS hS hE (runs_plain rfl) (Gives.p hE rfl) rfl ?_; clear hE a; intro a hE
          refine WL.no hE (runs_not hE rfl rfl rfl (by decide)) rfl ?_; clear hE a; intro a hE
          refine WL.no hE (runs_not hE rfl rfl rfl (by decide)) rfl ?_; clear hE a; intro a hE
          refine WL.no hE (runs_not hE rfl rfl rfl (by decide)) rfl ?_; clear hE a; intro a hE
          refine WL.no hE (runs_not hE rfl rfl rfl (by decide)) rfl ?_; clear hE a; intro a hE
          refine WL.no hE (runs_not hE rfl rfl rfl (by decide)) rfl ?_; clear hE a; intro a hE
          refine WL.vS hS hE (runs_plain rfl) (Gives.pickT hE rfl rfl rfl) rfl ?_; clear hE a; intro a hE
          refine WL.nil ?_
          subst hK78
          exact ⟨true, Option.some.inj hq73, hE.pick _ ⟨rfl, rfl, rfl, rfl, rfl, rfl, trivial⟩, hS⟩
        · replace hq73 := iteF hg82 hq73
          refine WL.vS hS hE (runs_if hE rfl rfl rfl hg82) (Gives.p hE rfl) rfl ?_; clear hE a; intro a hE
          refine WL.vS hS hE (runs_if hE rfl rfl rfl hg82) (Gives.p hE rfl) rfl ?_; clear hE a; intro a hE
          refine WL.vS hS hE (runs_plain rfl) (Gives.pickF hE rfl hg82 rfl) rfl ?_; clear hE a; intro a hE
          refine WL.vS hS hE (runs_plain rfl) (Gives.p hE rfl) rfl ?_; clear hE a; intro a hE
          rcases Bool.eq_false_or_eq_true (q56.2 != 0) with hg83 | hg83
          · replace hq73 := iteT hg83 hq73
            refine WL.no hE (runs_not hE rfl rfl rfl (by rw [hg83]; decide)) rfl ?_; clear hE a; intro a hE
            refine WL.no hE (runs_not hE rfl rfl rfl (by rw [hg83]; decide)) rfl ?_; clear hE a; intro a hE
            refine WL.no hE (runs_not hE rfl rfl rfl (by rw [hg83]; decide)) rfl ?_; clear hE a; intro a hE
            refine WL.no hE (runs_not hE rfl rfl rfl (by rw [hg83]; decide)) rfl ?_; clear hE a; intro a hE
            refine WL.no hE (runs_not hE rfl rfl rfl (by rw [hg83]; decide)) rfl ?_; clear hE a; intro a hE
            refine WL.vS hS hE (runs_plain rfl) (Gives.pickT hE rfl hg83 rfl) rfl ?_; clear hE a; intro a hE
            refine WL.vS hS hE (runs_plain rfl) (Gives.p hE rfl) rfl ?_; clear hE a; intro a hE
            refine WL.no hE (runs_not hE rfl rfl rfl (by decide)) rfl ?_; clear hE a; intro a hE
            refine WL.no hE (runs_not hE rfl rfl rfl (by decide)) rfl ?_; clear hE a; intro a hE
            refine WL.no hE (runs_not hE rfl rfl rfl (by decide)) rfl ?_; clear hE a; intro a hE
            refine WL.no hE (runs_not hE rfl rfl rfl (by decide)) rfl ?_; clear hE a; intro a hE
            refine WL.no hE (runs_not hE rfl rfl rfl (by decide)) rfl ?_; clear hE a; intro a hE
            refine WL.vS hS hE (runs_plain rfl) (Gives.pickT hE rfl rfl rfl) rfl ?_; clear hE a; intro a hE
            refine WL.nil ?_
            subst hK78
            exact ⟨true, Option.some.inj hq73, hE.pick _ ⟨rfl, rfl, rfl, rfl, rfl, rfl, trivial⟩, hS⟩
          · replace hq73 := iteF hg83 hq73
            refine WL.vS hS hE (runs_if hE rfl rfl rfl hg83) (Gives.p hE rfl) rfl ?_; clear hE a; intro a hE
            refine WL.vS hS hE (runs_if hE rfl rfl rfl hg83) (Gives.loadBA hE 0 rfl rfl ty24) rfl ?_; clear hE a; intro a hE
            refine WL.vS hS hE (runs_if hE rfl rfl rfl hg83) (Gives.p hE rfl) rfl ?_; clear hE a; intro a hE
            obtain ⟨q84, hq85, hq73⟩ := bindS hq73
            have hc_ := Fishref2BrokenOf_ok hS h0_0 h2 hq85
            refine WL.fnq hE (hc_) (runs_if hE rfl rfl rfl hg83) bd16 rfl rfl rfl ?_
            clear hE hS hc_; rintro e w ⟨rfl, hS⟩; refine ⟨_, rfl, ?_⟩; clear a; intro a hE
            refine WL.vS hS hE (runs_if hE rfl rfl rfl hg83) (Gives.p hE rfl) rfl ?_; clear hE a; intro a hE
            refine WL.vS hS hE (runs_plain rfl) (Gives.pickF hE rfl hg83 rfl) rfl ?_; clear hE a; intro a hE
            refine WL.vS hS hE (runs_plain rfl) (Gives.p hE rfl) rfl ?_; clear hE a; intro a hE
            rcases Bool.eq_false_or_eq_true (q54.1 != q84) with hg86 | hg86
            · replace hq73 := iteT hg86 hq73
              refine WL.no hE (runs_not hE rfl rfl rfl (by rw [hg86]; decide)) rfl ?_; clear hE a; intro a hE
              refine WL.no hE (runs_not hE rfl rfl rfl (by rw [hg86]; decide)) rfl ?_; clear hE a; intro a hE
              refine WL.no hE (runs_not hE rfl rfl rfl (by rw [hg86]; decide)) rfl ?_; clear hE a; intro a hE
              refine WL.no hE (runs_not hE rfl rfl rfl (by rw [hg86]; decide)) rfl ?_; clear hE a; intro a hE
              refine WL.no hE (runs_not hE rfl rfl rfl (by rw [hg86]; decide)) rfl ?_; clear hE a; intro a hE
              refine WL.vS hS hE (runs_plain rfl) (Gives.pickT hE rfl hg86 rfl) rfl ?_; clear hE a; intro a hE
              refine WL.nil ?_
              subst hK78
              exact ⟨true, Option.some.inj hq73, hE.pick _ ⟨rfl, rfl, rfl, rfl, rfl, rfl, trivial⟩, hS⟩
            · replace hq73 := iteF hg86 hq73
              refine WL.vS hS hE (runs_if hE rfl rfl rfl hg86) (Gives.p hE rfl) rfl ?_; clear hE a; intro a hE
              refine WL.vS hS hE (runs_if hE rfl rfl rfl hg86) (Gives.loadBA hE 0 rfl rfl ty24) rfl ?_; clear hE a; intro a hE
              refine WL.vS hS hE (runs_if hE rfl rfl rfl hg86) (Gives.p hE rfl) rfl ?_; clear hE a; intro a hE
              obtain ⟨q87, hq88, hq73⟩ := bindS hq73
              have hc_ := Fishref2CostOf_ok hS h0_0 h2 hq88
              refine WL.fnq hE (hc_) (runs_if hE rfl rfl rfl hg86) bd17 rfl rfl rfl ?_
              clear hE hS hc_; rintro e w ⟨rfl, hS⟩; refine ⟨_, rfl, ?_⟩; clear a; intro a hE
              refine WL.vS hS hE (runs_if hE rfl rfl rfl hg86) (Gives.p hE rfl) rfl ?_; clear hE a; intro a hE
              refine WL.vS hS hE (runs_plain rfl) (Gives.pickF hE rfl hg86 rfl) rfl ?_; clear hE a; intro a hE
              refine WL.nil ?_
              subst hK78
              exact ⟨(q56.1 != q87), Option.some.inj hq73, hE.pick _ ⟨rfl, rfl, rfl, rfl, rfl, rfl, trivial⟩, hS⟩
    · clear hE hS a w; rintro a w ⟨q77, rfl, hE, hS⟩
      refine W.cond hE rfl (fun hc89 => ?_) (fun hc89 => ?_)
      · replace hr := iteT hc89 hr
        refine W.seq ?_
        refine W.region ?_
        refine WL.vS hS hE (runs_plain rfl) (Gives.p hE rfl) rfl ?_; clear hE a; intro a hE
        refine WL.nil ?_
        refine W.ret ?_
        refine finG (fn := Try.f4) (rs := [.tmp 6]) (vs := [_]) hE rfl ⟨rfl, trivial⟩ ?_
        obtain rfl := Option.some.inj hr
        replace hS := hS.tail
        exact ⟨rfl, hS⟩
      · replace hr := iteF hc89 hr
        refine W.skip ?_
        refine W.seq ?_
        refine W.seq ?_
        obtain ⟨q91, hq90, hr⟩ := bndS hr
        refine W.cut (fun a w => ∃ (q94 : Bool), q94 = q91 ∧ Rep a 119 [(1, .int .i64 x1), (2, .slice a2 x2.length c2), (3, .pointer (some ⟨b51, 0, none⟩)), (7, .int .i64 q52.1), (8, .int .i64 q52.2), (98, .bool q94)] ∧ St w s (pt b51 (.cells #[.int .i64 x0.Period, .int .i64 x0.Events, .slice a0_0 x0.Rules.length c0_0] 24 (0, 0)) :: R)) ?_ ?_
        · refine W.gen fun K95 hK95 => ?_
          refine W.region ?_
          refine WL.vS hS hE (runs_plain rfl) (Gives.p hE rfl) rfl ?_; clear hE a; intro a hE
          refine WL.vS hS hE (runs_plain rfl) (Gives.p hE rfl) rfl ?_; clear hE a; intro a hE
          refine WL.vS hS hE (runs_plain rfl) (Gives.p hE rfl) rfl ?_; clear hE a; intro a hE
          rcases Bool.eq_false_or_eq_true (decide (x1 < 0)) with hg96 | hg96
          · replace hq90 := iteT hg96 hq90
            refine WL.no hE (runs_not hE rfl rfl rfl (by rw [hg96]; decide)) rfl ?_; clear hE a; intro a hE
            refine WL.no hE (runs_not hE rfl rfl rfl (by rw [hg96]; decide)) rfl ?_; clear hE a; intro a hE
            refine WL.no hE (runs_not hE rfl rfl rfl (by rw [hg96]; decide)) rfl ?_; clear hE a; intro a hE
            refine WL.no hE (runs_not hE rfl rfl rfl (by rw [hg96]; decide)) rfl ?_; clear hE a; intro a hE
            refine WL.no hE (runs_not hE rfl rfl rfl (by rw [hg96]; decide)) rfl ?_; clear hE a; intro a hE
            refine WL.vS hS hE (runs_plain rfl) (Gives.pickT hE rfl hg96 rfl) rfl ?_; clear hE a; intro a hE
            refine WL.nil ?_
            subst hK95
            exact ⟨true, hq90, hE.pick _ ⟨rfl, rfl, rfl, rfl, rfl, rfl, trivial⟩, hS⟩
          · replace hq90 := iteF hg96 hq90
            refine WL.vS hS hE (runs_if hE rfl rfl rfl hg96) (Gives.p hE rfl) rfl ?_; clear hE a; intro a hE
            refine WL.vS hS hE (runs_if hE rfl rfl rfl hg96) (Gives.fld hE rfl fl24_2) rfl ?_; clear hE a; intro a hE
            refine WL.vS hS hE (runs_if hE rfl rfl rfl hg96) (Gives.loadB hE 0 rfl rfl rfl ty22) rfl ?_; clear hE a; intro a hE
            refine WL.vS hS hE (runs_if hE rfl rfl rfl hg96) (Gives.len hE rfl sl22) rfl ?_; clear hE a; intro a hE
            refine WL.vS hS hE (runs_if hE rfl rfl rfl hg96) (Gives.p hE rfl) rfl ?_; clear hE a; intro a hE
            refine WL.vS hS hE (runs_plain rfl) (Gives.pickF hE rfl hg96 rfl) rfl ?_; clear hE a; intro a hE
            refine WL.nil ?_
            subst hK95
            exact ⟨decide (x1 ≥ ((x0.Rules).length : Int)), hq90, hE.pick _ ⟨rfl, rfl, rfl, rfl, rfl, rfl, trivial⟩, hS⟩
        · clear hE hS a w; rintro a w ⟨q94, rfl, hE, hS⟩
          refine W.cond hE rfl (fun hc97 => ?_) (fun hc97 => ?_)
          · replace hr := iteT hc97 hr
            refine W.seq ?_
            obtain ⟨q99, hq98, hr⟩ := bndS hr
            refine W.cut (fun a w => ∃ (q102 : Bool), q102 = q99 ∧ Rep a 119 [(6, .bool q102)] ∧ St w s (pt b51 (.cells #[.int .i64 x0.Period, .int .i64 x0.Events, .slice a0_0 x0.Rules.length c0_0] 24 (0, 0)) :: R)) ?_ ?_
            · refine W.gen fun K103 hK103 => ?_
              refine W.region ?_
              refine WL.vS hS hE (runs_plain rfl) (Gives.p hE rfl) rfl ?_; clear hE a; intro a hE
              refine WL.vS hS hE (runs_plain rfl) (Gives.p hE rfl) rfl ?_; clear hE a; intro a hE
              refine WL.vS hS hE (runs_plain rfl) (Gives.p hE rfl) rfl ?_; clear hE a; intro a hE
              rcases Bool.eq_false_or_eq_true (q52.2 == 3) with hg104 | hg104
              · replace hq98 := iteT hg104 hq98
                refine WL.vS hS hE (runs_if hE rfl rfl rfl hg104) (Gives.p hE rfl) rfl ?_; clear hE a; intro a hE
                refine WL.vS hS hE (runs_if hE rfl rfl rfl hg104) (Gives.p hE rfl) rfl ?_; clear hE a; intro a hE
                refine WL.vS hS hE (runs_plain rfl) (Gives.pickT hE rfl hg104 rfl) rfl ?_; clear hE a; intro a hE
                refine WL.vS hS hE (runs_plain rfl) (Gives.p hE rfl) rfl ?_; clear hE a; intro a hE
                refine WL.nil ?_
                subst hK103
                exact ⟨(q52.1 == 0), hq98, hE.pick _ ⟨rfl, trivial⟩, hS⟩
              · replace hq98 := iteF hg104 hq98
                refine WL.no hE (runs_not hE rfl rfl rfl (by rw [hg104]; decide)) rfl ?_; clear hE a; intro a hE
                refine WL.no hE (runs_not hE rfl rfl rfl (by rw [hg104]; decide)) rfl ?_; clear hE a; intro a hE
                refine WL.vS hS hE (runs_plain rfl) (Gives.pickF hE rfl hg104 rfl) rfl ?_; clear hE a; intro a hE
                refine WL.vS hS hE (runs_plain rfl) (Gives.p hE rfl) rfl ?_; clear hE a; intro a hE
                refine WL.nil ?_
                subst hK103
                exact ⟨false, hq98, hE.pick _ ⟨rfl, trivial⟩, hS⟩
            · clear hE hS a w; rintro a w ⟨q102, rfl, hE, hS⟩
              refine W.ret ?_
              refine finG (fn := Try.f4) (rs := [.tmp 6]) (vs := [_]) hE rfl ⟨rfl, trivial⟩ ?_
              obtain rfl := Option.some.inj hr
              replace hS := hS.tail
              exact ⟨rfl, hS⟩
          · replace hr := iteF hc97 hr
            refine W.skip ?_
            refine W.seq ?_
            obtain ⟨q106, hq105, hr⟩ := bindS hr
            refine W.cut (fun a w => ∃ (q109 : Bool), q109 = q106 ∧ Rep a 119 [(6, .bool q109)] ∧ St w s (pt b51 (.cells #[.int .i64 x0.Period, .int .i64 x0.Events, .slice a0_0 x0.Rules.length c0_0] 24 (0, 0)) :: R)) ?_ ?_
            · refine W.gen fun K110 hK110 => ?_
              refine W.regionQ (C := fun w => St w s (pt b51 (.cells #[.int .i64 x0.Period, .int .i64 x0.Events, .slice a0_0 x0.Rules.length c0_0] 24 (0, 0)) :: R)) mixed (by kernel_rfl) hS.drew ?_
              refine QL.v hE (runs_plain rfl) (Gives.p hE rfl) rfl ?_; clear hE a; intro a hE
              refine QL.v hE (runs_plain rfl) (Gives.p hE rfl) rfl ?_; clear hE a; intro a hE
              refine QL.v hE (runs_plain rfl) (Gives.p hE rfl) rfl ?_; clear hE a; intro a hE
              rcases Bool.eq_false_or_eq_true (q52.2 == 0) with hg111 | hg111
              · replace hq105 := iteT hg111 hq105
                refine QL.v hE (runs_if hE rfl rfl rfl hg111) (Gives.p hE rfl) rfl ?_; clear hE a; intro a hE
                refine QL.v hE (runs_if hE rfl rfl rfl hg111) (Gives.loadBA hE 0 rfl rfl ty24) rfl ?_; clear hE a; intro a hE
                refine QL.v hE (runs_if hE rfl rfl rfl hg111) (Gives.fld hE rfl fl24_2) rfl ?_; clear hE a; intro a hE
                refine QL.v hE (runs_if hE rfl rfl rfl hg111) (Gives.loadB hE 0 rfl rfl rfl ty22) rfl ?_; clear hE a; intro a hE
                refine QL.v hE (runs_if hE rfl rfl rfl hg111) (Gives.p hE rfl) rfl ?_; clear hE a; intro a hE
                obtain ⟨x112, hx113, hq105⟩ := bindS hq105
                obtain ⟨hi114, hlt115, hy116⟩ := gx_some hx113
                obtain ⟨cs117, hl118, hR119, hat120⟩ := h0_0.at hy116
                subst hR119
                refine QL.v hE (runs_if hE rfl rfl rfl hg111) (Gives.idx hE (x1).toNat rfl rfl sl22 hi114 hlt115 (h0_0.aok hlt115)) rfl ?_; clear hE a; intro a hE
                refine QL.v hE (runs_if hE rfl rfl rfl hg111) (Gives.loadA hE rfl (fun w h => hat120 w _ h) ty37) rfl ?_; clear hE a; intro a hE
                refine QL.v hE (runs_if hE rfl rfl rfl hg111) (Gives.p hE rfl) rfl ?_; clear hE a; intro a hE
                obtain ⟨q121, hq122, hq105⟩ := bindS hq105
                refine QL.fnq hE (fun w hS => Fishref2GapOf_ok hS h0_0 h2 hq122) (runs_if hE rfl rfl rfl hg111) bd18 rfl rfl rfl ?_; clear hE a; intro a hE
                refine QL.v hE (runs_if hE rfl rfl rfl hg111) (Gives.p hE rfl) rfl ?_; clear hE a; intro a hE
                refine QL.v hE (runs_plain rfl) (Gives.pickT hE rfl hg111 rfl) rfl ?_; clear hE a; intro a hE
                refine QL.v hE (runs_plain rfl) (Gives.p hE rfl) rfl ?_; clear hE a; intro a hE
                refine QL.nil ?_; clear hS w; intro w hS
                subst hK110
                exact ⟨(q52.1 == q121), Option.some.inj hq105, hE.pick _ ⟨rfl, trivial⟩, hS⟩
              · replace hq105 := iteF hg111 hq105
                refine QL.no hE (runs_not hE rfl rfl rfl (by rw [hg111]; decide)) rfl ?_; clear hE a; intro a hE
                refine QL.no hE (runs_not hE rfl rfl rfl (by rw [hg111]; decide)) rfl ?_; clear hE a; intro a hE
                refine QL.no hE (runs_not hE rfl rfl rfl (by rw [hg111]; decide)) rfl ?_; clear hE a; intro a hE
                refine QL.no hE (runs_not hE rfl rfl rfl (by rw [hg111]; decide)) rfl ?_; clear hE a; intro a hE
                refine QL.no hE (runs_not hE rfl rfl rfl (by rw [hg111]; decide)) rfl ?_; clear hE a; intro a hE
                refine QL.no hE (runs_not hE rfl rfl rfl (by rw [hg111]; decide)) rfl ?_; clear hE a; intro a hE
                refine QL.no hE (runs_not hE rfl rfl rfl (by rw [hg111]; decide)) rfl ?_; clear hE a; intro a hE
                refine QL.no hE (runs_not hE rfl rfl rfl (by rw [hg111]; decide)) rfl ?_; clear hE a; intro a hE
                refine QL.no hE (runs_not hE rfl rfl rfl (by rw [hg111]; decide)) rfl ?_; clear hE a; intro a hE
                refine QL.no hE (runs_not hE rfl rfl rfl (by rw [hg111]; decide)) rfl ?_; clear hE a; intro a hE
                refine QL.v hE (runs_plain rfl) (Gives.pickF hE rfl hg111 rfl) rfl ?_; clear hE a; intro a hE
                refine QL.v hE (runs_plain rfl) (Gives.p hE rfl) rfl ?_; clear hE a; intro a hE
                refine QL.nil ?_; clear hS w; intro w hS
                subst hK110
                exact ⟨false, Option.some.inj hq105, hE.pick _ ⟨rfl, trivial⟩, hS⟩
            · clear hE hS a w; rintro a w ⟨q109, rfl, hE, hS⟩
              refine W.ret ?_
              refine finG (fn := Try.f4) (rs := [.tmp 6]) (vs := [_]) hE rfl ⟨rfl, trivial⟩ ?_
              obtain rfl := Option.some.inj hr
              replace hS := hS.tail
              exact ⟨rfl, hS⟩
end Go.Proofs.Ytffleanbfkjfiaa
