/- The walks of the functions that PlanBests reaches: each call comes to what its mirror says. The conditions are those of each contract. -/
import Derived.Test.YtffleanbfkjfiaaProg
import Derived.Test.YtffleanbfkjfiaaPlanBestsM
import Derived.Test.YtffleanbfkjfiaaFpMore
import Derived.Test.YtffleanbfkjfiaaPlanBestsW2
namespace Go.Proofs.Ytffleanbfkjfiaa
open Go Go.Fp
set_option maxHeartbeats 8000000 in
theorem PlanSearchrun_v2_ok : ∀ {fu : Nat} {w : World} {s : Sg} {R : List HP} {pb0 : Nat} {pb1 : Nat} {pb2 : Nat} {x1 : Option (List Int)} {a1 : Option Addr} {y0_0 : Int} {y0_1 : Int} {y0_2 : List PlanRule} {a_y0_2 : Option Addr} {c_y0_2 : Nat} {y0_5 : List Int} {a_v0 : Option Addr} {c_v0 n_v0 : Nat} {cs_v0 : List Value} {y0_6 : List Bool} {a_v1 : Option Addr} {c_v1 n_v1 : Nat} {cs_v1 : List Value} {y1 : Int} {y2 : Int} (_hS : St w s (pt pb0 (.cells #[.int .i64 y0_0, .int .i64 y0_1, .slice a_y0_2 y0_2.length c_y0_2, .func (.func 71) #[] #[.pointer (some ⟨pb1, 0, none⟩), .pointer (some ⟨pb2, 0, none⟩)], .func (.func 70) #[] #[.pointer (some ⟨pb1, 0, none⟩), .pointer (some ⟨pb2, 0, none⟩)], .slice a_v0 n_v0 c_v0, .slice a_v1 n_v1 c_v1] 80 (0, 0)) :: pt pb1 (.cells #[.int .i64 y1] 3 (0, 0)) :: pt pb2 (.cells #[.int .i64 y2] 3 (0, 0)) :: vecC 3 1 a_v0 c_v0 n_v0 cs_v0 :: vecC 4 1 a_v1 c_v1 n_v1 cs_v1 :: R)) (_h1 : Pt 64 (RA .i64 64) s a1 x1) (_h_y0_2 : Sl 5 RPlanRule s a_y0_2 c_y0_2 y0_2) (_h_v0 : Ev 1 (RI .i64) s cs_v0 y0_5) (_hn_v0 : y0_5.length = n_v0) (_h_v1 : Ev 1 RB s cs_v1 y0_6) (_hn_v1 : y0_6.length = n_v1) {r : (List Int) × (List Bool) × Int} (_hr : PlanSearchrun_v2 fu x1 y0_0 y0_1 y0_2 y0_5 y0_6 y1 y2 = some r),
    Calls Try.prog 54 [.pointer (some ⟨pb0, 0, none⟩), .pointer a1].toArray w (fun e w => ∃ (cs68 : List Value) (cs74 : List Value) (t : Sg), e = .returned (.tuple #[]) ∧ s.Le t ∧ Ev 1 (RI .i64) t cs68 r.1 ∧ r.1.length = n_v0 ∧ Ev 1 RB t cs74 r.2.1 ∧ r.2.1.length = n_v1 ∧ St w t (pt pb0 (.cells #[.int .i64 y0_0, .int .i64 y0_1, .slice a_y0_2 y0_2.length c_y0_2, .func (.func 71) #[] #[.pointer (some ⟨pb1, 0, none⟩), .pointer (some ⟨pb2, 0, none⟩)], .func (.func 70) #[] #[.pointer (some ⟨pb1, 0, none⟩), .pointer (some ⟨pb2, 0, none⟩)], .slice a_v0 n_v0 c_v0, .slice a_v1 n_v1 c_v1] 80 (0, 0)) :: pt pb1 (.cells #[.int .i64 y1] 3 (0, 0)) :: pt pb2 (.cells #[.int .i64 r.2.2] 3 (0, 0)) :: vecC 3 1 a_v0 c_v0 n_v0 cs68 :: vecC 4 1 a_v1 c_v1 n_v1 cs74 :: R)) := by
  intro fu
  induction fu with
  | zero => intro w s R pb0 pb1 pb2 x1 a1 y0_0 y0_1 y0_2 a_y0_2 c_y0_2 y0_5 a_v0 c_v0 n_v0 cs_v0 y0_6 a_v1 c_v1 n_v1 cs_v1 y1 y2 hS h1 h_y0_2 h_v0 hn_v0 h_v1 hn_v1 r hr; rw [PlanSearchrun_v2] at hr; exact absurd hr (by simp)
  | succ fu ih_PlanSearchrun_v2 =>
    intro w s R pb0 pb1 pb2 x1 a1 y0_0 y0_1 y0_2 a_y0_2 c_y0_2 y0_5 a_v0 c_v0 n_v0 cs_v0 y0_6 a_v1 c_v1 n_v1 cs_v1 y1 y2 hS h1 h_y0_2 h_v0 hn_v0 h_v1 hn_v1 r hr
    rw [PlanSearchrun_v2] at hr
    generalize PlanSearchrun_v2 fu = self_PlanSearchrun_v2 at hr ih_PlanSearchrun_v2
    refine enter Try.func54 rfl rfl rfl fun a hE => ?_
    subst hn_v0
    subst hn_v1
    refine W.seq ?_
    refine W.seq ?_
    refine W.region ?_
    refine WL.vS hS hE (runs_plain rfl) (Gives.p hE rfl) rfl ?_; clear hE a; intro a hE
    refine WL.vS hS hE (runs_plain rfl) (Gives.nilOk hE rfl) rfl ?_; clear hE a; intro a hE
    refine WL.vS hS hE (runs_plain rfl) (Gives.fld hE rfl fl80_2) rfl ?_; clear hE a; intro a hE
    refine WL.vS hS hE (runs_plain rfl) (Gives.loadB hE 0 rfl rfl rfl ty78) rfl ?_; clear hE a; intro a hE
    refine WL.vS hS hE (runs_plain rfl) (Gives.p hE rfl) rfl ?_; clear hE a; intro a hE
    obtain ⟨q77, hq78, hr⟩ := bindS hr
    replace hS := hS.front 2 rfl
    replace hS := hS.front 2 rfl
    have hc_ := Plansolve_1_v1_ok hS h1 hq78
    refine WL.fnw hE (hc_) rfl (runs_plain rfl) bd70 rfl rfl rfl ?_
    clear hE hS hc_; rintro e w ⟨rfl, hS⟩; refine ⟨_, rfl, ?_⟩; clear a; intro a hE
    refine WL.nil ?_
    refine W.cond hE rfl (fun hc79 => ?_) (fun hc79 => ?_)
    · replace hr := iteT hc79 hr
      refine W.ret ?_
      refine finG (fn := Try.f54) (rs := []) (vs := []) hE rfl trivial ?_
      obtain rfl := Option.some.inj hr
      replace hS := hS.front 4 rfl
      replace hS := hS.front 4 rfl
      replace hS := hS.front 3 rfl
      replace hS := hS.front 3 rfl
      replace hS := hS.front 4 rfl
      exact ⟨cs_v0, cs_v1, s, rfl, (Sg.Le.refl _), h_v0, (rfl), h_v1, (rfl), hS⟩
    · replace hr := iteF hc79 hr
      refine W.skip ?_
      refine W.seq ?_
      refine W.region ?_
      refine WL.vS hS hE (runs_plain rfl) (Gives.p hE rfl) rfl ?_; clear hE a; intro a hE
      refine WL.vS hS hE (runs_plain rfl) (Gives.p hE rfl) rfl ?_; clear hE a; intro a hE
      refine WL.nil ?_
      refine W.seq ?_
      refine W.seq ?_
      refine W.region ?_
      refine WL.vS hS hE (runs_plain rfl) (Gives.p hE rfl) rfl ?_; clear hE a; intro a hE
      refine WL.vS hS hE (runs_plain rfl) (Gives.nilOk hE rfl) rfl ?_; clear hE a; intro a hE
      refine WL.vS hS hE (runs_plain rfl) (Gives.fld hE rfl fl80_0) rfl ?_; clear hE a; intro a hE
      refine WL.vS hS hE (runs_plain rfl) (Gives.fld hE rfl fl24_2) rfl ?_; clear hE a; intro a hE
      refine WL.vS hS hE (runs_plain rfl) (Gives.loadB hE 2 rfl rfl rfl ty22) rfl ?_; clear hE a; intro a hE
      refine WL.vS hS hE (runs_plain rfl) (Gives.len hE rfl sl22) rfl ?_; clear hE a; intro a hE
      refine WL.vS hS hE (runs_plain rfl) (Gives.p hE rfl) rfl ?_; clear hE a; intro a hE
      refine WL.nil ?_
      obtain ⟨q81, hq80, hr⟩ := bindS hr
      refine W.cut (fun a w => ∃ (q91 : Int), ∃ (q92 : List Int), ∃ (q96 : Int), ∃ (a93 : Option Addr), ∃ (c94 : Nat), ∃ (s89 : Sg), s.Le s89 ∧ (.next (q91, q92, q96)) = q81 ∧ Sl 1 (RI .i64) s89 a93 c94 q92 ∧ Rep a 142 [(0, .pointer (some ⟨pb0, 0, none⟩)), (1, .pointer a1), (4, .int .i64 q91), (5, .slice a93 q92.length c94)] ∧ St w s89 (pt pb1 (.cells #[.int .i64 y1] 3 (0, 0)) :: pt pb2 (.cells #[.int .i64 q96] 3 (0, 0)) :: pt pb0 (.cells #[.int .i64 y0_0, .int .i64 y0_1, .slice a_y0_2 y0_2.length c_y0_2, .func (.func 71) #[] #[.pointer (some ⟨pb1, 0, none⟩), .pointer (some ⟨pb2, 0, none⟩)], .func (.func 70) #[] #[.pointer (some ⟨pb1, 0, none⟩), .pointer (some ⟨pb2, 0, none⟩)], .slice a_v0 y0_5.length c_v0, .slice a_v1 y0_6.length c_v1] 80 (0, 0)) :: vecC 3 1 a_v0 c_v0 y0_5.length cs_v0 :: vecC 4 1 a_v1 c_v1 y0_6.length cs_v1 :: R)) ?_ ?_
      · refine W.block ?_
        refine W.loop (fun m a w => ∃ (rest84 : List PlanRule) (k82 : Nat), ∃ (q91 : Int), ∃ (q92 : List Int), ∃ (q96 : Int), ∃ (a93 : Option Addr), ∃ (c94 : Nat), ∃ (s89 : Sg), rest84.length = m ∧ y0_2.drop k82 = rest84 ∧ s.Le s89 ∧ PlanSearchrun_v2.loop1 x1 y0_0 y0_1 y0_2 y0_5 y0_6 y1 fu rest84 k82 q91 q92 q96 = some q81 ∧ Sl 1 (RI .i64) s89 a93 c94 q92 ∧ Rep a 142 [(0, .pointer (some ⟨pb0, 0, none⟩)), (1, .pointer a1), (4, .int .i64 q91), (5, .slice a93 q92.length c94), (24, .slice a_y0_2 y0_2.length c_y0_2), (25, .int .i64 ((y0_2).length : Int)), (26, .int .i64 ((k82 : Nat) : Int))] ∧ St w s89 (pt pb1 (.cells #[.int .i64 y1] 3 (0, 0)) :: pt pb2 (.cells #[.int .i64 q96] 3 (0, 0)) :: pt pb0 (.cells #[.int .i64 y0_0, .int .i64 y0_1, .slice a_y0_2 y0_2.length c_y0_2, .func (.func 71) #[] #[.pointer (some ⟨pb1, 0, none⟩), .pointer (some ⟨pb2, 0, none⟩)], .func (.func 70) #[] #[.pointer (some ⟨pb1, 0, none⟩), .pointer (some ⟨pb2, 0, none⟩)], .slice a_v0 y0_5.length c_v0, .slice a_v1 y0_6.length c_v1] 80 (0, 0)) :: vecC 3 1 a_v0 c_v0 y0_5.length cs_v0 :: vecC 4 1 a_v1 c_v1 y0_6.length cs_v1 :: R)) (m := y0_2.length) ⟨y0_2, 0, (-1), [], y2, none, 0, s, rfl, rfl, (Sg.Le.refl _), hq80, Sl.nil, hE.pick _ ⟨rfl, rfl, rfl, rfl, rfl, rfl, rfl, trivial⟩, hS⟩ ?_
        clear hE hS a w hq80; rintro m88 a w ⟨rest84, k82, q91, q92, q96, a93, c94, s89, rfl, hd85, hle90, hq80, h95, hE, hS⟩
        refine W.gen fun K97 hK97 => ?_
        replace h1 := Pt.mono RA.mono hle90 h1
        replace h_y0_2 := Sl.mono RPlanRule.mono hle90 h_y0_2
        replace h_v0 := Ev.mono RI.mono hle90 h_v0
        replace h_v1 := Ev.mono RB.mono hle90 h_v1
        rcases rest84 with _ | ⟨x83, rest84⟩
        · have hlt86 := drop_nil hd85
          refine W.seq ?_
          refine W.region ?_
          refine WL.vS hS hE (runs_plain rfl) (Gives.p hE rfl) rfl ?_; clear hE a; intro a hE
          refine WL.nil ?_
          refine W.seq ?_
          refine W.condF hE rfl (decide_eq_false (by omega)) ?_
          subst hK97
          refine W.exit rfl ?_
          exact ⟨q91, q92, q96, a93, c94, s89, hle90, Option.some.inj hq80, h95, hE.pick _ ⟨rfl, rfl, rfl, rfl, trivial⟩, hS⟩
        · obtain ⟨hlt86, hx87, hd85⟩ := drop_cons hd85
          rw [PlanSearchrun_v2.loop1] at hq80
          refine W.seq ?_
          refine W.region ?_
          refine WL.vS hS hE (runs_plain rfl) (Gives.p hE rfl) rfl ?_; clear hE a; intro a hE
          refine WL.nil ?_
          refine W.seq ?_
          refine W.condT hE rfl (decide_eq_true (by omega)) ?_
          refine W.skip ?_
          refine W.seq ?_
          refine W.block ?_
          refine W.seq ?_
          refine W.region ?_
          refine WL.vS hS hE (runs_plain rfl) (Gives.p hE rfl) rfl ?_; clear hE a; intro a hE
          obtain ⟨cs98, hl99, hR100, hat101⟩ := h_y0_2.at hx87
          subst hR100
          refine WL.vS hS hE (runs_plain rfl) (Gives.idx hE k82 rfl rfl sl22 rfl hlt86 (h_y0_2.aok hlt86)) rfl ?_; clear hE a; intro a hE
          refine WL.vS hS hE (runs_plain rfl) (Gives.loadA hE rfl (fun w h => hat101 w _ h) ty37) rfl ?_; clear hE a; intro a hE
          refine WL.alloc hE hS (runs_plain rfl) zr37 rfl ?_; clear hE hS a w; intro b102 a w hE hS
          refine WL.vS hS hE (runs_plain rfl) (Gives.p hE rfl) rfl ?_; clear hE a; intro a hE
          refine WL.storeI hE hS 0 rfl (PlanRule.cells x83) (runs_plain rfl) rfl rfl rfl ty37 rfl rfl rfl rfl ?_; clear hE hS a w; intro a w hE hS
          refine WL.nil ?_
          refine W.seq ?_
          refine W.seq ?_
          refine W.region ?_
          refine WL.vS hS hE (runs_plain rfl) (Gives.p hE rfl) rfl ?_; clear hE a; intro a hE
          refine WL.vS hS hE (runs_plain rfl) (Gives.nilOk hE rfl) rfl ?_; clear hE a; intro a hE
          refine WL.vS hS hE (runs_plain rfl) (Gives.fld hE rfl fl80_4) rfl ?_; clear hE a; intro a hE
          refine WL.vS hS hE (runs_plain rfl) (Gives.loadB hE 3 rfl rfl rfl ty71) rfl ?_; clear hE a; intro a hE
          refine WL.vS hS hE (runs_plain rfl) (Gives.p hE rfl) rfl ?_; clear hE a; intro a hE
          obtain ⟨x103, hx104, hq80⟩ := bindS hq80
          obtain ⟨hi105, hlt106, hy107⟩ := gx_some hx104
          obtain ⟨vs108, hl109, hR110, hd111, hget112⟩ := h_v1.at hy107
          subst hR110
          refine WL.vS hS hE (runs_plain rfl) (Gives.idx hE ((((k82 : Nat) : Int)).toNat) rfl rfl sl71 hi105 (by omega) (hS.vecAok 5 rfl (by omega : (((k82 : Nat) : Int)).toNat < y0_6.length))) rfl ?_; clear hE a; intro a hE
          refine WL.vS hS hE (runs_plain rfl) (Gives.load1 hE rfl (fun w h => St.vecSees h 5 rfl ((((k82 : Nat) : Int)).toNat * 1) _ hget112) ty4) rfl ?_; clear hE a; intro a hE
          refine WL.vS hS hE (runs_plain rfl) (Gives.p hE rfl) rfl ?_; clear hE a; intro a hE
          refine WL.nil ?_
          refine W.cond hE rfl (fun hc113 => ?_) (fun hc113 => ?_)
          · replace hq80 := iteT hc113 hq80
            refine W.exit rfl ?_
            refine W.region ?_
            refine WL.vS hS hE (runs_plain rfl) (Gives.inc hE rfl (by have := h_y0_2.small; omega)) rfl ?_; clear hE a; intro a hE
            refine WL.vS hS hE (runs_plain rfl) (Gives.p hE rfl) rfl ?_; clear hE a; intro a hE
            refine WL.nil ?_
            replace hS := hS.tail
            subst hK97
            exact ⟨rest84.length, Nat.lt_succ_self _, rest84, k82 + 1, q91, q92, q96, a93, c94, s89, rfl, hd85, hle90, hq80, h95, hE.pick _ ⟨rfl, rfl, rfl, rfl, rfl, rfl, rfl, trivial⟩, hS⟩
          · replace hq80 := iteF hc113 hq80
            refine W.skip ?_
            refine W.seq ?_
            refine W.region ?_
            refine WL.vS hS hE (runs_plain rfl) (Gives.p hE rfl) rfl ?_; clear hE a; intro a hE
            refine WL.vS hS hE (runs_plain rfl) (Gives.p hE rfl) rfl ?_; clear hE a; intro a hE
            refine WL.vS hS hE (runs_plain rfl) (Gives.loadBA hE 0 rfl rfl ty37) rfl ?_; clear hE a; intro a hE
            obtain ⟨q114, hq115, hq80⟩ := bindS hq80
            replace hS := hS.front 5 rfl
            replace hS := hS.front 5 rfl
            replace hS := hS.front 4 rfl
            replace hS := hS.front 4 rfl
            replace hS := hS.front 5 rfl
            have hc_ := PlanSearchchoices_v2_ok hS h1 h_y0_2 h_v0 (rfl) h_v1 (rfl) hq115
            refine WL.fnq hE (hc_) (runs_plain rfl) bd82 rfl rfl rfl ?_
            clear hE hS hc_; rintro e w ⟨a116, c117, n118, cs119, rfl, h120, rfl, hS⟩; refine ⟨_, rfl, ?_⟩; clear a; intro a hE
            refine WL.vS hS hE (runs_plain rfl) (Gives.p hE rfl) rfl ?_; clear hE a; intro a hE
            refine WL.nil ?_
            refine W.seq ?_
            refine W.seq ?_
            obtain ⟨q123, hq122, hq80⟩ := bndS hq80
            refine W.cut (fun a w => ∃ (q126 : Bool), q126 = q123 ∧ Rep a 142 [(0, .pointer (some ⟨pb0, 0, none⟩)), (1, .pointer a1), (4, .int .i64 q91), (5, .slice a93 q92.length c94), (6, .int .i64 ((k82 : Nat) : Int)), (8, .slice a116 q114.length c117), (24, .slice a_y0_2 y0_2.length c_y0_2), (25, .int .i64 ((y0_2).length : Int)), (26, .int .i64 ((k82 : Nat) : Int)), (51, .bool q126)] ∧ St w s89 (vecC 3 1 a116 c117 q114.length cs119 :: pt pb0 (.cells #[.int .i64 y0_0, .int .i64 y0_1, .slice a_y0_2 y0_2.length c_y0_2, .func (.func 71) #[] #[.pointer (some ⟨pb1, 0, none⟩), .pointer (some ⟨pb2, 0, none⟩)], .func (.func 70) #[] #[.pointer (some ⟨pb1, 0, none⟩), .pointer (some ⟨pb2, 0, none⟩)], .slice a_v0 y0_5.length c_v0, .slice a_v1 y0_6.length c_v1] 80 (0, 0)) :: pt pb1 (.cells #[.int .i64 y1] 3 (0, 0)) :: pt pb2 (.cells #[.int .i64 q96] 3 (0, 0)) :: vecC 3 1 a_v0 c_v0 y0_5.length cs_v0 :: vecC 4 1 a_v1 c_v1 y0_6.length cs_v1 :: pt b102 (.cells (PlanRule.cells x83).toArray 37 (0, 0)) :: R)) ?_ ?_
            · refine W.gen fun K127 hK127 => ?_
              refine W.region ?_
              refine WL.vS hS hE (runs_plain rfl) (Gives.p hE rfl) rfl ?_; clear hE a; intro a hE
              refine WL.vS hS hE (runs_plain rfl) (Gives.p hE rfl) rfl ?_; clear hE a; intro a hE
              refine WL.vS hS hE (runs_plain rfl) (Gives.p hE rfl) rfl ?_; clear hE a; intro a hE
              rcases Bool.eq_false_or_eq_true (decide (q91 < 0)) with hg128 | hg128
              · replace hq122 := iteT hg128 hq122
                refine WL.no hE (runs_not hE rfl rfl rfl (by rw [hg128]; decide)) rfl ?_; clear hE a; intro a hE
                refine WL.no hE (runs_not hE rfl rfl rfl (by rw [hg128]; decide)) rfl ?_; clear hE a; intro a hE
                refine WL.no hE (runs_not hE rfl rfl rfl (by rw [hg128]; decide)) rfl ?_; clear hE a; intro a hE
                refine WL.no hE (runs_not hE rfl rfl rfl (by rw [hg128]; decide)) rfl ?_; clear hE a; intro a hE
                refine WL.no hE (runs_not hE rfl rfl rfl (by rw [hg128]; decide)) rfl ?_; clear hE a; intro a hE
                refine WL.vS hS hE (runs_plain rfl) (Gives.pickT hE rfl hg128 rfl) rfl ?_; clear hE a; intro a hE
                refine WL.nil ?_
                subst hK127
                exact ⟨true, hq122, hE.pick _ ⟨rfl, rfl, rfl, rfl, rfl, rfl, rfl, rfl, rfl, rfl, trivial⟩, hS⟩
              · replace hq122 := iteF hg128 hq122
                refine WL.vS hS hE (runs_if hE rfl rfl rfl hg128) (Gives.p hE rfl) rfl ?_; clear hE a; intro a hE
                refine WL.vS hS hE (runs_if hE rfl rfl rfl hg128) (Gives.len hE rfl sl29) rfl ?_; clear hE a; intro a hE
                refine WL.vS hS hE (runs_if hE rfl rfl rfl hg128) (Gives.p hE rfl) rfl ?_; clear hE a; intro a hE
                refine WL.vS hS hE (runs_if hE rfl rfl rfl hg128) (Gives.len hE rfl sl29) rfl ?_; clear hE a; intro a hE
                refine WL.vS hS hE (runs_if hE rfl rfl rfl hg128) (Gives.p hE rfl) rfl ?_; clear hE a; intro a hE
                refine WL.vS hS hE (runs_plain rfl) (Gives.pickF hE rfl hg128 rfl) rfl ?_; clear hE a; intro a hE
                refine WL.nil ?_
                subst hK127
                exact ⟨decide (((q114.length : Nat) : Int) < ((q92).length : Int)), hq122, hE.pick _ ⟨rfl, rfl, rfl, rfl, rfl, rfl, rfl, rfl, rfl, rfl, trivial⟩, hS⟩
            · clear hE hS a w; rintro a w ⟨q126, rfl, hE, hS⟩
              have hF := hS.fixD RI.mono 0 rfl h120 rfl; clear hS; obtain ⟨s129, hle130, hS, h131⟩ := hF
              replace h1 := Pt.mono RA.mono hle130 h1
              replace h95 := Sl.mono RI.mono hle130 h95
              replace h_y0_2 := Sl.mono RPlanRule.mono hle130 h_y0_2
              replace h_v0 := Ev.mono RI.mono hle130 h_v0
              replace h_v1 := Ev.mono RB.mono hle130 h_v1
              obtain ⟨q133, hq132, hq80⟩ := bndS hq80
              refine W.cut (fun a w => ∃ (q136 : Int), ∃ (q137 : List Int), ∃ (a138 : Option Addr), ∃ (c139 : Nat), (q136, q137) = q133 ∧ Sl 1 (RI .i64) s129 a138 c139 q137 ∧ Rep a 142 [(0, .pointer (some ⟨pb0, 0, none⟩)), (1, .pointer a1), (4, .int .i64 q136), (5, .slice a138 q137.length c139), (8, .slice a116 q114.length c117), (24, .slice a_y0_2 y0_2.length c_y0_2), (25, .int .i64 ((y0_2).length : Int)), (26, .int .i64 ((k82 : Nat) : Int))] ∧ St w s129 (pt pb0 (.cells #[.int .i64 y0_0, .int .i64 y0_1, .slice a_y0_2 y0_2.length c_y0_2, .func (.func 71) #[] #[.pointer (some ⟨pb1, 0, none⟩), .pointer (some ⟨pb2, 0, none⟩)], .func (.func 70) #[] #[.pointer (some ⟨pb1, 0, none⟩), .pointer (some ⟨pb2, 0, none⟩)], .slice a_v0 y0_5.length c_v0, .slice a_v1 y0_6.length c_v1] 80 (0, 0)) :: pt pb1 (.cells #[.int .i64 y1] 3 (0, 0)) :: pt pb2 (.cells #[.int .i64 q96] 3 (0, 0)) :: vecC 3 1 a_v0 c_v0 y0_5.length cs_v0 :: vecC 4 1 a_v1 c_v1 y0_6.length cs_v1 :: pt b102 (.cells (PlanRule.cells x83).toArray 37 (0, 0)) :: R)) ?_ ?_
              · refine W.gen fun K141 hK141 => ?_
                refine W.cond hE rfl (fun hc142 => ?_) (fun hc142 => ?_)
                · replace hq132 := iteT hc142 hq132
                  refine W.region ?_
                  refine WL.vS hS hE (runs_plain rfl) (Gives.p hE rfl) rfl ?_; clear hE a; intro a hE
                  refine WL.vS hS hE (runs_plain rfl) (Gives.p hE rfl) rfl ?_; clear hE a; intro a hE
                  refine WL.vS hS hE (runs_plain rfl) (Gives.p hE rfl) rfl ?_; clear hE a; intro a hE
                  refine WL.vS hS hE (runs_plain rfl) (Gives.p hE rfl) rfl ?_; clear hE a; intro a hE
                  refine WL.nil ?_
                  subst hK141
                  exact ⟨((k82 : Nat) : Int), q114, a116, c117, hq132, h131, hE.pick _ ⟨rfl, rfl, rfl, rfl, rfl, rfl, rfl, rfl, trivial⟩, hS⟩
                · replace hq132 := iteF hc142 hq132
                  refine W.skip ?_
                  subst hK141
                  exact ⟨q91, q92, a93, c94, hq132, h95, hE.pick _ ⟨rfl, rfl, rfl, rfl, rfl, rfl, rfl, rfl, trivial⟩, hS⟩
              · clear hE hS a w; rintro a w ⟨q136, q137, a138, c139, rfl, h140, hE, hS⟩
                dsimp only at hq80
                refine W.seq ?_
                refine W.region ?_
                refine WL.vS hS hE (runs_plain rfl) (Gives.p hE rfl) rfl ?_; clear hE a; intro a hE
                refine WL.vS hS hE (runs_plain rfl) (Gives.len hE rfl sl29) rfl ?_; clear hE a; intro a hE
                refine WL.vS hS hE (runs_plain rfl) (Gives.p hE rfl) rfl ?_; clear hE a; intro a hE
                refine WL.nil ?_
                refine W.cond hE rfl (fun hc143 => ?_) (fun hc143 => ?_)
                · replace hq80 := iteT hc143 hq80
                  refine W.ret ?_
                  subst hK97
                  rw [← Option.some.inj hq80] at hr
                  dsimp only at hr
                  refine finG (fn := Try.f54) (rs := []) (vs := []) hE rfl trivial ?_
                  obtain rfl := Option.some.inj hr
                  replace hS := hS.dropAt 5
                  exact ⟨cs_v0, cs_v1, s129, rfl, (Sg.Le.trans hle90 hle130), h_v0, (rfl), h_v1, (rfl), hS⟩
                · replace hq80 := iteF hc143 hq80
                  refine W.skip ?_
                  refine W.region ?_
                  refine WL.vS hS hE (runs_plain rfl) (Gives.inc hE rfl (by have := h_y0_2.small; omega)) rfl ?_; clear hE a; intro a hE
                  refine WL.vS hS hE (runs_plain rfl) (Gives.p hE rfl) rfl ?_; clear hE a; intro a hE
                  refine WL.nil ?_
                  replace hS := hS.dropAt 5
                  replace hS := hS.front 4 rfl
                  replace hS := hS.front 4 rfl
                  replace hS := hS.front 2 rfl
                  replace hS := hS.front 4 rfl
                  replace hS := hS.front 4 rfl
                  subst hK97
                  exact ⟨rest84.length, Nat.lt_succ_self _, rest84, k82 + 1, q136, q137, q96, a138, c139, s129, rfl, hd85, (Sg.Le.trans hle90 hle130), hq80, h140, hE.pick _ ⟨rfl, rfl, rfl, rfl, rfl, rfl, rfl, trivial⟩, hS⟩
      · clear hE hS a w; rintro a w ⟨q91, q92, q96, a93, c94, s89, hle90, rfl, h95, hE, hS⟩
        dsimp only at hr
        replace h1 := Pt.mono RA.mono hle90 h1
        replace h_y0_2 := Sl.mono RPlanRule.mono hle90 h_y0_2
        replace h_v0 := Ev.mono RI.mono hle90 h_v0
        replace h_v1 := Ev.mono RB.mono hle90 h_v1
        refine W.seq ?_
        refine W.seq ?_
        refine W.region ?_
        refine WL.vS hS hE (runs_plain rfl) (Gives.p hE rfl) rfl ?_; clear hE a; intro a hE
        refine WL.vS hS hE (runs_plain rfl) (Gives.p hE rfl) rfl ?_; clear hE a; intro a hE
        refine WL.nil ?_
        refine W.cond hE rfl (fun hc144 => ?_) (fun hc144 => ?_)
        · replace hr := iteT hc144 hr
          refine W.seq ?_
          refine W.gen fun K145 hK145 => ?_
          refine W.regionE (sel (fun w => St w s89 (pt pb1 (.cells #[.int .i64 y1] 3 (0, 0)) :: pt pb2 (.cells #[.int .i64 q96] 3 (0, 0)) :: pt pb0 (.cells #[.int .i64 y0_0, .int .i64 y0_1, .slice a_y0_2 y0_2.length c_y0_2, .func (.func 71) #[] #[.pointer (some ⟨pb1, 0, none⟩), .pointer (some ⟨pb2, 0, none⟩)], .func (.func 70) #[] #[.pointer (some ⟨pb1, 0, none⟩), .pointer (some ⟨pb2, 0, none⟩)], .slice a_v0 y0_5.length c_v0, .slice a_v1 y0_6.length c_v1] 80 (0, 0)) :: vecC 3 1 a_v0 c_v0 y0_5.length cs_v0 :: vecC 4 1 a_v1 c_v1 y0_6.length cs_v1 :: R)) (fun w => St w s89 (pt pb1 (.cells #[.int .i64 y1] 3 (0, 0)) :: pt pb0 (.cells #[.int .i64 y0_0, .int .i64 y0_1, .slice a_y0_2 y0_2.length c_y0_2, .func (.func 71) #[] #[.pointer (some ⟨pb1, 0, none⟩), .pointer (some ⟨pb2, 0, none⟩)], .func (.func 70) #[] #[.pointer (some ⟨pb1, 0, none⟩), .pointer (some ⟨pb2, 0, none⟩)], .slice a_v0 y0_5.length c_v0, .slice a_v1 y0_6.length c_v1] 80 (0, 0)) :: vecC 3 1 a_v0 c_v0 y0_5.length cs_v0 :: vecC 4 1 a_v1 c_v1 y0_6.length cs_v1 :: R))) (fun b i => cond b ([0, 1, 2, 3, 4, 5, 6, 7, 8].contains i) ([0, 1, 2, 3, 4, 5, 6, 7, 8, 9].contains i)) mixed ?_
          replace hS := hS.drew
          refine Rg.takeP (i := 0) hE rfl (by kernel_rfl) (runs_plain rfl) (Gives.p hE rfl) rfl (tw_sel (fun _ => hS) (fun _ => (hS.dropAt 1))) ?_; clear hE a; intro a hE
          have hT := tw_sel (A := fun w => St w s89 (pt pb1 (.cells #[.int .i64 y1] 3 (0, 0)) :: pt pb2 (.cells #[.int .i64 q96] 3 (0, 0)) :: pt pb0 (.cells #[.int .i64 y0_0, .int .i64 y0_1, .slice a_y0_2 y0_2.length c_y0_2, .func (.func 71) #[] #[.pointer (some ⟨pb1, 0, none⟩), .pointer (some ⟨pb2, 0, none⟩)], .func (.func 70) #[] #[.pointer (some ⟨pb1, 0, none⟩), .pointer (some ⟨pb2, 0, none⟩)], .slice a_v0 y0_5.length c_v0, .slice a_v1 y0_6.length c_v1] 80 (0, 0)) :: vecC 3 1 a_v0 c_v0 y0_5.length cs_v0 :: vecC 4 1 a_v1 c_v1 y0_6.length cs_v1 :: R)) (B := fun w => St w s89 (pt pb1 (.cells #[.int .i64 y1] 3 (0, 0)) :: pt pb0 (.cells #[.int .i64 y0_0, .int .i64 y0_1, .slice a_y0_2 y0_2.length c_y0_2, .func (.func 71) #[] #[.pointer (some ⟨pb1, 0, none⟩), .pointer (some ⟨pb2, 0, none⟩)], .func (.func 70) #[] #[.pointer (some ⟨pb1, 0, none⟩), .pointer (some ⟨pb2, 0, none⟩)], .slice a_v0 y0_5.length c_v0, .slice a_v1 y0_6.length c_v1] 80 (0, 0)) :: vecC 3 1 a_v0 c_v0 y0_5.length cs_v0 :: vecC 4 1 a_v1 c_v1 y0_6.length cs_v1 :: R)) (w := _) (x := true) (y := true) (fun _ => hS) (fun _ => (hS.dropAt 1))
          have hF := hS; replace hS := (hS.dropAt 1)
          refine Rg.take (i := 1) false rfl hE rfl (by kernel_rfl) (runs_plain rfl) (Gives.nilOk hE rfl) rfl hT ?_; clear hE a; intro a hE
          replace hS := hF; clear hF hT
          refine Rg.takeP (i := 2) hE rfl (by kernel_rfl) (runs_plain rfl) (Gives.fld hE rfl fl80_1) rfl (tw_sel (fun _ => hS) (fun _ => (hS.dropAt 1))) ?_; clear hE a; intro a hE
          have hT := tw_sel (A := fun w => St w s89 (pt pb1 (.cells #[.int .i64 y1] 3 (0, 0)) :: pt pb2 (.cells #[.int .i64 q96] 3 (0, 0)) :: pt pb0 (.cells #[.int .i64 y0_0, .int .i64 y0_1, .slice a_y0_2 y0_2.length c_y0_2, .func (.func 71) #[] #[.pointer (some ⟨pb1, 0, none⟩), .pointer (some ⟨pb2, 0, none⟩)], .func (.func 70) #[] #[.pointer (some ⟨pb1, 0, none⟩), .pointer (some ⟨pb2, 0, none⟩)], .slice a_v0 y0_5.length c_v0, .slice a_v1 y0_6.length c_v1] 80 (0, 0)) :: vecC 3 1 a_v0 c_v0 y0_5.length cs_v0 :: vecC 4 1 a_v1 c_v1 y0_6.length cs_v1 :: R)) (B := fun w => St w s89 (pt pb1 (.cells #[.int .i64 y1] 3 (0, 0)) :: pt pb0 (.cells #[.int .i64 y0_0, .int .i64 y0_1, .slice a_y0_2 y0_2.length c_y0_2, .func (.func 71) #[] #[.pointer (some ⟨pb1, 0, none⟩), .pointer (some ⟨pb2, 0, none⟩)], .func (.func 70) #[] #[.pointer (some ⟨pb1, 0, none⟩), .pointer (some ⟨pb2, 0, none⟩)], .slice a_v0 y0_5.length c_v0, .slice a_v1 y0_6.length c_v1] 80 (0, 0)) :: vecC 3 1 a_v0 c_v0 y0_5.length cs_v0 :: vecC 4 1 a_v1 c_v1 y0_6.length cs_v1 :: R)) (w := _) (x := true) (y := true) (fun _ => hS) (fun _ => (hS.dropAt 1))
          have hF := hS; replace hS := hS
          refine Rg.take (i := 3) true rfl hE rfl (by kernel_rfl) (runs_plain rfl) (Gives.loadB hE 2 rfl rfl rfl ty77) rfl hT ?_; clear hE a; intro a hE
          replace hS := hF; clear hF hT
          refine Rg.takeP (i := 4) hE rfl (by kernel_rfl) (runs_plain rfl) (Gives.p hE rfl) rfl (tw_sel (fun _ => hS) (fun _ => (hS.dropAt 1))) ?_; clear hE a; intro a hE
          refine Rg.takeP (i := 5) hE rfl (by kernel_rfl) (runs_plain rfl) (Gives.p hE rfl) rfl (tw_sel (fun _ => hS) (fun _ => (hS.dropAt 1))) ?_; clear hE a; intro a hE
          have hT := tw_sel (A := fun w => St w s89 (pt pb1 (.cells #[.int .i64 y1] 3 (0, 0)) :: pt pb2 (.cells #[.int .i64 q96] 3 (0, 0)) :: pt pb0 (.cells #[.int .i64 y0_0, .int .i64 y0_1, .slice a_y0_2 y0_2.length c_y0_2, .func (.func 71) #[] #[.pointer (some ⟨pb1, 0, none⟩), .pointer (some ⟨pb2, 0, none⟩)], .func (.func 70) #[] #[.pointer (some ⟨pb1, 0, none⟩), .pointer (some ⟨pb2, 0, none⟩)], .slice a_v0 y0_5.length c_v0, .slice a_v1 y0_6.length c_v1] 80 (0, 0)) :: vecC 3 1 a_v0 c_v0 y0_5.length cs_v0 :: vecC 4 1 a_v1 c_v1 y0_6.length cs_v1 :: R)) (B := fun w => St w s89 (pt pb1 (.cells #[.int .i64 y1] 3 (0, 0)) :: pt pb0 (.cells #[.int .i64 y0_0, .int .i64 y0_1, .slice a_y0_2 y0_2.length c_y0_2, .func (.func 71) #[] #[.pointer (some ⟨pb1, 0, none⟩), .pointer (some ⟨pb2, 0, none⟩)], .func (.func 70) #[] #[.pointer (some ⟨pb1, 0, none⟩), .pointer (some ⟨pb2, 0, none⟩)], .slice a_v0 y0_5.length c_v0, .slice a_v1 y0_6.length c_v1] 80 (0, 0)) :: vecC 3 1 a_v0 c_v0 y0_5.length cs_v0 :: vecC 4 1 a_v1 c_v1 y0_6.length cs_v1 :: R)) (w := _) (x := true) (y := true) (fun _ => hS) (fun _ => (hS.dropAt 1))
          have hF := hS; replace hS := (hS.dropAt 1)
          refine Rg.take (i := 6) false rfl hE rfl (by kernel_rfl) (runs_plain rfl) (Gives.nilOk hE rfl) rfl hT ?_; clear hE a; intro a hE
          replace hS := hF; clear hF hT
          refine Rg.takeP (i := 7) hE rfl (by kernel_rfl) (runs_plain rfl) (Gives.fld hE rfl fl80_3) rfl (tw_sel (fun _ => hS) (fun _ => (hS.dropAt 1))) ?_; clear hE a; intro a hE
          have hT := tw_sel (A := fun w => St w s89 (pt pb1 (.cells #[.int .i64 y1] 3 (0, 0)) :: pt pb2 (.cells #[.int .i64 q96] 3 (0, 0)) :: pt pb0 (.cells #[.int .i64 y0_0, .int .i64 y0_1, .slice a_y0_2 y0_2.length c_y0_2, .func (.func 71) #[] #[.pointer (some ⟨pb1, 0, none⟩), .pointer (some ⟨pb2, 0, none⟩)], .func (.func 70) #[] #[.pointer (some ⟨pb1, 0, none⟩), .pointer (some ⟨pb2, 0, none⟩)], .slice a_v0 y0_5.length c_v0, .slice a_v1 y0_6.length c_v1] 80 (0, 0)) :: vecC 3 1 a_v0 c_v0 y0_5.length cs_v0 :: vecC 4 1 a_v1 c_v1 y0_6.length cs_v1 :: R)) (B := fun w => St w s89 (pt pb1 (.cells #[.int .i64 y1] 3 (0, 0)) :: pt pb0 (.cells #[.int .i64 y0_0, .int .i64 y0_1, .slice a_y0_2 y0_2.length c_y0_2, .func (.func 71) #[] #[.pointer (some ⟨pb1, 0, none⟩), .pointer (some ⟨pb2, 0, none⟩)], .func (.func 70) #[] #[.pointer (some ⟨pb1, 0, none⟩), .pointer (some ⟨pb2, 0, none⟩)], .slice a_v0 y0_5.length c_v0, .slice a_v1 y0_6.length c_v1] 80 (0, 0)) :: vecC 3 1 a_v0 c_v0 y0_5.length cs_v0 :: vecC 4 1 a_v1 c_v1 y0_6.length cs_v1 :: R)) (w := _) (x := true) (y := true) (fun _ => hS) (fun _ => (hS.dropAt 1))
          have hF := hS; replace hS := hS
          refine Rg.take (i := 8) true rfl hE rfl (by kernel_rfl) (runs_plain rfl) (Gives.loadB hE 2 rfl rfl rfl ty29) rfl hT ?_; clear hE a; intro a hE
          replace hS := hF; clear hF hT
          refine Rg.one (i := 9) false true rfl (by kernel_rfl) (by kernel_rfl) (by kernel_rfl) ?_
          obtain ⟨q146, hq147, hr⟩ := bindS hr
          have hF := hS.lendV RI.mono 3 rfl h_v0 (rfl); clear hS; obtain ⟨t148, hle149, hS, hs150, bk151⟩ := hF
          have hc_ := Plansolve_2_v1_ok hS (Pt.mono RA.mono hle149 h1) hs150 hq147
          refine WL.fnw hE (hc_) rfl (runs_plain rfl) bd71 rfl rfl rfl ?_
          clear hE hS hc_; rintro e w ⟨rfl, hS⟩; refine ⟨_, rfl, ?_⟩; clear a; intro a hE
          replace hS := bk151 _ _ hS
          refine WL.nil ?_
          refine ⟨⟨fun h => absurd h (by decide), fun _ => (St.front (St.front (St.front (St.front (hS.dropAt 2) 3 rfl) 1 rfl) 3 rfl) 3 rfl)⟩, ?_⟩
          refine Rg.done (by kernel_rfl) ?_
          subst hK145
          refine W.ret ?_
          refine finG (fn := Try.f54) (rs := []) (vs := []) hE rfl trivial ?_
          obtain rfl := Option.some.inj hr
          replace hS := hS.front 4 rfl
          replace hS := hS.front 1 rfl
          replace hS := hS.front 3 rfl
          replace hS := hS.front 3 rfl
          replace hS := hS.front 4 rfl
          exact ⟨cs_v0, cs_v1, s89, rfl, hle90, h_v0, (rfl), h_v1, (rfl), hS⟩
        · replace hr := iteF hc144 hr
          refine W.skip ?_
          refine W.seq ?_
          refine W.region ?_
          refine WL.vS hS hE (runs_plain rfl) (Gives.p hE rfl) rfl ?_; clear hE a; intro a hE
          refine WL.vS hS hE (runs_plain rfl) (Gives.nilOk hE rfl) rfl ?_; clear hE a; intro a hE
          refine WL.vS hS hE (runs_plain rfl) (Gives.fld hE rfl fl80_0) rfl ?_; clear hE a; intro a hE
          refine WL.vS hS hE (runs_plain rfl) (Gives.fld hE rfl fl24_2) rfl ?_; clear hE a; intro a hE
          refine WL.vS hS hE (runs_plain rfl) (Gives.loadB hE 2 rfl rfl rfl ty22) rfl ?_; clear hE a; intro a hE
          refine WL.vS hS hE (runs_plain rfl) (Gives.p hE rfl) rfl ?_; clear hE a; intro a hE
          obtain ⟨x152, hx153, hr⟩ := bindS hr
          obtain ⟨hi154, hlt155, hy156⟩ := gx_some hx153
          obtain ⟨cs157, hl158, hR159, hat160⟩ := h_y0_2.at hy156
          subst hR159
          refine WL.vS hS hE (runs_plain rfl) (Gives.idx hE (q91).toNat rfl rfl sl22 hi154 hlt155 (h_y0_2.aok hlt155)) rfl ?_; clear hE a; intro a hE
          refine WL.vS hS hE (runs_plain rfl) (Gives.loadA hE rfl (fun w h => hat160 w _ h) ty37) rfl ?_; clear hE a; intro a hE
          refine WL.alloc hE hS (runs_plain rfl) zr37 rfl ?_; clear hE hS a w; intro b161 a w hE hS
          refine WL.storeI hE hS 0 rfl (PlanRule.cells x152) (runs_plain rfl) rfl rfl rfl ty37 rfl rfl rfl rfl ?_; clear hE hS a w; intro a w hE hS
          refine WL.nil ?_
          refine W.seq ?_
          refine W.region ?_
          refine WL.vS hS hE (runs_plain rfl) (Gives.p hE rfl) rfl ?_; clear hE a; intro a hE
          refine WL.vS hS hE (runs_plain rfl) (Gives.nilOk hE rfl) rfl ?_; clear hE a; intro a hE
          refine WL.vS hS hE (runs_plain rfl) (Gives.fld hE rfl fl80_4) rfl ?_; clear hE a; intro a hE
          refine WL.vS hS hE (runs_plain rfl) (Gives.loadB hE 3 rfl rfl rfl ty71) rfl ?_; clear hE a; intro a hE
          refine WL.vS hS hE (runs_plain rfl) (Gives.p hE rfl) rfl ?_; clear hE a; intro a hE
          obtain ⟨_, hx163, hr⟩ := bindS hr
          obtain ⟨h164, h165⟩ := ix_some hx163
          refine WL.vS hS hE (runs_plain rfl) (Gives.idx hE ((q91).toNat) rfl rfl sl71 h164 (by omega) (hS.vecAok 5 rfl (by omega : (q91).toNat < y0_6.length))) rfl ?_; clear hE a; intro a hE
          obtain ⟨x167, hx168, hr⟩ := bindS hr
          refine WL.setD hE hS 5 rfl (runs_plain rfl) rfl rfl (vs := [.bool false]) rfl ty4 rfl rfl rfl h_v1 (rfl) (sx_some hx168).1 hx168 rfl rfl ?_; clear hE hS a w; intro cs169 a w h170 hn171 hE hS
          refine WL.nil ?_
          refine W.seq ?_
          refine W.seq ?_
          refine W.region ?_
          refine WL.vS hS hE (runs_plain rfl) (Gives.p hE rfl) rfl ?_; clear hE a; intro a hE
          refine WL.vS hS hE (runs_plain rfl) (Gives.len hE rfl sl29) rfl ?_; clear hE a; intro a hE
          refine WL.vS hS hE (runs_plain rfl) (Gives.p hE rfl) rfl ?_; clear hE a; intro a hE
          refine WL.nil ?_
          obtain ⟨q173, hq172, hr⟩ := bindS hr
          refine W.cut (fun a w => ∃ (q183 : List Int), ∃ (q189 : List Bool), ∃ (q195 : Int), ∃ (cs187 : List Value), ∃ (cs193 : List Value), ∃ (s181 : Sg), s89.Le s181 ∧ (q183, q189, q195) = q173 ∧ Ev 1 (RI .i64) s181 cs187 q183 ∧ q183.length = y0_5.length ∧ Ev 1 RB s181 cs193 q189 ∧ q189.length = y0_6.length ∧ Rep a 142 [(0, .pointer (some ⟨pb0, 0, none⟩)), (4, .int .i64 q91)] ∧ St w s181 (pt b161 (.cells (PlanRule.cells x152).toArray 37 (0, 0)) :: pt pb1 (.cells #[.int .i64 y1] 3 (0, 0)) :: pt pb2 (.cells #[.int .i64 q195] 3 (0, 0)) :: pt pb0 (.cells #[.int .i64 y0_0, .int .i64 y0_1, .slice a_y0_2 y0_2.length c_y0_2, .func (.func 71) #[] #[.pointer (some ⟨pb1, 0, none⟩), .pointer (some ⟨pb2, 0, none⟩)], .func (.func 70) #[] #[.pointer (some ⟨pb1, 0, none⟩), .pointer (some ⟨pb2, 0, none⟩)], .slice a_v0 y0_5.length c_v0, .slice a_v1 y0_6.length c_v1] 80 (0, 0)) :: vecC 3 1 a_v0 c_v0 y0_5.length cs187 :: vecC 4 1 a_v1 c_v1 y0_6.length cs193 :: R)) ?_ ?_
          · refine W.block ?_
            refine W.loop (fun m a w => ∃ (rest176 : List Int) (k174 : Nat), ∃ (q183 : List Int), ∃ (q189 : List Bool), ∃ (q195 : Int), ∃ (cs187 : List Value), ∃ (cs193 : List Value), ∃ (s181 : Sg), rest176.length = m ∧ q92.drop k174 = rest176 ∧ s89.Le s181 ∧ PlanSearchrun_v2.loop2 x1 y0_0 y0_1 y0_2 y1 fu self_PlanSearchrun_v2 q91 x152 rest176 q183 q189 q195 = some q173 ∧ Ev 1 (RI .i64) s181 cs187 q183 ∧ q183.length = y0_5.length ∧ Ev 1 RB s181 cs193 q189 ∧ q189.length = y0_6.length ∧ Rep a 142 [(0, .pointer (some ⟨pb0, 0, none⟩)), (1, .pointer a1), (4, .int .i64 q91), (9, .pointer (some ⟨b161, 0, none⟩)), (84, .slice a93 q92.length c94), (85, .int .i64 ((q92).length : Int)), (86, .int .i64 ((k174 : Nat) : Int))] ∧ St w s181 (pt b161 (.cells (PlanRule.cells x152).toArray 37 (0, 0)) :: pt pb1 (.cells #[.int .i64 y1] 3 (0, 0)) :: pt pb2 (.cells #[.int .i64 q195] 3 (0, 0)) :: pt pb0 (.cells #[.int .i64 y0_0, .int .i64 y0_1, .slice a_y0_2 y0_2.length c_y0_2, .func (.func 71) #[] #[.pointer (some ⟨pb1, 0, none⟩), .pointer (some ⟨pb2, 0, none⟩)], .func (.func 70) #[] #[.pointer (some ⟨pb1, 0, none⟩), .pointer (some ⟨pb2, 0, none⟩)], .slice a_v0 y0_5.length c_v0, .slice a_v1 y0_6.length c_v1] 80 (0, 0)) :: vecC 3 1 a_v0 c_v0 y0_5.length cs187 :: vecC 4 1 a_v1 c_v1 y0_6.length cs193 :: R)) (m := q92.length) ⟨q92, 0, y0_5, x167, q96, cs_v0, cs169, s89, rfl, rfl, (Sg.Le.refl _), hq172, h_v0, (rfl), h170, hn171, hE.pick _ ⟨rfl, rfl, rfl, rfl, rfl, rfl, rfl, trivial⟩, hS⟩ ?_
            clear hE hS a w hq172; rintro m180 a w ⟨rest176, k174, q183, q189, q195, cs187, cs193, s181, rfl, hd177, hle182, hq172, h186, hn188, h192, hn194, hE, hS⟩
            refine W.gen fun K196 hK196 => ?_
            replace h1 := Pt.mono RA.mono hle182 h1
            replace h95 := Sl.mono RI.mono hle182 h95
            replace h_y0_2 := Sl.mono RPlanRule.mono hle182 h_y0_2
            replace h_v0 := Ev.mono RI.mono hle182 h_v0
            replace h170 := Ev.mono RB.mono hle182 h170
            rcases rest176 with _ | ⟨x175, rest176⟩
            · have hlt178 := drop_nil hd177
              refine W.seq ?_
              refine W.region ?_
              refine WL.vS hS hE (runs_plain rfl) (Gives.p hE rfl) rfl ?_; clear hE a; intro a hE
              refine WL.nil ?_
              refine W.seq ?_
              refine W.condF hE rfl (decide_eq_false (by omega)) ?_
              subst hK196
              refine W.exit rfl ?_
              exact ⟨q183, q189, q195, cs187, cs193, s181, hle182, Option.some.inj hq172, h186, hn188, h192, hn194, hE.pick _ ⟨rfl, rfl, trivial⟩, hS⟩
            · obtain ⟨hlt178, hx179, hd177⟩ := drop_cons hd177
              rw [PlanSearchrun_v2.loop2] at hq172
              refine W.seq ?_
              refine W.region ?_
              refine WL.vS hS hE (runs_plain rfl) (Gives.p hE rfl) rfl ?_; clear hE a; intro a hE
              refine WL.nil ?_
              refine W.seq ?_
              refine W.condT hE rfl (decide_eq_true (by omega)) ?_
              refine W.skip ?_
              refine W.seq ?_
              refine W.block ?_
              refine W.seq ?_
              refine W.region ?_
              obtain ⟨cs197, hl198, hR199, hat200⟩ := h95.at hx179
              subst hR199
              refine WL.vS hS hE (runs_plain rfl) (Gives.idx hE k174 rfl rfl sl29 rfl hlt178 (h95.aok hlt178)) rfl ?_; clear hE a; intro a hE
              refine WL.vS hS hE (runs_plain rfl) (Gives.load1 hE rfl (fun w h => hat200 w _ h) ty3) rfl ?_; clear hE a; intro a hE
              refine WL.vS hS hE (runs_plain rfl) (Gives.p hE rfl) rfl ?_; clear hE a; intro a hE
              refine WL.nil ?_
              refine W.seq ?_
              refine W.gen fun K201 hK201 => ?_
              refine W.regionE (sel (fun w => St w s181 (pt b161 (.cells (PlanRule.cells x152).toArray 37 (0, 0)) :: pt pb1 (.cells #[.int .i64 y1] 3 (0, 0)) :: pt pb2 (.cells #[.int .i64 q195] 3 (0, 0)) :: pt pb0 (.cells #[.int .i64 y0_0, .int .i64 y0_1, .slice a_y0_2 y0_2.length c_y0_2, .func (.func 71) #[] #[.pointer (some ⟨pb1, 0, none⟩), .pointer (some ⟨pb2, 0, none⟩)], .func (.func 70) #[] #[.pointer (some ⟨pb1, 0, none⟩), .pointer (some ⟨pb2, 0, none⟩)], .slice a_v0 y0_5.length c_v0, .slice a_v1 y0_6.length c_v1] 80 (0, 0)) :: vecC 3 1 a_v0 c_v0 y0_5.length cs187 :: vecC 4 1 a_v1 c_v1 y0_6.length cs193 :: R)) (fun w => St w s181 (pt b161 (.cells (PlanRule.cells x152).toArray 37 (0, 0)) :: pt pb1 (.cells #[.int .i64 y1] 3 (0, 0)) :: pt pb2 (.cells #[.int .i64 q195] 3 (0, 0)) :: pt pb0 (.cells #[.int .i64 y0_0, .int .i64 y0_1, .slice a_y0_2 y0_2.length c_y0_2, .func (.func 71) #[] #[.pointer (some ⟨pb1, 0, none⟩), .pointer (some ⟨pb2, 0, none⟩)], .func (.func 70) #[] #[.pointer (some ⟨pb1, 0, none⟩), .pointer (some ⟨pb2, 0, none⟩)], .slice a_v0 y0_5.length c_v0, .slice a_v1 y0_6.length c_v1] 80 (0, 0)) :: vecC 3 1 a_v0 c_v0 y0_5.length cs187 :: vecC 4 1 a_v1 c_v1 y0_6.length cs193 :: R))) (fun b i => cond b ([0, 1, 2, 3, 4, 5, 6, 7, 8, 9, 10, 11, 12, 13, 14, 15, 16, 17, 18, 19, 20, 21, 22, 23, 24, 25, 26, 27, 28, 29, 30, 31, 32, 33, 34, 35].contains i) ([0, 1, 2, 3, 4, 5, 6, 7, 8, 9, 10, 11, 12, 13, 14, 15, 16, 17, 18, 19, 20, 21, 22, 23, 24, 25, 26, 27, 28, 29, 30, 31, 32, 33, 34, 35].contains i)) mixed ?_
              replace hS := hS.drew
              refine Rg.takeP (i := 0) hE rfl (by kernel_rfl) (runs_plain rfl) (Gives.p hE rfl) rfl (tw_sel (fun _ => hS) (fun _ => hS)) ?_; clear hE a; intro a hE
              refine Rg.takeP (i := 1) hE rfl (by kernel_rfl) (runs_plain rfl) (Gives.p hE rfl) rfl (tw_sel (fun _ => hS) (fun _ => hS)) ?_; clear hE a; intro a hE
              have hT := tw_sel (A := fun w => St w s181 (pt b161 (.cells (PlanRule.cells x152).toArray 37 (0, 0)) :: pt pb1 (.cells #[.int .i64 y1] 3 (0, 0)) :: pt pb2 (.cells #[.int .i64 q195] 3 (0, 0)) :: pt pb0 (.cells #[.int .i64 y0_0, .int .i64 y0_1, .slice a_y0_2 y0_2.length c_y0_2, .func (.func 71) #[] #[.pointer (some ⟨pb1, 0, none⟩), .pointer (some ⟨pb2, 0, none⟩)], .func (.func 70) #[] #[.pointer (some ⟨pb1, 0, none⟩), .pointer (some ⟨pb2, 0, none⟩)], .slice a_v0 y0_5.length c_v0, .slice a_v1 y0_6.length c_v1] 80 (0, 0)) :: vecC 3 1 a_v0 c_v0 y0_5.length cs187 :: vecC 4 1 a_v1 c_v1 y0_6.length cs193 :: R)) (B := fun w => St w s181 (pt b161 (.cells (PlanRule.cells x152).toArray 37 (0, 0)) :: pt pb1 (.cells #[.int .i64 y1] 3 (0, 0)) :: pt pb2 (.cells #[.int .i64 q195] 3 (0, 0)) :: pt pb0 (.cells #[.int .i64 y0_0, .int .i64 y0_1, .slice a_y0_2 y0_2.length c_y0_2, .func (.func 71) #[] #[.pointer (some ⟨pb1, 0, none⟩), .pointer (some ⟨pb2, 0, none⟩)], .func (.func 70) #[] #[.pointer (some ⟨pb1, 0, none⟩), .pointer (some ⟨pb2, 0, none⟩)], .slice a_v0 y0_5.length c_v0, .slice a_v1 y0_6.length c_v1] 80 (0, 0)) :: vecC 3 1 a_v0 c_v0 y0_5.length cs187 :: vecC 4 1 a_v1 c_v1 y0_6.length cs193 :: R)) (w := _) (x := true) (y := true) (fun _ => hS) (fun _ => hS)
              have hF := hS; replace hS := hS
              refine Rg.take (i := 2) true rfl hE rfl (by kernel_rfl) (runs_plain rfl) (Gives.nilOk hE rfl) rfl hT ?_; clear hE a; intro a hE
              replace hS := hF; clear hF hT
              refine Rg.takeP (i := 3) hE rfl (by kernel_rfl) (runs_plain rfl) (Gives.fld hE rfl fl80_0) rfl (tw_sel (fun _ => hS) (fun _ => hS)) ?_; clear hE a; intro a hE
              refine Rg.takeP (i := 4) hE rfl (by kernel_rfl) (runs_plain rfl) (Gives.fld hE rfl fl24_1) rfl (tw_sel (fun _ => hS) (fun _ => hS)) ?_; clear hE a; intro a hE
              have hT := tw_sel (A := fun w => St w s181 (pt b161 (.cells (PlanRule.cells x152).toArray 37 (0, 0)) :: pt pb1 (.cells #[.int .i64 y1] 3 (0, 0)) :: pt pb2 (.cells #[.int .i64 q195] 3 (0, 0)) :: pt pb0 (.cells #[.int .i64 y0_0, .int .i64 y0_1, .slice a_y0_2 y0_2.length c_y0_2, .func (.func 71) #[] #[.pointer (some ⟨pb1, 0, none⟩), .pointer (some ⟨pb2, 0, none⟩)], .func (.func 70) #[] #[.pointer (some ⟨pb1, 0, none⟩), .pointer (some ⟨pb2, 0, none⟩)], .slice a_v0 y0_5.length c_v0, .slice a_v1 y0_6.length c_v1] 80 (0, 0)) :: vecC 3 1 a_v0 c_v0 y0_5.length cs187 :: vecC 4 1 a_v1 c_v1 y0_6.length cs193 :: R)) (B := fun w => St w s181 (pt b161 (.cells (PlanRule.cells x152).toArray 37 (0, 0)) :: pt pb1 (.cells #[.int .i64 y1] 3 (0, 0)) :: pt pb2 (.cells #[.int .i64 q195] 3 (0, 0)) :: pt pb0 (.cells #[.int .i64 y0_0, .int .i64 y0_1, .slice a_y0_2 y0_2.length c_y0_2, .func (.func 71) #[] #[.pointer (some ⟨pb1, 0, none⟩), .pointer (some ⟨pb2, 0, none⟩)], .func (.func 70) #[] #[.pointer (some ⟨pb1, 0, none⟩), .pointer (some ⟨pb2, 0, none⟩)], .slice a_v0 y0_5.length c_v0, .slice a_v1 y0_6.length c_v1] 80 (0, 0)) :: vecC 3 1 a_v0 c_v0 y0_5.length cs187 :: vecC 4 1 a_v1 c_v1 y0_6.length cs193 :: R)) (w := _) (x := true) (y := true) (fun _ => hS) (fun _ => hS)
              have hF := hS; replace hS := hS
              refine Rg.take (i := 5) true rfl hE rfl (by kernel_rfl) (runs_plain rfl) (Gives.loadB hE 3 rfl rfl rfl ty3) rfl hT ?_; clear hE a; intro a hE
              replace hS := hF; clear hF hT
              refine Rg.takeP (i := 6) hE rfl (by kernel_rfl) (runs_plain rfl) (Gives.fld hE rfl fl37_0) rfl (tw_sel (fun _ => hS) (fun _ => hS)) ?_; clear hE a; intro a hE
              have hT := tw_sel (A := fun w => St w s181 (pt b161 (.cells (PlanRule.cells x152).toArray 37 (0, 0)) :: pt pb1 (.cells #[.int .i64 y1] 3 (0, 0)) :: pt pb2 (.cells #[.int .i64 q195] 3 (0, 0)) :: pt pb0 (.cells #[.int .i64 y0_0, .int .i64 y0_1, .slice a_y0_2 y0_2.length c_y0_2, .func (.func 71) #[] #[.pointer (some ⟨pb1, 0, none⟩), .pointer (some ⟨pb2, 0, none⟩)], .func (.func 70) #[] #[.pointer (some ⟨pb1, 0, none⟩), .pointer (some ⟨pb2, 0, none⟩)], .slice a_v0 y0_5.length c_v0, .slice a_v1 y0_6.length c_v1] 80 (0, 0)) :: vecC 3 1 a_v0 c_v0 y0_5.length cs187 :: vecC 4 1 a_v1 c_v1 y0_6.length cs193 :: R)) (B := fun w => St w s181 (pt b161 (.cells (PlanRule.cells x152).toArray 37 (0, 0)) :: pt pb1 (.cells #[.int .i64 y1] 3 (0, 0)) :: pt pb2 (.cells #[.int .i64 q195] 3 (0, 0)) :: pt pb0 (.cells #[.int .i64 y0_0, .int .i64 y0_1, .slice a_y0_2 y0_2.length c_y0_2, .func (.func 71) #[] #[.pointer (some ⟨pb1, 0, none⟩), .pointer (some ⟨pb2, 0, none⟩)], .func (.func 70) #[] #[.pointer (some ⟨pb1, 0, none⟩), .pointer (some ⟨pb2, 0, none⟩)], .slice a_v0 y0_5.length c_v0, .slice a_v1 y0_6.length c_v1] 80 (0, 0)) :: vecC 3 1 a_v0 c_v0 y0_5.length cs187 :: vecC 4 1 a_v1 c_v1 y0_6.length cs193 :: R)) (w := _) (x := true) (y := true) (fun _ => hS) (fun _ => hS)
              have hF := hS; replace hS := hS
              refine Rg.take (i := 7) true rfl hE rfl (by kernel_rfl) (runs_plain rfl) (Gives.loadB hE 0 rfl rfl rfl ty3) rfl hT ?_; clear hE a; intro a hE
              replace hS := hF; clear hF hT
              refine Rg.takeP (i := 8) hE rfl (by kernel_rfl) (runs_plain rfl) (Gives.fld hE rfl fl37_1) rfl (tw_sel (fun _ => hS) (fun _ => hS)) ?_; clear hE a; intro a hE
              have hT := tw_sel (A := fun w => St w s181 (pt b161 (.cells (PlanRule.cells x152).toArray 37 (0, 0)) :: pt pb1 (.cells #[.int .i64 y1] 3 (0, 0)) :: pt pb2 (.cells #[.int .i64 q195] 3 (0, 0)) :: pt pb0 (.cells #[.int .i64 y0_0, .int .i64 y0_1, .slice a_y0_2 y0_2.length c_y0_2, .func (.func 71) #[] #[.pointer (some ⟨pb1, 0, none⟩), .pointer (some ⟨pb2, 0, none⟩)], .func (.func 70) #[] #[.pointer (some ⟨pb1, 0, none⟩), .pointer (some ⟨pb2, 0, none⟩)], .slice a_v0 y0_5.length c_v0, .slice a_v1 y0_6.length c_v1] 80 (0, 0)) :: vecC 3 1 a_v0 c_v0 y0_5.length cs187 :: vecC 4 1 a_v1 c_v1 y0_6.length cs193 :: R)) (B := fun w => St w s181 (pt b161 (.cells (PlanRule.cells x152).toArray 37 (0, 0)) :: pt pb1 (.cells #[.int .i64 y1] 3 (0, 0)) :: pt pb2 (.cells #[.int .i64 q195] 3 (0, 0)) :: pt pb0 (.cells #[.int .i64 y0_0, .int .i64 y0_1, .slice a_y0_2 y0_2.length c_y0_2, .func (.func 71) #[] #[.pointer (some ⟨pb1, 0, none⟩), .pointer (some ⟨pb2, 0, none⟩)], .func (.func 70) #[] #[.pointer (some ⟨pb1, 0, none⟩), .pointer (some ⟨pb2, 0, none⟩)], .slice a_v0 y0_5.length c_v0, .slice a_v1 y0_6.length c_v1] 80 (0, 0)) :: vecC 3 1 a_v0 c_v0 y0_5.length cs187 :: vecC 4 1 a_v1 c_v1 y0_6.length cs193 :: R)) (w := _) (x := true) (y := true) (fun _ => hS) (fun _ => hS)
              have hF := hS; replace hS := hS
              refine Rg.take (i := 9) true rfl hE rfl (by kernel_rfl) (runs_plain rfl) (Gives.loadB hE 0 rfl rfl rfl ty3) rfl hT ?_; clear hE a; intro a hE
              replace hS := hF; clear hF hT
              refine Rg.takeP (i := 10) hE rfl (by kernel_rfl) (runs_plain rfl) (Gives.fld hE rfl fl37_2) rfl (tw_sel (fun _ => hS) (fun _ => hS)) ?_; clear hE a; intro a hE
              have hT := tw_sel (A := fun w => St w s181 (pt b161 (.cells (PlanRule.cells x152).toArray 37 (0, 0)) :: pt pb1 (.cells #[.int .i64 y1] 3 (0, 0)) :: pt pb2 (.cells #[.int .i64 q195] 3 (0, 0)) :: pt pb0 (.cells #[.int .i64 y0_0, .int .i64 y0_1, .slice a_y0_2 y0_2.length c_y0_2, .func (.func 71) #[] #[.pointer (some ⟨pb1, 0, none⟩), .pointer (some ⟨pb2, 0, none⟩)], .func (.func 70) #[] #[.pointer (some ⟨pb1, 0, none⟩), .pointer (some ⟨pb2, 0, none⟩)], .slice a_v0 y0_5.length c_v0, .slice a_v1 y0_6.length c_v1] 80 (0, 0)) :: vecC 3 1 a_v0 c_v0 y0_5.length cs187 :: vecC 4 1 a_v1 c_v1 y0_6.length cs193 :: R)) (B := fun w => St w s181 (pt b161 (.cells (PlanRule.cells x152).toArray 37 (0, 0)) :: pt pb1 (.cells #[.int .i64 y1] 3 (0, 0)) :: pt pb2 (.cells #[.int .i64 q195] 3 (0, 0)) :: pt pb0 (.cells #[.int .i64 y0_0, .int .i64 y0_1, .slice a_y0_2 y0_2.length c_y0_2, .func (.func 71) #[] #[.pointer (some ⟨pb1, 0, none⟩), .pointer (some ⟨pb2, 0, none⟩)], .func (.func 70) #[] #[.pointer (some ⟨pb1, 0, none⟩), .pointer (some ⟨pb2, 0, none⟩)], .slice a_v0 y0_5.length c_v0, .slice a_v1 y0_6.length c_v1] 80 (0, 0)) :: vecC 3 1 a_v0 c_v0 y0_5.length cs187 :: vecC 4 1 a_v1 c_v1 y0_6.length cs193 :: R)) (w := _) (x := true) (y := true) (fun _ => hS) (fun _ => hS)
              have hF := hS; replace hS := hS
              refine Rg.take (i := 11) true rfl hE rfl (by kernel_rfl) (runs_plain rfl) (Gives.loadB hE 0 rfl rfl rfl ty3) rfl hT ?_; clear hE a; intro a hE
              replace hS := hF; clear hF hT
              refine Rg.takeP (i := 12) hE rfl (by kernel_rfl) (runs_plain rfl) (Gives.p hE rfl) rfl (tw_sel (fun _ => hS) (fun _ => hS)) ?_; clear hE a; intro a hE
              refine Rg.takeP (i := 13) hE rfl (by kernel_rfl) (runs_plain rfl) (Gives.p hE rfl) rfl (tw_sel (fun _ => hS) (fun _ => hS)) ?_; clear hE a; intro a hE
              have hT := tw_sel (A := fun w => St w s181 (pt b161 (.cells (PlanRule.cells x152).toArray 37 (0, 0)) :: pt pb1 (.cells #[.int .i64 y1] 3 (0, 0)) :: pt pb2 (.cells #[.int .i64 q195] 3 (0, 0)) :: pt pb0 (.cells #[.int .i64 y0_0, .int .i64 y0_1, .slice a_y0_2 y0_2.length c_y0_2, .func (.func 71) #[] #[.pointer (some ⟨pb1, 0, none⟩), .pointer (some ⟨pb2, 0, none⟩)], .func (.func 70) #[] #[.pointer (some ⟨pb1, 0, none⟩), .pointer (some ⟨pb2, 0, none⟩)], .slice a_v0 y0_5.length c_v0, .slice a_v1 y0_6.length c_v1] 80 (0, 0)) :: vecC 3 1 a_v0 c_v0 y0_5.length cs187 :: vecC 4 1 a_v1 c_v1 y0_6.length cs193 :: R)) (B := fun w => St w s181 (pt b161 (.cells (PlanRule.cells x152).toArray 37 (0, 0)) :: pt pb1 (.cells #[.int .i64 y1] 3 (0, 0)) :: pt pb2 (.cells #[.int .i64 q195] 3 (0, 0)) :: pt pb0 (.cells #[.int .i64 y0_0, .int .i64 y0_1, .slice a_y0_2 y0_2.length c_y0_2, .func (.func 71) #[] #[.pointer (some ⟨pb1, 0, none⟩), .pointer (some ⟨pb2, 0, none⟩)], .func (.func 70) #[] #[.pointer (some ⟨pb1, 0, none⟩), .pointer (some ⟨pb2, 0, none⟩)], .slice a_v0 y0_5.length c_v0, .slice a_v1 y0_6.length c_v1] 80 (0, 0)) :: vecC 3 1 a_v0 c_v0 y0_5.length cs187 :: vecC 4 1 a_v1 c_v1 y0_6.length cs193 :: R)) (w := _) (x := true) (y := true) (fun _ => hS) (fun _ => hS)
              have hF := hS; replace hS := hS
              refine Rg.take (i := 14) true rfl hE rfl (by kernel_rfl) (runs_plain rfl) (Gives.nilOk hE rfl) rfl hT ?_; clear hE a; intro a hE
              replace hS := hF; clear hF hT
              refine Rg.takeP (i := 15) hE rfl (by kernel_rfl) (runs_plain rfl) (Gives.fld hE rfl fl80_0) rfl (tw_sel (fun _ => hS) (fun _ => hS)) ?_; clear hE a; intro a hE
              refine Rg.takeP (i := 16) hE rfl (by kernel_rfl) (runs_plain rfl) (Gives.fld hE rfl fl24_0) rfl (tw_sel (fun _ => hS) (fun _ => hS)) ?_; clear hE a; intro a hE
              have hT := tw_sel (A := fun w => St w s181 (pt b161 (.cells (PlanRule.cells x152).toArray 37 (0, 0)) :: pt pb1 (.cells #[.int .i64 y1] 3 (0, 0)) :: pt pb2 (.cells #[.int .i64 q195] 3 (0, 0)) :: pt pb0 (.cells #[.int .i64 y0_0, .int .i64 y0_1, .slice a_y0_2 y0_2.length c_y0_2, .func (.func 71) #[] #[.pointer (some ⟨pb1, 0, none⟩), .pointer (some ⟨pb2, 0, none⟩)], .func (.func 70) #[] #[.pointer (some ⟨pb1, 0, none⟩), .pointer (some ⟨pb2, 0, none⟩)], .slice a_v0 y0_5.length c_v0, .slice a_v1 y0_6.length c_v1] 80 (0, 0)) :: vecC 3 1 a_v0 c_v0 y0_5.length cs187 :: vecC 4 1 a_v1 c_v1 y0_6.length cs193 :: R)) (B := fun w => St w s181 (pt b161 (.cells (PlanRule.cells x152).toArray 37 (0, 0)) :: pt pb1 (.cells #[.int .i64 y1] 3 (0, 0)) :: pt pb2 (.cells #[.int .i64 q195] 3 (0, 0)) :: pt pb0 (.cells #[.int .i64 y0_0, .int .i64 y0_1, .slice a_y0_2 y0_2.length c_y0_2, .func (.func 71) #[] #[.pointer (some ⟨pb1, 0, none⟩), .pointer (some ⟨pb2, 0, none⟩)], .func (.func 70) #[] #[.pointer (some ⟨pb1, 0, none⟩), .pointer (some ⟨pb2, 0, none⟩)], .slice a_v0 y0_5.length c_v0, .slice a_v1 y0_6.length c_v1] 80 (0, 0)) :: vecC 3 1 a_v0 c_v0 y0_5.length cs187 :: vecC 4 1 a_v1 c_v1 y0_6.length cs193 :: R)) (w := _) (x := true) (y := true) (fun _ => hS) (fun _ => hS)
              have hF := hS; replace hS := hS
              refine Rg.take (i := 17) true rfl hE rfl (by kernel_rfl) (runs_plain rfl) (Gives.loadB hE 3 rfl rfl rfl ty3) rfl hT ?_; clear hE a; intro a hE
              replace hS := hF; clear hF hT
              refine Rg.takeP (i := 18) hE rfl (by kernel_rfl) (runs_plain rfl) (Gives.p hE rfl) rfl (tw_sel (fun _ => hS) (fun _ => hS)) ?_; clear hE a; intro a hE
              refine Rg.takeP (i := 19) hE rfl (by kernel_rfl) (runs_plain rfl) (Gives.p hE rfl) rfl (tw_sel (fun _ => hS) (fun _ => hS)) ?_; clear hE a; intro a hE
              refine Rg.takeP (i := 20) hE rfl (by kernel_rfl) (runs_plain rfl) (Gives.fld hE rfl fl37_3) rfl (tw_sel (fun _ => hS) (fun _ => hS)) ?_; clear hE a; intro a hE
              have hT := tw_sel (A := fun w => St w s181 (pt b161 (.cells (PlanRule.cells x152).toArray 37 (0, 0)) :: pt pb1 (.cells #[.int .i64 y1] 3 (0, 0)) :: pt pb2 (.cells #[.int .i64 q195] 3 (0, 0)) :: pt pb0 (.cells #[.int .i64 y0_0, .int .i64 y0_1, .slice a_y0_2 y0_2.length c_y0_2, .func (.func 71) #[] #[.pointer (some ⟨pb1, 0, none⟩), .pointer (some ⟨pb2, 0, none⟩)], .func (.func 70) #[] #[.pointer (some ⟨pb1, 0, none⟩), .pointer (some ⟨pb2, 0, none⟩)], .slice a_v0 y0_5.length c_v0, .slice a_v1 y0_6.length c_v1] 80 (0, 0)) :: vecC 3 1 a_v0 c_v0 y0_5.length cs187 :: vecC 4 1 a_v1 c_v1 y0_6.length cs193 :: R)) (B := fun w => St w s181 (pt b161 (.cells (PlanRule.cells x152).toArray 37 (0, 0)) :: pt pb1 (.cells #[.int .i64 y1] 3 (0, 0)) :: pt pb2 (.cells #[.int .i64 q195] 3 (0, 0)) :: pt pb0 (.cells #[.int .i64 y0_0, .int .i64 y0_1, .slice a_y0_2 y0_2.length c_y0_2, .func (.func 71) #[] #[.pointer (some ⟨pb1, 0, none⟩), .pointer (some ⟨pb2, 0, none⟩)], .func (.func 70) #[] #[.pointer (some ⟨pb1, 0, none⟩), .pointer (some ⟨pb2, 0, none⟩)], .slice a_v0 y0_5.length c_v0, .slice a_v1 y0_6.length c_v1] 80 (0, 0)) :: vecC 3 1 a_v0 c_v0 y0_5.length cs187 :: vecC 4 1 a_v1 c_v1 y0_6.length cs193 :: R)) (w := _) (x := true) (y := true) (fun _ => hS) (fun _ => hS)
              have hF := hS; replace hS := hS
              refine Rg.take (i := 21) true rfl hE rfl (by kernel_rfl) (runs_plain rfl) (Gives.loadB hE 0 rfl rfl rfl ty3) rfl hT ?_; clear hE a; intro a hE
              replace hS := hF; clear hF hT
              refine Rg.takeP (i := 22) hE rfl (by kernel_rfl) (runs_plain rfl) (Gives.p hE rfl) rfl (tw_sel (fun _ => hS) (fun _ => hS)) ?_; clear hE a; intro a hE
              refine Rg.takeP (i := 23) hE rfl (by kernel_rfl) (runs_plain rfl) (Gives.p hE rfl) rfl (tw_sel (fun _ => hS) (fun _ => hS)) ?_; clear hE a; intro a hE
              have hT := tw_sel (A := fun w => St w s181 (pt b161 (.cells (PlanRule.cells x152).toArray 37 (0, 0)) :: pt pb1 (.cells #[.int .i64 y1] 3 (0, 0)) :: pt pb2 (.cells #[.int .i64 q195] 3 (0, 0)) :: pt pb0 (.cells #[.int .i64 y0_0, .int .i64 y0_1, .slice a_y0_2 y0_2.length c_y0_2, .func (.func 71) #[] #[.pointer (some ⟨pb1, 0, none⟩), .pointer (some ⟨pb2, 0, none⟩)], .func (.func 70) #[] #[.pointer (some ⟨pb1, 0, none⟩), .pointer (some ⟨pb2, 0, none⟩)], .slice a_v0 y0_5.length c_v0, .slice a_v1 y0_6.length c_v1] 80 (0, 0)) :: vecC 3 1 a_v0 c_v0 y0_5.length cs187 :: vecC 4 1 a_v1 c_v1 y0_6.length cs193 :: R)) (B := fun w => St w s181 (pt b161 (.cells (PlanRule.cells x152).toArray 37 (0, 0)) :: pt pb1 (.cells #[.int .i64 y1] 3 (0, 0)) :: pt pb2 (.cells #[.int .i64 q195] 3 (0, 0)) :: pt pb0 (.cells #[.int .i64 y0_0, .int .i64 y0_1, .slice a_y0_2 y0_2.length c_y0_2, .func (.func 71) #[] #[.pointer (some ⟨pb1, 0, none⟩), .pointer (some ⟨pb2, 0, none⟩)], .func (.func 70) #[] #[.pointer (some ⟨pb1, 0, none⟩), .pointer (some ⟨pb2, 0, none⟩)], .slice a_v0 y0_5.length c_v0, .slice a_v1 y0_6.length c_v1] 80 (0, 0)) :: vecC 3 1 a_v0 c_v0 y0_5.length cs187 :: vecC 4 1 a_v1 c_v1 y0_6.length cs193 :: R)) (w := _) (x := true) (y := true) (fun _ => hS) (fun _ => hS)
              have hF := hS; replace hS := hS
              refine Rg.take (i := 24) true rfl hE rfl (by kernel_rfl) (runs_plain rfl) (Gives.nilOk hE rfl) rfl hT ?_; clear hE a; intro a hE
              replace hS := hF; clear hF hT
              refine Rg.takeP (i := 25) hE rfl (by kernel_rfl) (runs_plain rfl) (Gives.fld hE rfl fl80_0) rfl (tw_sel (fun _ => hS) (fun _ => hS)) ?_; clear hE a; intro a hE
              refine Rg.takeP (i := 26) hE rfl (by kernel_rfl) (runs_plain rfl) (Gives.fld hE rfl fl24_0) rfl (tw_sel (fun _ => hS) (fun _ => hS)) ?_; clear hE a; intro a hE
              have hT := tw_sel (A := fun w => St w s181 (pt b161 (.cells (PlanRule.cells x152).toArray 37 (0, 0)) :: pt pb1 (.cells #[.int .i64 y1] 3 (0, 0)) :: pt pb2 (.cells #[.int .i64 q195] 3 (0, 0)) :: pt pb0 (.cells #[.int .i64 y0_0, .int .i64 y0_1, .slice a_y0_2 y0_2.length c_y0_2, .func (.func 71) #[] #[.pointer (some ⟨pb1, 0, none⟩), .pointer (some ⟨pb2, 0, none⟩)], .func (.func 70) #[] #[.pointer (some ⟨pb1, 0, none⟩), .pointer (some ⟨pb2, 0, none⟩)], .slice a_v0 y0_5.length c_v0, .slice a_v1 y0_6.length c_v1] 80 (0, 0)) :: vecC 3 1 a_v0 c_v0 y0_5.length cs187 :: vecC 4 1 a_v1 c_v1 y0_6.length cs193 :: R)) (B := fun w => St w s181 (pt b161 (.cells (PlanRule.cells x152).toArray 37 (0, 0)) :: pt pb1 (.cells #[.int .i64 y1] 3 (0, 0)) :: pt pb2 (.cells #[.int .i64 q195] 3 (0, 0)) :: pt pb0 (.cells #[.int .i64 y0_0, .int .i64 y0_1, .slice a_y0_2 y0_2.length c_y0_2, .func (.func 71) #[] #[.pointer (some ⟨pb1, 0, none⟩), .pointer (some ⟨pb2, 0, none⟩)], .func (.func 70) #[] #[.pointer (some ⟨pb1, 0, none⟩), .pointer (some ⟨pb2, 0, none⟩)], .slice a_v0 y0_5.length c_v0, .slice a_v1 y0_6.length c_v1] 80 (0, 0)) :: vecC 3 1 a_v0 c_v0 y0_5.length cs187 :: vecC 4 1 a_v1 c_v1 y0_6.length cs193 :: R)) (w := _) (x := true) (y := true) (fun _ => hS) (fun _ => hS)
              have hF := hS; replace hS := hS
              refine Rg.take (i := 27) true rfl hE rfl (by kernel_rfl) (runs_plain rfl) (Gives.loadB hE 3 rfl rfl rfl ty3) rfl hT ?_; clear hE a; intro a hE
              replace hS := hF; clear hF hT
              refine Rg.takeP (i := 28) hE rfl (by kernel_rfl) (runs_plain rfl) (Gives.p hE rfl) rfl (tw_sel (fun _ => hS) (fun _ => hS)) ?_; clear hE a; intro a hE
              refine Rg.takeP (i := 29) hE rfl (by kernel_rfl) (runs_plain rfl) (Gives.p hE rfl) rfl (tw_sel (fun _ => hS) (fun _ => hS)) ?_; clear hE a; intro a hE
              refine Rg.one (i := 30) true true rfl (by kernel_rfl) (by kernel_rfl) (by kernel_rfl) ?_
              obtain ⟨q202, hq203, hq172⟩ := bindS hq172
              have hc_ := PlanBoundsbetween_ok hS h1 hq203
              refine WL.fnq hE (hc_) (runs_plain rfl) bd72 rfl rfl rfl ?_
              clear hE hS hc_; rintro e w ⟨a204, s206, rfl, hle207, h205, hS⟩; refine ⟨_, rfl, ?_⟩; clear a; intro a hE
              replace h1 := Pt.mono RA.mono hle207 h1
              replace h95 := Sl.mono RI.mono hle207 h95
              replace h_y0_2 := Sl.mono RPlanRule.mono hle207 h_y0_2
              replace h186 := Ev.mono RI.mono hle207 h186
              replace h192 := Ev.mono RB.mono hle207 h192
              refine WL.nil ?_
              refine ⟨⟨fun _ => (St.down hle207 hS), fun _ => (St.down hle207 hS)⟩, ?_⟩
              refine Rg.takeP (i := 31) hE rfl (by kernel_rfl) (runs_plain rfl) (Gives.p hE rfl) rfl (tw_sel (fun _ => (St.down hle207 hS)) (fun _ => (St.down hle207 hS))) ?_; clear hE a; intro a hE
              refine Rg.takeP (i := 32) hE rfl (by kernel_rfl) (runs_plain rfl) (Gives.p hE rfl) rfl (tw_sel (fun _ => (St.down hle207 hS)) (fun _ => (St.down hle207 hS))) ?_; clear hE a; intro a hE
              refine Rg.takeP (i := 33) hE rfl (by kernel_rfl) (runs_plain rfl) (Gives.p hE rfl) rfl (tw_sel (fun _ => (St.down hle207 hS)) (fun _ => (St.down hle207 hS))) ?_; clear hE a; intro a hE
              refine Rg.takeP (i := 34) hE rfl (by kernel_rfl) (runs_plain rfl) (Gives.p hE rfl) rfl (tw_sel (fun _ => (St.down hle207 hS)) (fun _ => (St.down hle207 hS))) ?_; clear hE a; intro a hE
              refine Rg.takeP (i := 35) hE rfl (by kernel_rfl) (runs_plain rfl) (Gives.p hE rfl) rfl (tw_sel (fun _ => (St.down hle207 hS)) (fun _ => (St.down hle207 hS))) ?_; clear hE a; intro a hE
              refine Rg.done (by kernel_rfl) ?_
              subst hK201
              refine W.seq ?_
              refine W.region ?_
              refine WL.vS hS hE (runs_plain rfl) (Gives.p hE rfl) rfl ?_; clear hE a; intro a hE
              refine WL.nil ?_
              obtain ⟨q209, hq208, hq172⟩ := bindS hq172
              refine W.cut (fun a w => ∃ (q212 : List Int), ∃ (q218 : List Bool), ∃ (q224 : Int), ∃ (cs216 : List Value), ∃ (cs222 : List Value), ∃ (s210 : Sg), s206.Le s210 ∧ (q212, q218, q224) = q209 ∧ Ev 1 (RI .i64) s210 cs216 q212 ∧ q212.length = y0_5.length ∧ Ev 1 RB s210 cs222 q218 ∧ q218.length = y0_6.length ∧ Rep a 142 [(0, .pointer (some ⟨pb0, 0, none⟩)), (1, .pointer a1), (4, .int .i64 q91), (9, .pointer (some ⟨b161, 0, none⟩)), (84, .slice a93 q92.length c94), (85, .int .i64 ((q92).length : Int)), (86, .int .i64 ((k174 : Nat) : Int))] ∧ St w s210 (pt b161 (.cells (PlanRule.cells x152).toArray 37 (0, 0)) :: pt pb1 (.cells #[.int .i64 y1] 3 (0, 0)) :: pt pb2 (.cells #[.int .i64 q224] 3 (0, 0)) :: pt pb0 (.cells #[.int .i64 y0_0, .int .i64 y0_1, .slice a_y0_2 y0_2.length c_y0_2, .func (.func 71) #[] #[.pointer (some ⟨pb1, 0, none⟩), .pointer (some ⟨pb2, 0, none⟩)], .func (.func 70) #[] #[.pointer (some ⟨pb1, 0, none⟩), .pointer (some ⟨pb2, 0, none⟩)], .slice a_v0 y0_5.length c_v0, .slice a_v1 y0_6.length c_v1] 80 (0, 0)) :: vecC 3 1 a_v0 c_v0 y0_5.length cs216 :: vecC 4 1 a_v1 c_v1 y0_6.length cs222 :: R)) ?_ ?_
              · refine W.gen fun K225 hK225 => ?_
                refine W.cond hE rfl (fun hc226 => ?_) (fun hc226 => ?_)
                · replace hq208 := iteT hc226 hq208
                  refine W.seq ?_
                  refine W.region ?_
                  refine WL.vS hS hE (runs_plain rfl) (Gives.p hE rfl) rfl ?_; clear hE a; intro a hE
                  refine WL.vS hS hE (runs_plain rfl) (Gives.nilOk hE rfl) rfl ?_; clear hE a; intro a hE
                  refine WL.vS hS hE (runs_plain rfl) (Gives.fld hE rfl fl80_3) rfl ?_; clear hE a; intro a hE
                  refine WL.vS hS hE (runs_plain rfl) (Gives.loadB hE 3 rfl rfl rfl ty29) rfl ?_; clear hE a; intro a hE
                  refine WL.vS hS hE (runs_plain rfl) (Gives.p hE rfl) rfl ?_; clear hE a; intro a hE
                  refine WL.vS hS hE (runs_plain rfl) (Gives.p hE rfl) rfl ?_; clear hE a; intro a hE
                  obtain ⟨_, hx228, hq208⟩ := bindS hq208
                  obtain ⟨h229, h230⟩ := ix_some hx228
                  refine WL.vS hS hE (runs_plain rfl) (Gives.idx hE ((q91).toNat) rfl rfl sl29 h229 (by have := hn188; omega) (hS.vecAok 4 rfl (by have := hn188; omega : (q91).toNat < y0_5.length))) rfl ?_; clear hE a; intro a hE
                  obtain ⟨x232, hx233, hq208⟩ := bindS hq208
                  refine WL.setD hE hS 4 rfl (runs_plain rfl) rfl rfl (vs := [.int .i64 x175]) rfl ty3 rfl rfl rfl h186 hn188 (sx_some hx233).1 hx233 rfl rfl ?_; clear hE hS a w; intro cs234 a w h235 hn236 hE hS
                  refine WL.nil ?_
                  refine W.region ?_
                  refine WL.vS hS hE (runs_plain rfl) (Gives.p hE rfl) rfl ?_; clear hE a; intro a hE
                  refine WL.vS hS hE (runs_plain rfl) (Gives.p hE rfl) rfl ?_; clear hE a; intro a hE
                  obtain ⟨q237, hq238, hq208⟩ := bindS hq208
                  replace hS := hS.front 5 rfl
                  replace hS := hS.front 5 rfl
                  replace hS := hS.front 4 rfl
                  replace hS := hS.front 4 rfl
                  replace hS := hS.front 5 rfl
                  have hc_ := ih_PlanSearchrun_v2 hS h205 h_y0_2 h235 hn236 h192 hn194 hq238
                  refine WL.fnq hE (hc_) (runs_plain rfl) bd54 rfl rfl rfl ?_
                  clear hE hS hc_; rintro e w ⟨cs239, cs242, s245, rfl, hle246, h240, hn241, h243, hn244, hS⟩; refine ⟨_, rfl, ?_⟩; clear a; intro a hE
                  replace h1 := Pt.mono RA.mono hle246 h1
                  replace h95 := Sl.mono RI.mono hle246 h95
                  replace h205 := Pt.mono RA.mono hle246 h205
                  replace h_y0_2 := Sl.mono RPlanRule.mono hle246 h_y0_2
                  replace h235 := Ev.mono RI.mono hle246 h235
                  replace h192 := Ev.mono RB.mono hle246 h192
                  refine WL.nil ?_
                  replace hS := hS.front 4 rfl
                  replace hS := hS.front 4 rfl
                  replace hS := hS.front 2 rfl
                  replace hS := hS.front 4 rfl
                  replace hS := hS.front 4 rfl
                  replace hS := hS.front 5 rfl
                  subst hK225
                  exact ⟨q237.1, q237.2.1, q237.2.2, cs239, cs242, s245, hle246, Option.some.inj hq208, h240, hn241, h243, hn244, hE.pick _ ⟨rfl, rfl, rfl, rfl, rfl, rfl, rfl, trivial⟩, hS⟩
                · replace hq208 := iteF hc226 hq208
                  refine W.skip ?_
                  subst hK225
                  exact ⟨q183, q189, q195, cs187, cs193, s206, (Sg.Le.refl _), Option.some.inj hq208, h186, hn188, h192, hn194, hE.pick _ ⟨rfl, rfl, rfl, rfl, rfl, rfl, rfl, trivial⟩, hS⟩
              · clear hE hS a w; rintro a w ⟨q212, q218, q224, cs216, cs222, s210, hle211, rfl, h215, hn217, h221, hn223, hE, hS⟩
                dsimp only at hq172
                replace h1 := Pt.mono RA.mono hle211 h1
                replace h95 := Sl.mono RI.mono hle211 h95
                replace h_y0_2 := Sl.mono RPlanRule.mono hle211 h_y0_2
                replace h186 := Ev.mono RI.mono hle211 h186
                replace h192 := Ev.mono RB.mono hle211 h192
                refine W.region ?_
                refine WL.vS hS hE (runs_plain rfl) (Gives.inc hE rfl (by have := h95.small; omega)) rfl ?_; clear hE a; intro a hE
                refine WL.vS hS hE (runs_plain rfl) (Gives.p hE rfl) rfl ?_; clear hE a; intro a hE
                refine WL.nil ?_
                subst hK196
                exact ⟨rest176.length, Nat.lt_succ_self _, rest176, k174 + 1, q212, q218, q224, cs216, cs222, s210, rfl, hd177, (Sg.Le.trans (Sg.Le.trans hle182 hle207) hle211), hq172, h215, hn217, h221, hn223, hE.pick _ ⟨rfl, rfl, rfl, rfl, rfl, rfl, rfl, trivial⟩, hS⟩
          · clear hE hS a w; rintro a w ⟨q183, q189, q195, cs187, cs193, s181, hle182, rfl, h186, hn188, h192, hn194, hE, hS⟩
            dsimp only at hr
            replace h1 := Pt.mono RA.mono hle182 h1
            replace h95 := Sl.mono RI.mono hle182 h95
            replace h_y0_2 := Sl.mono RPlanRule.mono hle182 h_y0_2
            replace h_v0 := Ev.mono RI.mono hle182 h_v0
            replace h170 := Ev.mono RB.mono hle182 h170
            refine W.region ?_
            refine WL.vS hS hE (runs_plain rfl) (Gives.p hE rfl) rfl ?_; clear hE a; intro a hE
            refine WL.vS hS hE (runs_plain rfl) (Gives.nilOk hE rfl) rfl ?_; clear hE a; intro a hE
            refine WL.vS hS hE (runs_plain rfl) (Gives.fld hE rfl fl80_4) rfl ?_; clear hE a; intro a hE
            refine WL.vS hS hE (runs_plain rfl) (Gives.loadB hE 3 rfl rfl rfl ty71) rfl ?_; clear hE a; intro a hE
            refine WL.vS hS hE (runs_plain rfl) (Gives.p hE rfl) rfl ?_; clear hE a; intro a hE
            obtain ⟨_, hx248, hr⟩ := bindS hr
            obtain ⟨h249, h250⟩ := ix_some hx248
            refine WL.vS hS hE (runs_plain rfl) (Gives.idx hE ((q91).toNat) rfl rfl sl71 h249 (by have := hn194; omega) (hS.vecAok 5 rfl (by have := hn194; omega : (q91).toNat < y0_6.length))) rfl ?_; clear hE a; intro a hE
            obtain ⟨x252, hx253, hr⟩ := bindS hr
            refine WL.setD hE hS 5 rfl (runs_plain rfl) rfl rfl (vs := [.bool true]) rfl ty4 rfl rfl rfl h192 hn194 (sx_some hx253).1 hx253 rfl rfl ?_; clear hE hS a w; intro cs254 a w h255 hn256 hE hS
            refine WL.nil ?_
            refine finG (fn := Try.f54) (rs := []) (vs := []) hE rfl trivial ?_
            obtain rfl := Option.some.inj hr
            replace hS := hS.front 5 rfl
            replace hS := hS.front 5 rfl
            replace hS := hS.front 4 rfl
            replace hS := hS.front 4 rfl
            replace hS := hS.front 5 rfl
            replace hS := hS.dropAt 5
            exact ⟨cs187, cs254, s181, rfl, (Sg.Le.trans hle90 hle182), h186, hn188, h255, hn256, hS⟩
set_option maxHeartbeats 8000000 in
theorem Plansolve_ok {fu : Nat}  {w : World} {s : Sg} {R : List HP} {x0 : PlanPeriodic} {a0_0 : Option Addr} {c0_0 : Nat} (hS : St w s (R)) (h0_0 : Sl 5 RPlanRule s a0_0 c0_0 x0.Rules) {r : (List Int)} (hr : Plansolve fu x0 = some r) :
    Calls Try.prog 43 [.agg [.int .i64 x0.Period, .int .i64 x0.Events, .slice a0_0 x0.Rules.length c0_0].toArray].toArray w (fun e w => ∃ (a0 : Option Addr) (c0 : Nat) (t : Sg), e = .returned (.slice a0 r.length c0) ∧ s.Le t ∧ Sl 1 (RI .i64) t a0 c0 r ∧ (r = [] → a0 = none) ∧ St w t (R)) := by
  refine enter Try.func43 rfl rfl rfl fun a hE => ?_
  rw [Plansolve] at hr
  refine W.seq ?_
  refine W.region ?_
  refine WL.box hE hS (runs_plain rfl) rfl rfl rfl ?_; clear hE hS a w; intro b51 a w hE hS
  refine WL.vS hS hE (runs_plain rfl) (Gives.p hE rfl) rfl ?_; clear hE a; intro a hE
  refine WL.nil ?_
  refine W.seq ?_
  refine W.region ?_
  refine WL.vS hS hE (runs_plain rfl) (Gives.loadBA hE 0 rfl rfl ty24) rfl ?_; clear hE a; intro a hE
  obtain ⟨q52, hq53, hr⟩ := bindS hr
  have hc_ := PlannewSearch_ok hS h0_0 hq53
  refine WL.fnq hE (hc_) (runs_plain rfl) bd48 rfl rfl rfl ?_
  clear hE hS hc_; rintro e w ⟨b54, a55, c56, a58, c59, n60, cs61, a64, c65, n66, cs67, s70, rfl, hle71, h57, h62, rfl, h68, rfl, hS⟩; refine ⟨_, rfl, ?_⟩; clear a; intro a hE
  replace h0_0 := Sl.mono RPlanRule.mono hle71 h0_0
  refine WL.vS hS hE (runs_plain rfl) (Gives.p hE rfl) rfl ?_; clear hE a; intro a hE
  refine WL.nil ?_
  refine W.seq ?_
  refine W.region ?_
  refine WL.vS hS hE (runs_plain rfl) (Gives.p hE rfl) rfl ?_; clear hE a; intro a hE
  obtain ⟨q72, hq73, hr⟩ := bindS hr
  have hc_ := PlanSearchstart_v2_ok hS h57 h62 rfl h68 rfl hq73
  refine WL.fnq hE (hc_) (runs_plain rfl) bd53 rfl rfl rfl ?_
  clear hE hS hc_; rintro e w ⟨a74, s76, rfl, hle77, h75, hS⟩; refine ⟨_, rfl, ?_⟩; clear a; intro a hE
  replace h0_0 := Sl.mono RPlanRule.mono hle77 h0_0
  replace h57 := Sl.mono RPlanRule.mono hle77 h57
  replace h62 := Ev.mono RI.mono hle77 h62
  replace h68 := Ev.mono RB.mono hle77 h68
  refine WL.vS hS hE (runs_plain rfl) (Gives.p hE rfl) rfl ?_; clear hE a; intro a hE
  refine WL.nil ?_
  refine W.seq ?_
  refine W.region ?_
  refine WL.lit hE hS (e := 3) (es := 1) (vs := [(0, .int .i64 0)]) (cs := [.int .i64 0]) (runs_plain rfl) rfl (by kernel_rfl) rfl ?_; clear hE hS a w; intro b78 a w hE hS
  replace hS := hS.ptVec (es := 1) (m := 1) rfl (by decide)
  have h80 : Ev 1 (RI .i64) s76 [.int .i64 0] [0] := (Ev.cons (c1 := [.int .i64 0]) rfl rfl (Ev.nil))
  refine WL.vS hS hE (runs_plain rfl) (Gives.p hE rfl) rfl ?_; clear hE a; intro a hE
  refine WL.nil ?_
  refine W.seq ?_
  refine W.seq ?_
  refine W.region ?_
  refine WL.alloc hE hS (runs_plain rfl) zr3 rfl ?_; clear hE hS a w; intro b81 a w hE hS
  refine WL.storeI hE hS 0 rfl [.int .i64 1] (runs_plain rfl) rfl rfl rfl ty3 rfl rfl rfl rfl ?_; clear hE hS a w; intro a w hE hS
  refine WL.nil ?_
  obtain ⟨q83, hq82, hr⟩ := bindS hr
  refine W.cut (fun a w => ∃ (q88 : Option (List Int)), ∃ (q91 : List Int), ∃ (q99 : Int), ∃ (q100 : List Int), ∃ (q106 : List Bool), ∃ (q112 : Unit), ∃ (q114 : Unit), ∃ (a89 : Option Addr), ∃ (a92 : Option Addr), ∃ (c93 : Nat), ∃ (n95 : Nat), ∃ (cs96 : List Value), ∃ (b98 : Nat), ∃ (cs104 : List Value), ∃ (cs110 : List Value), ∃ (f113 : Value), ∃ (f115 : Value), ∃ (s86 : Sg), s76.Le s86 ∧ (.next (q88, q91, q99, q100, q106, q112, q114)) = q83 ∧ Pt 64 (RA .i64 64) s86 a89 q88 ∧ Ev 1 (RI .i64) s86 cs96 q91 ∧ q91.length = n95 ∧ Ev 1 (RI .i64) s86 cs104 q100 ∧ q100.length = q52.2.2.2.1.length ∧ Ev 1 RB s86 cs110 q106 ∧ q106.length = q52.2.2.2.2.length ∧ Rep a 52 [(5, .slice a92 n95 c93)] ∧ St w s86 (pt b98 (.cells #[.int .i64 q99] 3 (0, 0)) :: vecC 3 1 a92 c93 n95 cs96 :: pt b54 (.cells #[.int .i64 q52.1, .int .i64 q52.2.1, .slice a55 q52.2.2.1.length c56, f113, f115, .slice a58 q52.2.2.2.1.length c59, .slice a64 q52.2.2.2.2.length c65] 80 (0, 0)) :: vecC 3 1 a58 c59 q52.2.2.2.1.length cs104 :: vecC 4 1 a64 c65 q52.2.2.2.2.length cs110 :: pt b51 (.cells #[.int .i64 x0.Period, .int .i64 x0.Events, .slice a0_0 x0.Rules.length c0_0] 24 (0, 0)) :: R)) ?_ ?_
  · refine W.block ?_
    refine W.loop (fun m a w => ∃ (n84 : Nat), ∃ (q88 : Option (List Int)), ∃ (q91 : List Int), ∃ (q99 : Int), ∃ (q100 : List Int), ∃ (q106 : List Bool), ∃ (q112 : Unit), ∃ (q114 : Unit), ∃ (a89 : Option Addr), ∃ (a92 : Option Addr), ∃ (c93 : Nat), ∃ (n95 : Nat), ∃ (cs96 : List Value), ∃ (b98 : Nat), ∃ (cs104 : List Value), ∃ (cs110 : List Value), ∃ (f113 : Value), ∃ (f115 : Value), ∃ (s86 : Sg), n84 = m ∧ s76.Le s86 ∧ Plansolve.loop1 x0 fu q52 n84 q88 q91 q99 q100 q106 q112 q114 = some q83 ∧ Pt 64 (RA .i64 64) s86 a89 q88 ∧ Ev 1 (RI .i64) s86 cs96 q91 ∧ q91.length = n95 ∧ Ev 1 (RI .i64) s86 cs104 q100 ∧ q100.length = q52.2.2.2.1.length ∧ Ev 1 RB s86 cs110 q106 ∧ q106.length = q52.2.2.2.2.length ∧ Rep a 52 [(1, .pointer (some ⟨b51, 0, none⟩)), (3, .pointer (some ⟨b54, 0, none⟩)), (4, .pointer a89), (5, .slice a92 n95 c93), (6, .pointer (some ⟨b98, 0, none⟩))] ∧ St w s86 (pt b98 (.cells #[.int .i64 q99] 3 (0, 0)) :: vecC 3 1 a92 c93 n95 cs96 :: pt b54 (.cells #[.int .i64 q52.1, .int .i64 q52.2.1, .slice a55 q52.2.2.1.length c56, f113, f115, .slice a58 q52.2.2.2.1.length c59, .slice a64 q52.2.2.2.2.length c65] 80 (0, 0)) :: vecC 3 1 a58 c59 q52.2.2.2.1.length cs104 :: vecC 4 1 a64 c65 q52.2.2.2.2.length cs110 :: pt b51 (.cells #[.int .i64 x0.Period, .int .i64 x0.Events, .slice a0_0 x0.Rules.length c0_0] 24 (0, 0)) :: R)) (m := fu) ⟨fu, q72, [0], 1, q52.2.2.2.1, q52.2.2.2.2, (), (), a74, (some ⟨b78, 0, none⟩), 1, 1, [.int .i64 0], b81, cs61, cs67, .nilFunc, (.func (.func 78) #[] #[]), s76, rfl, (Sg.Le.refl _), hq82, h75, h80, (rfl), h62, rfl, h68, rfl, hE.pick _ ⟨rfl, rfl, rfl, rfl, rfl, trivial⟩, hS⟩ ?_
    clear hE hS a w hq82; rintro m85 a w ⟨n84, q88, q91, q99, q100, q106, q112, q114, a89, a92, c93, n95, cs96, b98, cs104, cs110, f113, f115, s86, rfl, hle87, hq82, h90, h94, rfl, h103, hn105, h109, hn111, hE, hS⟩
    refine W.gen fun K116 hK116 => ?_
    replace h0_0 := Sl.mono RPlanRule.mono hle87 h0_0
    replace h75 := Pt.mono RA.mono hle87 h75
    replace h80 := Ev.mono RI.mono hle87 h80
    replace h57 := Sl.mono RPlanRule.mono hle87 h57
    replace h62 := Ev.mono RI.mono hle87 h62
    replace h68 := Ev.mono RB.mono hle87 h68
    rcases n84 with _ | n84
    · rw [Plansolve.loop1] at hq82; exact absurd hq82 (by simp)
    rw [Plansolve.loop1] at hq82
    refine W.seq ?_
    refine W.seq ?_
    refine W.region ?_
    refine WL.vS hS hE (runs_plain rfl) (Gives.loadB hE 0 rfl rfl rfl ty3) rfl ?_; clear hE a; intro a hE
    refine WL.vS hS hE (runs_plain rfl) (Gives.fld hE rfl fl24_1) rfl ?_; clear hE a; intro a hE
    refine WL.vS hS hE (runs_plain rfl) (Gives.loadB hE 5 rfl rfl rfl ty3) rfl ?_; clear hE a; intro a hE
    refine WL.vS hS hE (runs_plain rfl) (Gives.p hE rfl) rfl ?_; clear hE a; intro a hE
    refine WL.nil ?_
    refine W.cond hE rfl (fun hc117 => ?_) (fun hc117 => ?_)
    · replace hq82 := iteT hc117 hq82
      refine W.skip ?_
      refine W.seq ?_
      refine W.block ?_
      refine W.seq ?_
      refine W.region ?_
      refine WL.vS hS hE (runs_plain rfl) (Gives.fld hE rfl fl24_0) rfl ?_; clear hE a; intro a hE
      refine WL.vS hS hE (runs_plain rfl) (Gives.loadB hE 5 rfl rfl rfl ty3) rfl ?_; clear hE a; intro a hE
      refine WL.alloc hE hS (runs_plain rfl) zr3 rfl ?_; clear hE hS a w; intro b118 a w hE hS
      refine WL.storeI hE hS 0 rfl [.int .i64 x0.Period] (runs_plain rfl) rfl rfl rfl ty3 rfl rfl rfl rfl ?_; clear hE hS a w; intro a w hE hS
      refine WL.nil ?_
      refine W.seq ?_
      refine W.region ?_
      refine WL.vS hS hE (runs_plain rfl) (Gives.p hE rfl) rfl ?_; clear hE a; intro a hE
      refine WL.vS hS hE (runs_plain rfl) (Gives.mkfn hE (vs := [.pointer (some ⟨b98, 0, none⟩), .pointer (some ⟨b118, 0, none⟩)]) rfl) rfl ?_; clear hE a; intro a hE
      refine WL.vS hS hE (runs_plain rfl) (Gives.nilOk hE rfl) rfl ?_; clear hE a; intro a hE
      refine WL.vS hS hE (runs_plain rfl) (Gives.fld hE rfl fl80_2) rfl ?_; clear hE a; intro a hE
      refine WL.storeI hE hS 3 rfl [.int .i64 q52.1, .int .i64 q52.2.1, .slice a55 q52.2.2.1.length c56, f113, .func (.func 70) #[] #[.pointer (some ⟨b98, 0, none⟩), .pointer (some ⟨b118, 0, none⟩)], .slice a58 q52.2.2.2.1.length c59, .slice a64 q52.2.2.2.2.length c65] (runs_plain rfl) rfl rfl rfl ty78 rfl rfl rfl rfl ?_; clear hE hS a w; intro a w hE hS
      refine WL.nil ?_
      refine W.seq ?_
      refine W.region ?_
      refine WL.vS hS hE (runs_plain rfl) (Gives.p hE rfl) rfl ?_; clear hE a; intro a hE
      refine WL.vS hS hE (runs_plain rfl) (Gives.mkfn hE (vs := [.pointer (some ⟨b98, 0, none⟩), .pointer (some ⟨b118, 0, none⟩)]) rfl) rfl ?_; clear hE a; intro a hE
      refine WL.vS hS hE (runs_plain rfl) (Gives.nilOk hE rfl) rfl ?_; clear hE a; intro a hE
      refine WL.vS hS hE (runs_plain rfl) (Gives.fld hE rfl fl80_1) rfl ?_; clear hE a; intro a hE
      refine WL.storeI hE hS 3 rfl [.int .i64 q52.1, .int .i64 q52.2.1, .slice a55 q52.2.2.1.length c56, .func (.func 71) #[] #[.pointer (some ⟨b98, 0, none⟩), .pointer (some ⟨b118, 0, none⟩)], .func (.func 70) #[] #[.pointer (some ⟨b98, 0, none⟩), .pointer (some ⟨b118, 0, none⟩)], .slice a58 q52.2.2.2.1.length c59, .slice a64 q52.2.2.2.2.length c65] (runs_plain rfl) rfl rfl rfl ty77 rfl rfl rfl rfl ?_; clear hE hS a w; intro a w hE hS
      refine WL.nil ?_
      refine W.seq ?_
      refine W.region ?_
      refine WL.vS hS hE (runs_plain rfl) (Gives.p hE rfl) rfl ?_; clear hE a; intro a hE
      refine WL.vS hS hE (runs_plain rfl) (Gives.p hE rfl) rfl ?_; clear hE a; intro a hE
      obtain ⟨q119, hq120, hq82⟩ := bindS hq82
      replace hS := hS.front 5 rfl
      replace hS := hS.front 5 rfl
      replace hS := hS.front 2 rfl
      replace hS := hS.front 3 rfl
      replace hS := hS.front 5 rfl
      have hc_ := PlanSearchrun_v2_ok hS h90 h57 h103 hn105 h109 hn111 hq120
      refine WL.fnq hE (hc_) (runs_plain rfl) bd54 rfl rfl rfl ?_
      clear hE hS hc_; rintro e w ⟨cs121, cs124, s127, rfl, hle128, h122, hn123, h125, hn126, hS⟩; refine ⟨_, rfl, ?_⟩; clear a; intro a hE
      replace h90 := Pt.mono RA.mono hle128 h90
      replace h57 := Sl.mono RPlanRule.mono hle128 h57
      replace h103 := Ev.mono RI.mono hle128 h103
      replace h109 := Ev.mono RB.mono hle128 h109
      replace h94 := Ev.mono RI.mono hle128 h94
      replace h0_0 := Sl.mono RPlanRule.mono hle128 h0_0
      refine WL.nil ?_
      refine W.seq ?_
      refine W.seq ?_
      refine W.region ?_
      refine WL.vS hS hE (runs_plain rfl) (Gives.loadB hE 2 rfl rfl rfl ty3) rfl ?_; clear hE a; intro a hE
      refine WL.vS hS hE (runs_plain rfl) (Gives.fld hE rfl fl24_0) rfl ?_; clear hE a; intro a hE
      refine WL.vS hS hE (runs_plain rfl) (Gives.loadB hE 6 rfl rfl rfl ty3) rfl ?_; clear hE a; intro a hE
      refine WL.vS hS hE (runs_plain rfl) (Gives.p hE rfl) rfl ?_; clear hE a; intro a hE
      refine WL.nil ?_
      refine W.cond hE rfl (fun hc129 => ?_) (fun hc129 => ?_)
      · replace hq82 := iteT hc129 hq82
        refine W.seq ?_
        refine W.region ?_
        refine WL.vS hS hE (runs_plain rfl) (Gives.p hE rfl) rfl ?_; clear hE a; intro a hE
        refine WL.nil ?_
        refine W.ret ?_
        subst hK116
        rw [← Option.some.inj hq82] at hr
        dsimp only at hr
        refine finG (fn := Try.f43) (rs := [.tmp 2]) (vs := [_]) hE rfl ⟨rfl, trivial⟩ ?_
        obtain rfl := Option.some.inj hr
        replace hS := hS.tail
        replace hS := hS.tail
        replace hS := hS.tail
        replace hS := hS.tail
        replace hS := hS.tail
        replace hS := hS.tail
        replace hS := hS.tail
        exact ⟨none, 0, s127, rfl, (Sg.Le.trans (Sg.Le.trans (Sg.Le.trans hle71 hle77) hle87) hle128), Sl.nil, (fun _ => rfl), hS⟩
      · replace hq82 := iteF hc129 hq82
        refine W.skip ?_
        refine W.seq ?_
        refine W.region ?_
        refine WL.vS hS hE (runs_plain rfl) (Gives.p hE rfl) rfl ?_; clear hE a; intro a hE
        refine WL.vS hS hE (runs_plain rfl) (Gives.loadB hE 2 rfl rfl rfl ty3) rfl ?_; clear hE a; intro a hE
        refine WL.lit hE hS (e := 3) (es := 1) (vs := [(0, .int .i64 q119.2.2)]) (cs := [.int .i64 q119.2.2]) (runs_plain rfl) rfl (by kernel_rfl) rfl ?_; clear hE hS a w; intro b130 a w hE hS
        obtain ⟨x131, hx132, hq82⟩ := bindS hq82
        refine WL.appD hE hS 5 (m := 1) (runs_plain rfl) rfl rfl rfl ap29 rfl h94 rfl (xs := [q119.2.2]) (Ev.cons (c1 := [.int .i64 q119.2.2]) rfl rfl (Ev.nil)) rfl rfl hx132 rfl ?_; clear hE hS a w; intro a133 c134 cs135 a w h136 hE hS
        refine WL.vS hS hE (runs_plain rfl) (Gives.p hE rfl) rfl ?_; clear hE a; intro a hE
        refine WL.nil ?_
        refine W.region ?_
        refine WL.vS hS hE (runs_plain rfl) (Gives.p hE rfl) rfl ?_; clear hE a; intro a hE
        refine WL.vS hS hE (runs_plain rfl) (Gives.fld hE rfl fl24_1) rfl ?_; clear hE a; intro a hE
        refine WL.vS hS hE (runs_plain rfl) (Gives.loadB hE 6 rfl rfl rfl ty3) rfl ?_; clear hE a; intro a hE
        refine WL.vS hS hE (runs_plain rfl) (Gives.loadB hE 1 rfl rfl rfl ty3) rfl ?_; clear hE a; intro a hE
        refine WL.vS hS hE (runs_plain rfl) (Gives.loadB hE 2 rfl rfl rfl ty3) rfl ?_; clear hE a; intro a hE
        refine WL.vS hS hE (runs_plain rfl) (Gives.loadB hE 2 rfl rfl rfl ty3) rfl ?_; clear hE a; intro a hE
        obtain ⟨q137, hq138, hq82⟩ := bindS hq82
        have hc_ := PlanBoundsbetween_ok hS h90 hq138
        refine WL.fnq hE (hc_) (runs_plain rfl) bd72 rfl rfl rfl ?_
        clear hE hS hc_; rintro e w ⟨a139, s141, rfl, hle142, h140, hS⟩; refine ⟨_, rfl, ?_⟩; clear a; intro a hE
        replace h90 := Pt.mono RA.mono hle142 h90
        replace h57 := Sl.mono RPlanRule.mono hle142 h57
        replace h122 := Ev.mono RI.mono hle142 h122
        replace h125 := Ev.mono RB.mono hle142 h125
        replace h136 := Ev.mono RI.mono hle142 h136
        replace h0_0 := Sl.mono RPlanRule.mono hle142 h0_0
        refine WL.vS hS hE (runs_plain rfl) (Gives.p hE rfl) rfl ?_; clear hE a; intro a hE
        refine WL.vS hS hE (runs_plain rfl) (Gives.p hE rfl) rfl ?_; clear hE a; intro a hE
        refine WL.vS hS hE (runs_plain rfl) (Gives.p hE rfl) rfl ?_; clear hE a; intro a hE
        refine WL.vS hS hE (runs_plain rfl) (Gives.p hE rfl) rfl ?_; clear hE a; intro a hE
        refine WL.nil ?_
        refine W.seq ?_
        refine W.seq ?_
        refine W.region ?_
        refine WL.vS hS hE (runs_plain rfl) (Gives.loadB hE 1 rfl rfl rfl ty3) rfl ?_; clear hE a; intro a hE
        refine WL.nil ?_
        refine W.region ?_
        refine WL.alloc hE hS (runs_plain rfl) zr3 rfl ?_; clear hE hS a w; intro b143 a w hE hS
        refine WL.storeI hE hS 0 rfl [.int .i64 q99] (runs_plain rfl) rfl rfl rfl ty3 rfl rfl rfl rfl ?_; clear hE hS a w; intro a w hE hS
        refine WL.nil ?_
        refine W.region ?_
        refine WL.vS hS hE (runs_plain rfl) (Gives.loadB hE 0 rfl rfl rfl ty3) rfl ?_; clear hE a; intro a hE
        refine WL.vS hS hE (runs_plain rfl) (Gives.p hE rfl) rfl ?_; clear hE a; intro a hE
        refine WL.storeI hE hS 0 rfl [.int .i64 (w64 (q99 + 1))] (runs_plain rfl) rfl rfl rfl ty3 rfl rfl rfl rfl ?_; clear hE hS a w; intro a w hE hS
        refine WL.nil ?_
        replace hS := hS.dropAt 2
        replace hS := hS.dropAt 2
        replace hS := hS.front 5 rfl
        replace hS := hS.front 4 rfl
        replace hS := hS.front 4 rfl
        replace hS := hS.front 4 rfl
        replace hS := hS.front 5 rfl
        replace hS := hS.front 5 rfl
        subst hK116
        exact ⟨n84, Nat.lt_succ_self _, n84, q137.1, x131, (w64 (q99 + 1)), q119.1, q119.2.1, (), (), a139, a133, c134, x131.length, cs135, b143, cs121, cs124, (.func (.func 71) #[] #[.pointer (some ⟨b98, 0, none⟩), .pointer (some ⟨b118, 0, none⟩)]), (.func (.func 70) #[] #[.pointer (some ⟨b98, 0, none⟩), .pointer (some ⟨b118, 0, none⟩)]), s141, rfl, (Sg.Le.trans (Sg.Le.trans hle87 hle128) hle142), hq82, h140, h136, (rfl), h122, hn123, h125, hn126, hE.pick _ ⟨rfl, rfl, rfl, rfl, rfl, trivial⟩, hS⟩
    · replace hq82 := iteF hc117 hq82
      subst hK116
      refine W.exit rfl ?_
      exact ⟨q88, q91, q99, q100, q106, (), (), a89, a92, c93, q91.length, cs96, b98, cs104, cs110, f113, f115, s86, hle87, Option.some.inj hq82, h90, h94, rfl, h103, hn105, h109, hn111, hE.pick _ ⟨rfl, trivial⟩, hS⟩
  · clear hE hS a w; rintro a w ⟨q88, q91, q99, q100, q106, q112, q114, a89, a92, c93, n95, cs96, b98, cs104, cs110, f113, f115, s86, hle87, rfl, h90, h94, rfl, h103, hn105, h109, hn111, hE, hS⟩
    dsimp only at hr
    replace h0_0 := Sl.mono RPlanRule.mono hle87 h0_0
    replace h75 := Pt.mono RA.mono hle87 h75
    replace h80 := Ev.mono RI.mono hle87 h80
    replace h57 := Sl.mono RPlanRule.mono hle87 h57
    replace h62 := Ev.mono RI.mono hle87 h62
    replace h68 := Ev.mono RB.mono hle87 h68
    refine W.seq ?_
    refine W.region ?_
    refine WL.vS hS hE (runs_plain rfl) (Gives.p hE rfl) rfl ?_; clear hE a; intro a hE
    have hF := hS.fixD RI.mono 1 rfl h94 rfl; clear hS; obtain ⟨s144, hle145, hS, h146⟩ := hF
    replace h90 := Pt.mono RA.mono hle145 h90
    replace h57 := Sl.mono RPlanRule.mono hle145 h57
    replace h103 := Ev.mono RI.mono hle145 h103
    replace h109 := Ev.mono RB.mono hle145 h109
    replace h0_0 := Sl.mono RPlanRule.mono hle145 h0_0
    obtain ⟨_, hx147, hr⟩ := bindS hr
    refine WL.vS hS hE (runs_plain rfl) (Gives.p hE rfl) rfl ?_; clear hE a; intro a hE
    refine WL.nil ?_
    refine W.ret ?_
    refine finG (fn := Try.f43) (rs := [.tmp 2]) (vs := [_]) hE rfl ⟨rfl, trivial⟩ ?_
    obtain rfl := Option.some.inj hr
    replace hS := hS.tail
    replace hS := hS.tail
    replace hS := hS.tail
    replace hS := hS.tail
    replace hS := hS.tail
    exact ⟨a92, c93, s144, rfl, (Sg.Le.trans (Sg.Le.trans (Sg.Le.trans hle71 hle77) hle87) hle145), h146, (nz_some hx147), hS⟩
set_option maxHeartbeats 8000000 in
theorem PlanSolve_ok {fu : Nat}  {w : World} {s : Sg} {R : List HP} {x0 : PlanPeriodic} {a0_0 : Option Addr} {c0_0 : Nat} (hS : St w s (R)) (h0_0 : Sl 5 RPlanRule s a0_0 c0_0 x0.Rules) {r : (List Int) × Int} (hr : PlanSolve fu x0 = some r) :
    Calls Try.prog 19 [.agg [.int .i64 x0.Period, .int .i64 x0.Events, .slice a0_0 x0.Rules.length c0_0].toArray].toArray w (fun e w => ∃ (a0 : Option Addr) (c0 : Nat) (t : Sg), e = .returned (.tuple #[.slice a0 r.1.length c0, .int .i64 r.2]) ∧ s.Le t ∧ Sl 1 (RI .i64) t a0 c0 r.1 ∧ St w t (R)) := by
  refine enter Try.func19 rfl rfl rfl fun a hE => ?_
  rw [PlanSolve] at hr
  refine W.seq ?_
  refine W.region ?_
  refine WL.box hE hS (runs_plain rfl) rfl rfl rfl ?_; clear hE hS a w; intro b51 a w hE hS
  refine WL.vS hS hE (runs_plain rfl) (Gives.p hE rfl) rfl ?_; clear hE a; intro a hE
  refine WL.vS hS hE (runs_plain rfl) (Gives.p hE rfl) rfl ?_; clear hE a; intro a hE
  refine WL.nil ?_
  refine W.seq ?_
  refine W.seq ?_
  refine W.region ?_
  refine WL.vS hS hE (runs_plain rfl) (Gives.loadBA hE 0 rfl rfl ty24) rfl ?_; clear hE a; intro a hE
  refine WL.fnq hE (PlanCheckPeriodic_ok hS h0_0 rfl (r := PlanCheckPeriodic x0)) (runs_plain rfl) bd10 rfl rfl rfl ?_
  clear hE hS; rintro e w ⟨rfl, hS⟩; refine ⟨_, rfl, ?_⟩; clear a; intro a hE
  refine WL.vS hS hE (runs_plain rfl) (Gives.p hE rfl) rfl ?_; clear hE a; intro a hE
  refine WL.nil ?_
  refine W.seq ?_
  refine W.region ?_
  refine WL.vS hS hE (runs_plain rfl) (Gives.p hE rfl) rfl ?_; clear hE a; intro a hE
  refine WL.vS hS hE (runs_plain rfl) (Gives.p hE rfl) rfl ?_; clear hE a; intro a hE
  refine WL.nil ?_
  refine W.cond hE rfl (fun hc52 => ?_) (fun hc52 => ?_)
  · replace hr := iteT hc52 hr
    refine W.seq ?_
    refine W.region ?_
    refine WL.vS hS hE (runs_plain rfl) (Gives.p hE rfl) rfl ?_; clear hE a; intro a hE
    refine WL.vS hS hE (runs_plain rfl) (Gives.p hE rfl) rfl ?_; clear hE a; intro a hE
    refine WL.vS hS hE (runs_plain rfl) (Gives.p hE rfl) rfl ?_; clear hE a; intro a hE
    refine WL.nil ?_
    refine W.ret ?_
    refine finG (fn := Try.f19) (rs := [.tmp 2, .tmp 3]) (vs := [_, _]) hE rfl ⟨rfl, rfl, trivial⟩ ?_
    obtain rfl := Option.some.inj hr
    replace hS := hS.tail
    exact ⟨none, 0, s, rfl, (Sg.Le.refl _), Sl.nil, hS⟩
  · replace hr := iteF hc52 hr
    refine W.skip ?_
    refine W.seq ?_
    refine W.region ?_
    refine WL.vS hS hE (runs_plain rfl) (Gives.loadBA hE 0 rfl rfl ty24) rfl ?_; clear hE a; intro a hE
    obtain ⟨q53, hq54, hr⟩ := bindS hr
    have hc_ := Plansolve_ok hS h0_0 hq54
    refine WL.fnq hE (hc_) (runs_plain rfl) bd43 rfl rfl rfl ?_
    clear hE hS hc_; rintro e w ⟨a55, c56, s59, rfl, hle60, h57, hz58, hS⟩; refine ⟨_, rfl, ?_⟩; clear a; intro a hE
    replace h0_0 := Sl.mono RPlanRule.mono hle60 h0_0
    refine WL.vS hS hE (runs_plain rfl) (Gives.p hE rfl) rfl ?_; clear hE a; intro a hE
    refine WL.nil ?_
    refine W.seq ?_
    refine W.seq ?_
    refine W.region ?_
    refine WL.vS hS hE (runs_plain rfl) (Gives.p hE rfl) rfl ?_; clear hE a; intro a hE
    refine WL.vS hS hE (runs_plain rfl) (Gives.isNilZ hE (isNone_eq h57 hz58) rfl rfl isl29) rfl ?_; clear hE a; intro a hE
    refine WL.nil ?_
    refine W.cond hE rfl (fun hc61 => ?_) (fun hc61 => ?_)
    · replace hr := iteT hc61 hr
      refine W.seq ?_
      refine W.region ?_
      refine WL.vS hS hE (runs_plain rfl) (Gives.p hE rfl) rfl ?_; clear hE a; intro a hE
      refine WL.vS hS hE (runs_plain rfl) (Gives.p hE rfl) rfl ?_; clear hE a; intro a hE
      refine WL.nil ?_
      refine W.ret ?_
      refine finG (fn := Try.f19) (rs := [.tmp 2, .tmp 3]) (vs := [_, _]) hE rfl ⟨rfl, rfl, trivial⟩ ?_
      obtain rfl := Option.some.inj hr
      replace hS := hS.tail
      exact ⟨none, 0, s59, rfl, hle60, Sl.nil, hS⟩
    · replace hr := iteF hc61 hr
      refine W.skip ?_
      refine W.seq ?_
      refine W.region ?_
      refine WL.vS hS hE (runs_plain rfl) (Gives.p hE rfl) rfl ?_; clear hE a; intro a hE
      refine WL.vS hS hE (runs_plain rfl) (Gives.p hE rfl) rfl ?_; clear hE a; intro a hE
      refine WL.vS hS hE (runs_plain rfl) (Gives.p hE rfl) rfl ?_; clear hE a; intro a hE
      refine WL.nil ?_
      refine W.ret ?_
      refine finG (fn := Try.f19) (rs := [.tmp 2, .tmp 3]) (vs := [_, _]) hE rfl ⟨rfl, rfl, trivial⟩ ?_
      obtain rfl := Option.some.inj hr
      replace hS := hS.tail
      exact ⟨a55, c56, s59, rfl, hle60, h57, hS⟩
set_option maxHeartbeats 8000000 in
theorem SlicesEqualLint_ok  {w : World} {s : Sg} {R : List HP} {x0 : List Int} {a0 : Option Addr} {c0 : Nat} {x1 : List Int} {a1 : Option Addr} {c1 : Nat} (hS : St w s (R)) (h0 : Sl 1 (RI .i64) s a0 c0 x0) (h1 : Sl 1 (RI .i64) s a1 c1 x1) {r : Bool} (hr : SlicesEqualLint x0 x1 = some r) :
    Calls Try.prog 21 [.slice a0 x0.length c0, .slice a1 x1.length c1].toArray w (fun e w => e = .returned (.bool r) ∧ St w s (R)) := by
  refine enter Try.func21 rfl rfl rfl fun a hE => ?_
  rw [SlicesEqualLint] at hr
  refine W.seq ?_
  refine W.region ?_
  refine WL.vS hS hE (runs_plain rfl) (Gives.p hE rfl) rfl ?_; clear hE a; intro a hE
  refine WL.nil ?_
  refine W.seq ?_
  refine W.seq ?_
  refine W.region ?_
  refine WL.vS hS hE (runs_plain rfl) (Gives.p hE rfl) rfl ?_; clear hE a; intro a hE
  refine WL.vS hS hE (runs_plain rfl) (Gives.len hE rfl sl29) rfl ?_; clear hE a; intro a hE
  refine WL.vS hS hE (runs_plain rfl) (Gives.p hE rfl) rfl ?_; clear hE a; intro a hE
  refine WL.vS hS hE (runs_plain rfl) (Gives.len hE rfl sl29) rfl ?_; clear hE a; intro a hE
  refine WL.vS hS hE (runs_plain rfl) (Gives.p hE rfl) rfl ?_; clear hE a; intro a hE
  refine WL.nil ?_
  refine W.cond hE rfl (fun hc51 => ?_) (fun hc51 => ?_)
  · replace hr := iteT hc51 hr
    refine W.seq ?_
    refine W.region ?_
    refine WL.vS hS hE (runs_plain rfl) (Gives.p hE rfl) rfl ?_; clear hE a; intro a hE
    refine WL.nil ?_
    refine W.ret ?_
    refine finG (fn := Try.f21) (rs := [.tmp 4]) (vs := [_]) hE rfl ⟨rfl, trivial⟩ ?_
    obtain rfl := Option.some.inj hr
    exact ⟨rfl, hS⟩
  · replace hr := iteF hc51 hr
    refine W.skip ?_
    refine W.seq ?_
    refine W.seq ?_
    refine W.region ?_
    refine WL.vS hS hE (runs_plain rfl) (Gives.p hE rfl) rfl ?_; clear hE a; intro a hE
    refine WL.vS hS hE (runs_plain rfl) (Gives.len hE rfl sl29) rfl ?_; clear hE a; intro a hE
    refine WL.vS hS hE (runs_plain rfl) (Gives.p hE rfl) rfl ?_; clear hE a; intro a hE
    refine WL.nil ?_
    obtain ⟨q53, hq52, hr⟩ := bindS hr
    refine W.cut (fun a w => (.next ()) = q53 ∧ Rep a 26 [] ∧ St w s (R)) ?_ ?_
    · refine W.block ?_
      refine W.loop (fun m a w => ∃ (rest56 : List Int) (k54 : Nat), rest56.length = m ∧ x0.drop k54 = rest56 ∧ SlicesEqualLint.loop1 x1 rest56 k54 = some q53 ∧ Rep a 26 [(0, .slice a0 x0.length c0), (1, .slice a1 x1.length c1), (12, .int .i64 ((x0).length : Int)), (13, .int .i64 ((k54 : Nat) : Int))] ∧ St w s (R)) (m := x0.length) ⟨x0, 0, rfl, rfl, hq52, hE.pick _ ⟨rfl, rfl, rfl, rfl, trivial⟩, hS⟩ ?_
      clear hE hS a w hq52; rintro m60 a w ⟨rest56, k54, rfl, hd57, hq52, hE, hS⟩
      refine W.gen fun K63 hK63 => ?_
      rcases rest56 with _ | ⟨x55, rest56⟩
      · have hlt58 := drop_nil hd57
        refine W.seq ?_
        refine W.region ?_
        refine WL.vS hS hE (runs_plain rfl) (Gives.p hE rfl) rfl ?_; clear hE a; intro a hE
        refine WL.nil ?_
        refine W.seq ?_
        refine W.condF hE rfl (decide_eq_false (by omega)) ?_
        subst hK63
        refine W.exit rfl ?_
        exact ⟨Option.some.inj hq52, hE.pick _ trivial, hS⟩
      · obtain ⟨hlt58, hx59, hd57⟩ := drop_cons hd57
        rw [SlicesEqualLint.loop1] at hq52
        refine W.seq ?_
        refine W.region ?_
        refine WL.vS hS hE (runs_plain rfl) (Gives.p hE rfl) rfl ?_; clear hE a; intro a hE
        refine WL.nil ?_
        refine W.seq ?_
        refine W.condT hE rfl (decide_eq_true (by omega)) ?_
        refine W.skip ?_
        refine W.seq ?_
        refine W.block ?_
        refine W.seq ?_
        refine W.region ?_
        refine WL.vS hS hE (runs_plain rfl) (Gives.p hE rfl) rfl ?_; clear hE a; intro a hE
        refine WL.vS hS hE (runs_plain rfl) (Gives.p hE rfl) rfl ?_; clear hE a; intro a hE
        refine WL.nil ?_
        refine W.seq ?_
        refine W.regionQ (C := fun w => St w s (R)) mixed (by kernel_rfl) hS.drew ?_
        refine QL.v hE (runs_plain rfl) (Gives.p hE rfl) rfl ?_; clear hE a; intro a hE
        refine QL.v hE (runs_plain rfl) (Gives.p hE rfl) rfl ?_; clear hE a; intro a hE
        obtain ⟨cs64, hl65, hR66, hat67⟩ := h0.at hx59
        subst hR66
        refine QL.v hE (runs_plain rfl) (Gives.idx hE k54 rfl rfl sl29 rfl hlt58 (h0.aok hlt58)) rfl ?_; clear hE a; intro a hE
        refine QL.v hE (runs_plain rfl) (Gives.load1 hE rfl (fun w h => hat67 w _ h) ty3) rfl ?_; clear hE a; intro a hE
        refine QL.v hE (runs_plain rfl) (Gives.p hE rfl) rfl ?_; clear hE a; intro a hE
        refine QL.v hE (runs_plain rfl) (Gives.p hE rfl) rfl ?_; clear hE a; intro a hE
        obtain ⟨x68, hx69, hq52⟩ := bindS hq52
        obtain ⟨hi70, hlt71, hy72⟩ := gx_some hx69
        obtain ⟨cs73, hl74, hR75, hat76⟩ := h1.at hy72
        subst hR75
        refine QL.v hE (runs_plain rfl) (Gives.idx hE (((k54 : Nat) : Int)).toNat rfl rfl sl29 hi70 hlt71 (h1.aok hlt71)) rfl ?_; clear hE a; intro a hE
        refine QL.v hE (runs_plain rfl) (Gives.load1 hE rfl (fun w h => hat76 w _ h) ty3) rfl ?_; clear hE a; intro a hE
        refine QL.v hE (runs_plain rfl) (Gives.p hE rfl) rfl ?_; clear hE a; intro a hE
        refine QL.nil ?_; clear hS w; intro w hS
        refine W.cond hE rfl (fun hc77 => ?_) (fun hc77 => ?_)
        · replace hq52 := iteT hc77 hq52
          refine W.seq ?_
          refine W.region ?_
          refine WL.vS hS hE (runs_plain rfl) (Gives.p hE rfl) rfl ?_; clear hE a; intro a hE
          refine WL.nil ?_
          refine W.ret ?_
          subst hK63
          rw [← Option.some.inj hq52] at hr
          dsimp only at hr
          refine finG (fn := Try.f21) (rs := [.tmp 4]) (vs := [_]) hE rfl ⟨rfl, trivial⟩ ?_
          obtain rfl := Option.some.inj hr
          exact ⟨rfl, hS⟩
        · replace hq52 := iteF hc77 hq52
          refine W.skip ?_
          refine W.region ?_
          refine WL.vS hS hE (runs_plain rfl) (Gives.inc hE rfl (by have := h0.small; omega)) rfl ?_; clear hE a; intro a hE
          refine WL.vS hS hE (runs_plain rfl) (Gives.p hE rfl) rfl ?_; clear hE a; intro a hE
          refine WL.nil ?_
          subst hK63
          exact ⟨rest56.length, Nat.lt_succ_self _, rest56, k54 + 1, rfl, hd57, hq52, hE.pick _ ⟨rfl, rfl, rfl, rfl, trivial⟩, hS⟩
    · clear hE hS a w; rintro a w ⟨rfl, hE, hS⟩
      dsimp only at hr
      refine W.seq ?_
      refine W.region ?_
      refine WL.vS hS hE (runs_plain rfl) (Gives.p hE rfl) rfl ?_; clear hE a; intro a hE
      refine WL.nil ?_
      refine W.ret ?_
      refine finG (fn := Try.f21) (rs := [.tmp 4]) (vs := [_]) hE rfl ⟨rfl, trivial⟩ ?_
      obtain rfl := Option.some.inj hr
      exact ⟨rfl, hS⟩
set_option maxHeartbeats 8000000 in
theorem Fishlaw2periods_ok {fu : Nat}  {w : World} {s : Sg} {R : List HP}  (hS : St w s (R))  {r : Bool} (hr : Fishlaw2periods fu = some r) :
    Calls Try.prog 9 [].toArray w (fun e w => e = .returned (.bool r) ∧ St w s (R)) := by
  refine enter Try.func9 rfl rfl rfl fun a hE => ?_
  rw [Fishlaw2periods] at hr
  refine W.seq ?_
  refine W.region ?_
  refine WL.vS hS hE (runs_plain rfl) (Gives.p hE rfl) rfl ?_; clear hE a; intro a hE
  refine WL.nil ?_
  refine W.seq ?_
  refine W.region ?_
  refine WL.vS hS hE (runs_plain rfl) (Gives.build hE (vs := [(0, .int .i64 0), (1, .int .i64 1), (2, .int .i64 10), (3, .int .i64 20)]) [.int .i64 0, .int .i64 1, .int .i64 10, .int .i64 20, .int .i64 0] rfl (by kernel_rfl)) rfl ?_; clear hE a; intro a hE
  refine WL.vS hS hE (runs_plain rfl) (Gives.build hE (vs := [(0, .int .i64 1), (1, .int .i64 2), (2, .int .i64 10), (3, .int .i64 20)]) [.int .i64 1, .int .i64 2, .int .i64 10, .int .i64 20, .int .i64 0] rfl (by kernel_rfl)) rfl ?_; clear hE a; intro a hE
  refine WL.vS hS hE (runs_plain rfl) (Gives.build hE (vs := [(0, .int .i64 2), (1, .int .i64 0), (2, .int .i64 10), (3, .int .i64 20)]) [.int .i64 2, .int .i64 0, .int .i64 10, .int .i64 20, .int .i64 0] rfl (by kernel_rfl)) rfl ?_; clear hE a; intro a hE
  refine WL.lit hE hS (e := 37) (es := 5) (vs := [(0, .agg [.int .i64 0, .int .i64 1, .int .i64 10, .int .i64 20, .int .i64 0].toArray), (1, .agg [.int .i64 1, .int .i64 2, .int .i64 10, .int .i64 20, .int .i64 0].toArray), (2, .agg [.int .i64 2, .int .i64 0, .int .i64 10, .int .i64 20, .int .i64 0].toArray)]) (cs := [.int .i64 0, .int .i64 1, .int .i64 10, .int .i64 20, .int .i64 0, .int .i64 1, .int .i64 2, .int .i64 10, .int .i64 20, .int .i64 0, .int .i64 2, .int .i64 0, .int .i64 10, .int .i64 20, .int .i64 0]) (runs_plain rfl) rfl (by kernel_rfl) rfl ?_; clear hE hS a w; intro b51 a w hE hS
  replace hS := hS.ptVec (es := 5) (m := 3) rfl (by decide)
  have h53 : Ev 5 RPlanRule s [.int .i64 0, .int .i64 1, .int .i64 10, .int .i64 20, .int .i64 0, .int .i64 1, .int .i64 2, .int .i64 10, .int .i64 20, .int .i64 0, .int .i64 2, .int .i64 0, .int .i64 10, .int .i64 20, .int .i64 0] [(PlanRule.mk 0 1 10 20 0), (PlanRule.mk 1 2 10 20 0), (PlanRule.mk 2 0 10 20 0)] := (Ev.cons (c1 := [.int .i64 0, .int .i64 1, .int .i64 10, .int .i64 20, .int .i64 0]) rfl rfl (Ev.cons (c1 := [.int .i64 1, .int .i64 2, .int .i64 10, .int .i64 20, .int .i64 0]) rfl rfl (Ev.cons (c1 := [.int .i64 2, .int .i64 0, .int .i64 10, .int .i64 20, .int .i64 0]) rfl rfl (Ev.nil))))
  have hF := hS.fixD RPlanRule.mono 0 rfl h53 (rfl); clear hS; obtain ⟨s54, hle55, hS, h56⟩ := hF
  refine WL.vS hS hE (runs_plain rfl) (Gives.build hE (vs := [(0, .int .i64 60), (1, .int .i64 3), (2, .slice (some ⟨b51, 0, none⟩) 3 3)]) [.int .i64 60, .int .i64 3, .slice (some ⟨b51, 0, none⟩) 3 3] rfl (by kernel_rfl)) rfl ?_; clear hE a; intro a hE
  refine WL.alloc hE hS (runs_plain rfl) zr24 rfl ?_; clear hE hS a w; intro b57 a w hE hS
  refine WL.storeI hE hS 0 rfl [.int .i64 60, .int .i64 3, .slice (some ⟨b51, 0, none⟩) 3 3] (runs_plain rfl) rfl rfl rfl ty24 rfl rfl rfl rfl ?_; clear hE hS a w; intro a w hE hS
  refine WL.nil ?_
  refine W.seq ?_
  refine W.region ?_
  refine WL.vS hS hE (runs_plain rfl) (Gives.loadBA hE 0 rfl rfl ty24) rfl ?_; clear hE a; intro a hE
  obtain ⟨q58, hq59, hr⟩ := bindS hr
  have hc_ := PlanSolve_ok hS h56 hq59
  refine WL.fnq hE (hc_) (runs_plain rfl) bd19 rfl rfl rfl ?_
  clear hE hS hc_; rintro e w ⟨a60, c61, s63, rfl, hle64, h62, hS⟩; refine ⟨_, rfl, ?_⟩; clear a; intro a hE
  replace h56 := Sl.mono RPlanRule.mono hle64 h56
  refine WL.vS hS hE (runs_plain rfl) (Gives.p hE rfl) rfl ?_; clear hE a; intro a hE
  refine WL.vS hS hE (runs_plain rfl) (Gives.p hE rfl) rfl ?_; clear hE a; intro a hE
  refine WL.vS hS hE (runs_plain rfl) (Gives.p hE rfl) rfl ?_; clear hE a; intro a hE
  refine WL.vS hS hE (runs_plain rfl) (Gives.p hE rfl) rfl ?_; clear hE a; intro a hE
  refine WL.vS hS hE (runs_plain rfl) (Gives.p hE rfl) rfl ?_; clear hE a; intro a hE
  refine WL.nil ?_
  refine W.seq ?_
  obtain ⟨q66, hq65, hr⟩ := bindS hr
  refine W.cut (fun a w => ∃ (q69 : Bool), ∃ (s67 : Sg), s63.Le s67 ∧ q69 = q66 ∧ Rep a 21 [(0, .bool q69)] ∧ St w s67 (pt b57 (.cells #[.int .i64 60, .int .i64 3, .slice (some ⟨b51, 0, none⟩) 3 3] 24 (0, 0)) :: R)) ?_ ?_
  · refine W.gen fun K70 hK70 => ?_
    refine W.region ?_
    refine WL.vS hS hE (runs_plain rfl) (Gives.p hE rfl) rfl ?_; clear hE a; intro a hE
    refine WL.vS hS hE (runs_plain rfl) (Gives.p hE rfl) rfl ?_; clear hE a; intro a hE
    refine WL.vS hS hE (runs_plain rfl) (Gives.p hE rfl) rfl ?_; clear hE a; intro a hE
    rcases Bool.eq_false_or_eq_true (q58.2 == 0) with hg71 | hg71
    · replace hq65 := iteT hg71 hq65
      refine WL.vS hS hE (runs_if hE rfl rfl rfl hg71) (Gives.p hE rfl) rfl ?_; clear hE a; intro a hE
      refine WL.lit hE hS (e := 3) (es := 1) (vs := [(0, .int .i64 0), (1, .int .i64 20), (2, .int .i64 40)]) (cs := [.int .i64 0, .int .i64 20, .int .i64 40]) (runs_if hE rfl rfl rfl hg71) rfl (by kernel_rfl) rfl ?_; clear hE hS a w; intro b72 a w hE hS
      replace hS := hS.ptVec (es := 1) (m := 3) rfl (by decide)
      have h74 : Ev 1 (RI .i64) s63 [.int .i64 0, .int .i64 20, .int .i64 40] [0, 20, 40] := (Ev.cons (c1 := [.int .i64 0]) rfl rfl (Ev.cons (c1 := [.int .i64 20]) rfl rfl (Ev.cons (c1 := [.int .i64 40]) rfl rfl (Ev.nil))))
      have hF := hS.fixD RI.mono 0 rfl h74 (rfl); clear hS; obtain ⟨s75, hle76, hS, h77⟩ := hF
      replace h56 := Sl.mono RPlanRule.mono hle76 h56
      replace h62 := Sl.mono RI.mono hle76 h62
      obtain ⟨q78, hq79, hq65⟩ := bindS hq65
      have hc_ := SlicesEqualLint_ok hS h62 h77 hq79
      refine WL.fnq hE (hc_) (runs_if hE rfl rfl rfl hg71) bd21 rfl rfl rfl ?_
      clear hE hS hc_; rintro e w ⟨rfl, hS⟩; refine ⟨_, rfl, ?_⟩; clear a; intro a hE
      refine WL.vS hS hE (runs_plain rfl) (Gives.pickT hE rfl hg71 rfl) rfl ?_; clear hE a; intro a hE
      refine WL.vS hS hE (runs_plain rfl) (Gives.p hE rfl) rfl ?_; clear hE a; intro a hE
      refine WL.nil ?_
      subst hK70
      exact ⟨q78, s75, hle76, Option.some.inj hq65, hE.pick _ ⟨rfl, trivial⟩, hS⟩
    · replace hq65 := iteF hg71 hq65
      refine WL.no hE (runs_not hE rfl rfl rfl (by rw [hg71]; decide)) rfl ?_; clear hE a; intro a hE
      refine WL.no hE (runs_not hE rfl rfl rfl (by rw [hg71]; decide)) rfl ?_; clear hE a; intro a hE
      refine WL.no hE (runs_not hE rfl rfl rfl (by rw [hg71]; decide)) rfl ?_; clear hE a; intro a hE
      refine WL.vS hS hE (runs_plain rfl) (Gives.pickF hE rfl hg71 rfl) rfl ?_; clear hE a; intro a hE
      refine WL.vS hS hE (runs_plain rfl) (Gives.p hE rfl) rfl ?_; clear hE a; intro a hE
      refine WL.nil ?_
      subst hK70
      exact ⟨false, s63, (Sg.Le.refl _), Option.some.inj hq65, hE.pick _ ⟨rfl, trivial⟩, hS⟩
  · clear hE hS a w; rintro a w ⟨q69, s67, hle68, rfl, hE, hS⟩
    replace h56 := Sl.mono RPlanRule.mono hle68 h56
    refine W.ret ?_
    refine finG (fn := Try.f9) (rs := [.tmp 0]) (vs := [_]) hE rfl ⟨rfl, trivial⟩ ?_
    obtain rfl := Option.some.inj hr
    replace hS := hS.tail
    exact ⟨rfl, (hS.down (Sg.Le.trans (Sg.Le.trans hle55 hle64) hle68))⟩
set_option maxHeartbeats 8000000 in
theorem SlicesRepeatLint_ok {fu : Nat}  {w : World} {s : Sg} {R : List HP} {x0 : List Int} {a0 : Option Addr} {c0 : Nat} {x1 : Int} (hS : St w s (R)) (h0 : Sl 1 (RI .i64) s a0 c0 x0) {r : (List Int)} (hr : SlicesRepeatLint fu x0 x1 = some r) :
    Calls Try.prog 67 [.slice a0 x0.length c0, .int .i64 x1].toArray w (fun e w => ∃ (a0 : Option Addr) (c0 n0 : Nat) (cs0 : List Value), e = .returned (.slice a0 n0 c0) ∧ Ev 1 (RI .i64) s cs0 r ∧ r.length = n0 ∧ St w s (vecC 3 1 a0 c0 n0 cs0 :: R)) := by
  refine enter Try.func67 rfl rfl rfl fun a hE => ?_
  rw [SlicesRepeatLint] at hr
  refine W.seq ?_
  refine W.region ?_
  refine WL.vS hS hE (runs_plain rfl) (Gives.p hE rfl) rfl ?_; clear hE a; intro a hE
  refine WL.nil ?_
  refine W.seq ?_
  refine W.seq ?_
  refine W.region ?_
  refine WL.vS hS hE (runs_plain rfl) (Gives.p hE rfl) rfl ?_; clear hE a; intro a hE
  refine WL.vS hS hE (runs_plain rfl) (Gives.p hE rfl) rfl ?_; clear hE a; intro a hE
  refine WL.nil ?_
  refine W.cond hE rfl (fun hc51 => ?_) (fun hc51 => ?_)
  · replace hr := iteT hc51 hr
    refine W.region ?_
    exact absurd hr (by simp)
  · replace hr := iteF hc51 hr
    refine W.skip ?_
    refine W.seq ?_
    refine W.region ?_
    refine WL.vS hS hE (runs_plain rfl) (Gives.p hE rfl) rfl ?_; clear hE a; intro a hE
    refine WL.vS hS hE (runs_plain rfl) (Gives.len hE rfl sl29) rfl ?_; clear hE a; intro a hE
    refine WL.vS hS hE (runs_plain rfl) (Gives.conv hE rfl hu3 ui110) rfl ?_; clear hE a; intro a hE
    refine WL.vS hS hE (runs_plain rfl) (Gives.p hE rfl) rfl ?_; clear hE a; intro a hE
    refine WL.vS hS hE (runs_plain rfl) (Gives.conv hE rfl hu3 ui110) rfl ?_; clear hE a; intro a hE
    obtain ⟨q52, hq53, hr⟩ := bndS hr
    have hc_ := MathBitsMul_ok hS  hq53
    refine WL.fnq hE (hc_) (runs_plain rfl) bd77 rfl rfl rfl ?_
    clear hE hS hc_; rintro e w ⟨rfl, hS⟩; refine ⟨_, rfl, ?_⟩; clear a; intro a hE
    refine WL.vS hS hE (runs_plain rfl) (Gives.p hE rfl) rfl ?_; clear hE a; intro a hE
    refine WL.vS hS hE (runs_plain rfl) (Gives.p hE rfl) rfl ?_; clear hE a; intro a hE
    refine WL.vS hS hE (runs_plain rfl) (Gives.p hE rfl) rfl ?_; clear hE a; intro a hE
    refine WL.vS hS hE (runs_plain rfl) (Gives.p hE rfl) rfl ?_; clear hE a; intro a hE
    refine WL.vS hS hE (runs_plain rfl) (Gives.p hE rfl) rfl ?_; clear hE a; intro a hE
    refine WL.nil ?_
    refine W.seq ?_
    refine W.seq ?_
    obtain ⟨q55, hq54, hr⟩ := bndS hr
    refine W.cut (fun a w => ∃ (q58 : Bool), q58 = q55 ∧ Rep a 48 [(0, .slice a0 x0.length c0), (6, .int .u64 q52.2), (26, .bool q58)] ∧ St w s (R)) ?_ ?_
    · refine W.gen fun K59 hK59 => ?_
      refine W.region ?_
      refine WL.vS hS hE (runs_plain rfl) (Gives.p hE rfl) rfl ?_; clear hE a; intro a hE
      refine WL.vS hS hE (runs_plain rfl) (Gives.p hE rfl) rfl ?_; clear hE a; intro a hE
      refine WL.vS hS hE (runs_plain rfl) (Gives.p hE rfl) rfl ?_; clear hE a; intro a hE
      rcases Bool.eq_false_or_eq_true (decide (q52.1 > 0)) with hg60 | hg60
      · replace hq54 := iteT hg60 hq54
        refine WL.no hE (runs_not hE rfl rfl rfl (by rw [hg60]; decide)) rfl ?_; clear hE a; intro a hE
        refine WL.no hE (runs_not hE rfl rfl rfl (by rw [hg60]; decide)) rfl ?_; clear hE a; intro a hE
        refine WL.vS hS hE (runs_plain rfl) (Gives.pickT hE rfl hg60 rfl) rfl ?_; clear hE a; intro a hE
        refine WL.nil ?_
        subst hK59
        exact ⟨true, hq54, hE.pick _ ⟨rfl, rfl, rfl, trivial⟩, hS⟩
      · replace hq54 := iteF hg60 hq54
        refine WL.vS hS hE (runs_if hE rfl rfl rfl hg60) (Gives.p hE rfl) rfl ?_; clear hE a; intro a hE
        refine WL.vS hS hE (runs_if hE rfl rfl rfl hg60) (Gives.p hE rfl) rfl ?_; clear hE a; intro a hE
        refine WL.vS hS hE (runs_plain rfl) (Gives.pickF hE rfl hg60 rfl) rfl ?_; clear hE a; intro a hE
        refine WL.nil ?_
        subst hK59
        exact ⟨decide (q52.2 > 9223372036854775807), hq54, hE.pick _ ⟨rfl, rfl, rfl, trivial⟩, hS⟩
    · clear hE hS a w; rintro a w ⟨q58, rfl, hE, hS⟩
      refine W.cond hE rfl (fun hc61 => ?_) (fun hc61 => ?_)
      · replace hr := iteT hc61 hr
        refine W.region ?_
        exact absurd hr (by simp)
      · replace hr := iteF hc61 hr
        refine W.skip ?_
        refine W.seq ?_
        refine W.region ?_
        refine WL.vS hS hE (runs_plain rfl) (Gives.p hE rfl) rfl ?_; clear hE a; intro a hE
        refine WL.vS hS hE (runs_plain rfl) (Gives.conv hE rfl hu110 ui3) rfl ?_; clear hE a; intro a hE
        obtain ⟨x62, hx63, hr⟩ := bindS hr
        refine WL.mkD (Rr := RI .i64) hE hS (runs_plain rfl) rfl rfl ap29 zr3 rfl hx63 rfl ?_; clear hE hS a w; intro b64 cs65 a w h66 hE hS
        refine WL.vS hS hE (runs_plain rfl) (Gives.p hE rfl) rfl ?_; clear hE a; intro a hE
        refine WL.nil ?_
        refine W.seq ?_
        refine W.region ?_
        refine WL.vS hS hE (runs_plain rfl) (Gives.p hE rfl) rfl ?_; clear hE a; intro a hE
        refine WL.vS hS hE (runs_plain rfl) (Gives.p hE rfl) rfl ?_; clear hE a; intro a hE
        obtain ⟨x68, hx69, hr⟩ := bndS hr
        refine WL.cpS hE hS 0 (runs_plain rfl) cp29 (by rw [sliced_zero]; rfl) rfl rfl (Nat.zero_le _) (Nat.le_refl _) h66 rfl RI.one h0 rfl rfl ?_; clear hE hS a w; intro cs70 a w h71 hE hS
        have hn72 : x68.length = x62.length := by rw [← hx69, cpl_length (Nat.zero_le _) (by omega)]; try rfl
        rw [hx69] at h71
        refine WL.vS hS hE (runs_plain rfl) (Gives.p hE rfl) rfl ?_; clear hE a; intro a hE
        refine WL.nil ?_
        refine W.seq ?_
        obtain ⟨q74, hq73, hr⟩ := bindS hr
        refine W.cut (fun a w => ∃ (q79 : Int), ∃ (q80 : List Int), ∃ (cs84 : List Value), (q79, q80) = q74 ∧ Ev 1 (RI .i64) s cs84 q80 ∧ q80.length = x62.length ∧ Rep a 48 [(7, .slice (some ⟨b64, 0, none⟩) x62.length x62.length)] ∧ St w s (vecC 3 1 (some ⟨b64, 0, none⟩) x62.length x62.length cs84 :: R)) ?_ ?_
        · refine W.block ?_
          refine W.loop (fun m a w => ∃ (n75 : Nat), ∃ (q79 : Int), ∃ (q80 : List Int), ∃ (cs84 : List Value), n75 = m ∧ SlicesRepeatLint.loop1 x62 n75 q79 q80 = some q74 ∧ Ev 1 (RI .i64) s cs84 q80 ∧ q80.length = x62.length ∧ Rep a 48 [(7, .slice (some ⟨b64, 0, none⟩) x62.length x62.length), (8, .int .i64 q79)] ∧ St w s (vecC 3 1 (some ⟨b64, 0, none⟩) x62.length x62.length cs84 :: R)) (m := fu) ⟨fu, ((min x0.length (x62.length - 0) : Nat) : Int), x68, cs70, rfl, hq73, h71, hn72, hE.pick _ ⟨rfl, rfl, trivial⟩, hS⟩ ?_
          clear hE hS a w hq73; rintro m76 a w ⟨n75, q79, q80, cs84, rfl, hq73, h83, hn85, hE, hS⟩
          refine W.gen fun K86 hK86 => ?_
          rcases n75 with _ | n75
          · rw [SlicesRepeatLint.loop1] at hq73; exact absurd hq73 (by simp)
          rw [SlicesRepeatLint.loop1] at hq73
          refine W.seq ?_
          refine W.seq ?_
          refine W.region ?_
          refine WL.vS hS hE (runs_plain rfl) (Gives.p hE rfl) rfl ?_; clear hE a; intro a hE
          refine WL.vS hS hE (runs_plain rfl) (Gives.p hE rfl) rfl ?_; clear hE a; intro a hE
          refine WL.vS hS hE (runs_plain rfl) (Gives.len hE rfl sl29) rfl ?_; clear hE a; intro a hE
          refine WL.vS hS hE (runs_plain rfl) (Gives.p hE rfl) rfl ?_; clear hE a; intro a hE
          refine WL.nil ?_
          refine W.cond hE rfl (fun hc87 => ?_) (fun hc87 => ?_)
          · replace hq73 := iteT hc87 hq73
            refine W.skip ?_
            refine W.block ?_
            refine W.gen fun K88 hK88 => ?_
            refine W.regionE (sel (fun w => St w s (R)) (fun w => St w s (R))) (fun b i => cond b ([0, 1, 2, 3, 4, 5, 6, 7, 8, 9].contains i) ([0, 1, 2, 3, 4, 5, 6, 7, 8, 9].contains i)) mixed ?_
            replace hS := hS.drew
            refine Rg.takeP (i := 0) hE rfl (by kernel_rfl) (runs_plain rfl) (Gives.p hE rfl) rfl (tw_sel (fun _ => (hS.tail)) (fun _ => (hS.tail))) ?_; clear hE a; intro a hE
            refine Rg.takeP (i := 1) hE rfl (by kernel_rfl) (runs_plain rfl) (Gives.p hE rfl) rfl (tw_sel (fun _ => (hS.tail)) (fun _ => (hS.tail))) ?_; clear hE a; intro a hE
            refine Rg.takeP (i := 2) hE rfl (by kernel_rfl) (runs_plain rfl) (Gives.p hE rfl) rfl (tw_sel (fun _ => (hS.tail)) (fun _ => (hS.tail))) ?_; clear hE a; intro a hE
            obtain ⟨x89, hx90, hq73⟩ := bindS hq73
            obtain ⟨h91, h92, h93, h94, h95, h96⟩ := cutl_some hx90
            have h97 := (hS.vecCap 0 rfl).1
            refine Rg.takeP (i := 3) hE rfl (by kernel_rfl) (runs_plain rfl) (Gives.slL hE sl29 rfl rfl h91 (by have := hn85; omega) rfl) rfl (tw_sel (fun _ => (hS.tail)) (fun _ => (hS.tail))) ?_; clear hE a; intro a hE
            refine Rg.takeP (i := 4) hE rfl (by kernel_rfl) (runs_plain rfl) (Gives.p hE rfl) rfl (tw_sel (fun _ => (hS.tail)) (fun _ => (hS.tail))) ?_; clear hE a; intro a hE
            refine Rg.takeP (i := 5) hE rfl (by kernel_rfl) (runs_plain rfl) (Gives.p hE rfl) rfl (tw_sel (fun _ => (hS.tail)) (fun _ => (hS.tail))) ?_; clear hE a; intro a hE
            obtain ⟨x98, hx99, hq73⟩ := bindS hq73
            obtain ⟨h100, h101, h102, h103, h104, h105⟩ := cutl_some hx99
            have h106 := (hS.vecCap 0 rfl).1
            refine Rg.takeP (i := 6) hE rfl (by kernel_rfl) (runs_plain rfl) (Gives.slH hE sl29 rfl rfl h101 (Int.le_trans h102 (by have := hn85; omega)) rfl) rfl (tw_sel (fun _ => (hS.tail)) (fun _ => (hS.tail))) ?_; clear hE a; intro a hE
            refine Rg.one (i := 7) true true rfl (by kernel_rfl) (by kernel_rfl) (by kernel_rfl) ?_
            obtain ⟨x107, hx108, hq73⟩ := bndS hq73
            refine WL.cpO (lo2 := 0) (hi2 := (q79).toNat) hE hS 0 (runs_plain rfl) cp29 rfl rfl rfl (by have := hn85; omega) (by have := hn85; omega) (by have := hn85; omega) (by have := hn85; omega) h83 hn85 (h83.allOne RI.one) rfl ?_; clear hE hS a w; intro cs109 a w h110 hE hS
            have hn111 : x107.length = x62.length := by rw [← hx108, cpl_length (by have := hn85; omega) (by have := hn85; omega)]; try exact hn85
            rw [hx108] at h110
            refine WL.nil ?_
            refine ⟨⟨fun _ => (hS.tail), fun _ => (hS.tail)⟩, ?_⟩
            refine Rg.takeP (i := 8) hE rfl (by kernel_rfl) (runs_plain rfl) (Gives.p hE rfl) rfl (tw_sel (fun _ => (hS.tail)) (fun _ => (hS.tail))) ?_; clear hE a; intro a hE
            refine Rg.takeP (i := 9) hE rfl (by kernel_rfl) (runs_plain rfl) (Gives.p hE rfl) rfl (tw_sel (fun _ => (hS.tail)) (fun _ => (hS.tail))) ?_; clear hE a; intro a hE
            refine Rg.done (by kernel_rfl) ?_
            subst hK88
            subst hK86
            exact ⟨n75, Nat.lt_succ_self _, n75, (w64 (q79 + ((min ((q80.take ((q79).toNat)).drop 0).length (x62.length - ((q79).toNat)) : Nat) : Int))), x107, cs109, rfl, hq73, h110, hn111, hE.pick _ ⟨rfl, rfl, trivial⟩, hS⟩
          · replace hq73 := iteF hc87 hq73
            subst hK86
            refine W.exit rfl ?_
            exact ⟨q79, q80, cs84, Option.some.inj hq73, h83, hn85, hE.pick _ ⟨rfl, trivial⟩, hS⟩
        · clear hE hS a w; rintro a w ⟨q79, q80, cs84, rfl, h83, hn85, hE, hS⟩
          dsimp only at hr
          refine W.seq ?_
          refine W.region ?_
          refine WL.vS hS hE (runs_plain rfl) (Gives.p hE rfl) rfl ?_; clear hE a; intro a hE
          refine WL.vS hS hE (runs_plain rfl) (Gives.p hE rfl) rfl ?_; clear hE a; intro a hE
          refine WL.nil ?_
          refine W.ret ?_
          refine finG (fn := Try.f67) (rs := [.tmp 4]) (vs := [_]) hE rfl ⟨rfl, trivial⟩ ?_
          obtain rfl := Option.some.inj hr
          exact ⟨(some ⟨b64, 0, none⟩), x62.length, x62.length, cs84, rfl, h83, hn85, hS⟩
set_option maxHeartbeats 8000000 in
theorem Fishref2free_ok {fu : Nat}  {w : World} {s : Sg} {R : List HP} {x0 : PlanPeriodic} {a0_0 : Option Addr} {c0_0 : Nat} (hS : St w s (R)) (h0_0 : Sl 5 RPlanRule s a0_0 c0_0 x0.Rules) {r : (List (List Int))} (hr : Fishref2free fu x0 = some r) :
    Calls Try.prog 55 [.agg [.int .i64 x0.Period, .int .i64 x0.Events, .slice a0_0 x0.Rules.length c0_0].toArray].toArray w (fun e w => ∃ (a0 : Option Addr) (c0 : Nat) (t : Sg), e = .returned (.slice a0 r.length c0) ∧ s.Le t ∧ Sl 1 (RL 1 (RI .i64)) t a0 c0 r ∧ St w t (R)) := by
  refine enter Try.func55 rfl rfl rfl fun a hE => ?_
  rw [Fishref2free] at hr
  refine W.seq ?_
  refine W.region ?_
  refine WL.box hE hS (runs_plain rfl) rfl rfl rfl ?_; clear hE hS a w; intro b51 a w hE hS
  refine WL.vS hS hE (runs_plain rfl) (Gives.p hE rfl) rfl ?_; clear hE a; intro a hE
  refine WL.nil ?_
  refine W.seq ?_
  refine W.region ?_
  refine WL.vS hS hE (runs_plain rfl) (Gives.fld hE rfl fl24_1) rfl ?_; clear hE a; intro a hE
  refine WL.vS hS hE (runs_plain rfl) (Gives.loadB hE 0 rfl rfl rfl ty3) rfl ?_; clear hE a; intro a hE
  obtain ⟨x52, hx53, hr⟩ := bindS hr
  refine WL.mkND (Rr := RI .i64) (Ti := 3) (es := 1) hE hS (runs_plain rfl) rfl rfl ap87 zr29 hx53 rfl ?_; clear hE hS a w; intro b54 ds55 a w h56 hE hS
  refine WL.vS hS hE (runs_plain rfl) (Gives.p hE rfl) rfl ?_; clear hE a; intro a hE
  refine WL.nil ?_
  refine W.seq ?_
  refine W.seq ?_
  refine W.region ?_
  refine WL.vS hS hE (runs_plain rfl) (Gives.p hE rfl) rfl ?_; clear hE a; intro a hE
  refine WL.vS hS hE (runs_plain rfl) (Gives.len hE rfl sl87) rfl ?_; clear hE a; intro a hE
  refine WL.vS hS hE (runs_plain rfl) (Gives.p hE rfl) rfl ?_; clear hE a; intro a hE
  refine WL.nil ?_
  have hb69 : x52.length ≤ 9223372036854775807 := by have := hS.nCap 0 rfl; unfold maxLen at this; omega
  obtain ⟨q59, hq58, hr⟩ := bindS hr
  refine W.cut (fun a w => ∃ (q70 : List (List Int)), ∃ (ds74 : List In), ∃ (s67 : Sg), s.Le s67 ∧ q70 = q59 ∧ NEv 1 (RI .i64) s67 ds74 q70 ∧ q70.length = x52.length ∧ Rep a 31 [(3, .slice (some ⟨b54, 0, none⟩) x52.length x52.length)] ∧ St w s67 (nestC 29 3 1 (some ⟨b54, 0, none⟩) x52.length x52.length ds74 :: pt b51 (.cells #[.int .i64 x0.Period, .int .i64 x0.Events, .slice a0_0 x0.Rules.length c0_0] 24 (0, 0)) :: R)) ?_ ?_
  · refine W.block ?_
    refine W.loop (fun m a w => ∃ (rest62 : Nat) (k60 : Nat), ∃ (q70 : List (List Int)), ∃ (ds74 : List In), ∃ (s67 : Sg), rest62 = m ∧ k60 + rest62 = x52.length ∧ s.Le s67 ∧ Fishref2free.loop1 x0 fu rest62 k60 q70 = some q59 ∧ NEv 1 (RI .i64) s67 ds74 q70 ∧ q70.length = x52.length ∧ Rep a 31 [(1, .pointer (some ⟨b51, 0, none⟩)), (3, .slice (some ⟨b54, 0, none⟩) x52.length x52.length), (9, .int .i64 ((x52.length : Nat) : Int)), (10, .int .i64 ((k60 : Nat) : Int))] ∧ St w s67 (nestC 29 3 1 (some ⟨b54, 0, none⟩) x52.length x52.length ds74 :: pt b51 (.cells #[.int .i64 x0.Period, .int .i64 x0.Events, .slice a0_0 x0.Rules.length c0_0] 24 (0, 0)) :: R)) (m := x52.length) ⟨x52.length, 0, x52, ds55, s, rfl, by omega, (Sg.Le.refl _), hq58, h56, (rfl), hE.pick _ ⟨rfl, rfl, rfl, rfl, trivial⟩, hS⟩ ?_
    clear hE hS a w hq58; rintro m66 a w ⟨rest62, k60, q70, ds74, s67, rfl, hd63, hle68, hq58, h75, hn76, hE, hS⟩
    refine W.gen fun K77 hK77 => ?_
    replace h0_0 := Sl.mono RPlanRule.mono hle68 h0_0
    replace h56 := NEv.mono RI.mono hle68 h56
    rcases rest62 with _ | rest62
    · skip
      refine W.seq ?_
      refine W.region ?_
      refine WL.vS hS hE (runs_plain rfl) (Gives.p hE rfl) rfl ?_; clear hE a; intro a hE
      refine WL.nil ?_
      refine W.seq ?_
      refine W.condF hE rfl (decide_eq_false (by omega)) ?_
      subst hK77
      refine W.exit rfl ?_
      exact ⟨q70, ds74, s67, hle68, Option.some.inj hq58, h75, hn76, hE.pick _ ⟨rfl, trivial⟩, hS⟩
    · have hlt64 : k60 < x52.length := by omega
      rw [Fishref2free.loop1] at hq58
      refine W.seq ?_
      refine W.region ?_
      refine WL.vS hS hE (runs_plain rfl) (Gives.p hE rfl) rfl ?_; clear hE a; intro a hE
      refine WL.nil ?_
      refine W.seq ?_
      refine W.condT hE rfl (decide_eq_true (by omega)) ?_
      refine W.skip ?_
      refine W.seq ?_
      refine W.block ?_
      refine W.seq ?_
      refine W.region ?_
      refine WL.vS hS hE (runs_plain rfl) (Gives.p hE rfl) rfl ?_; clear hE a; intro a hE
      refine WL.vS hS hE (runs_plain rfl) (Gives.p hE rfl) rfl ?_; clear hE a; intro a hE
      refine WL.nil ?_
      refine W.seq ?_
      refine W.region ?_
      refine WL.vS hS hE (runs_plain rfl) (Gives.p hE rfl) rfl ?_; clear hE a; intro a hE
      refine WL.vS hS hE (runs_plain rfl) (Gives.p hE rfl) rfl ?_; clear hE a; intro a hE
      refine WL.vS hS hE (runs_plain rfl) (Gives.fld hE rfl fl24_0) rfl ?_; clear hE a; intro a hE
      refine WL.vS hS hE (runs_plain rfl) (Gives.loadB hE 1 rfl rfl rfl ty3) rfl ?_; clear hE a; intro a hE
      refine WL.vS hS hE (runs_plain rfl) (Gives.p hE rfl) rfl ?_; clear hE a; intro a hE
      refine WL.lit hE hS (e := 3) (es := 1) (vs := [(0, .int .i64 (w64 (x0.Period - 1)))]) (cs := [.int .i64 (w64 (x0.Period - 1))]) (runs_plain rfl) rfl (by kernel_rfl) rfl ?_; clear hE hS a w; intro b78 a w hE hS
      replace hS := hS.ptVec (es := 1) (m := 1) rfl (by decide)
      have h80 : Ev 1 (RI .i64) s67 [.int .i64 (w64 (x0.Period - 1))] [w64 (x0.Period - 1)] := (Ev.cons (c1 := [.int .i64 (w64 (x0.Period - 1))]) rfl rfl (Ev.nil))
      have hF := hS.fixD RI.mono 0 rfl h80 (rfl); clear hS; obtain ⟨s81, hle82, hS, h83⟩ := hF
      replace h75 := NEv.mono RI.mono hle82 h75
      replace h0_0 := Sl.mono RPlanRule.mono hle82 h0_0
      refine WL.vS hS hE (runs_plain rfl) (Gives.fld hE rfl fl24_1) rfl ?_; clear hE a; intro a hE
      refine WL.vS hS hE (runs_plain rfl) (Gives.loadB hE 1 rfl rfl rfl ty3) rfl ?_; clear hE a; intro a hE
      obtain ⟨q84, hq85, hq58⟩ := bindS hq58
      have hc_ := SlicesRepeatLint_ok hS h83 hq85
      refine WL.fnq hE (hc_) (runs_plain rfl) bd67 rfl rfl rfl ?_
      clear hE hS hc_; rintro e w ⟨a86, c87, n88, cs89, rfl, h90, rfl, hS⟩; refine ⟨_, rfl, ?_⟩; clear a; intro a hE
      obtain ⟨_, hx92, hq58⟩ := bindS hq58
      obtain ⟨h93, h94⟩ := ix_some hx92
      refine WL.vS hS hE (runs_plain rfl) (Gives.idx hE ((((k60 : Nat) : Int)).toNat) rfl rfl sl87 h93 (by have := hn76; omega) (hS.nAok 1 rfl (by have := hn76; omega : (((k60 : Nat) : Int)).toNat < x52.length))) rfl ?_; clear hE a; intro a hE
      obtain ⟨d95, hd96⟩ : ∃ d, ds74[(((k60 : Nat) : Int)).toNat]? = some d := ⟨_, List.getElem?_eq_getElem (by have h1 := h75.len; have h2 := hn76; omega)⟩
      replace hS := (hS.borrow 1 rfl hd96).tail
      obtain ⟨x97, hx98, hq58⟩ := bindS hq58
      refine WL.storeND hE hS 0 rfl (runs_plain rfl) rfl rfl ty29 h75 hn76 (by have := (sx_some hx98).1; omega) hx98 h90 rfl rfl ?_; clear hE hS a w; intro ds99 a w h100 hn101 hE hS
      refine WL.nil ?_
      refine W.region ?_
      refine WL.vS hS hE (runs_plain rfl) (Gives.p hE rfl) rfl ?_; clear hE a; intro a hE
      refine WL.vS hS hE (runs_plain rfl) (Gives.p hE rfl) rfl ?_; clear hE a; intro a hE
      obtain ⟨x102, hx103, hq58⟩ := bindS hq58
      obtain ⟨hi104, hlt105, hy106⟩ := gx_some hx103
      obtain ⟨a107, c108, cs109, hd110, hev111⟩ := h100.at hy106
      refine WL.vS hS hE (runs_plain rfl) (Gives.idx hE ((((k60 : Nat) : Int)).toNat) rfl rfl sl87 hi104 (by have := hn101; omega) (hS.nAok 0 rfl (by have := hn101; omega : (((k60 : Nat) : Int)).toNat < x52.length))) rfl ?_; clear hE a; intro a hE
      refine WL.vS hS hE (runs_plain rfl) (Gives.load1 (v := .slice a107 x102.length c108) hE rfl (fun w h => St.nSees h 0 rfl hd110) ty29) rfl ?_; clear hE a; intro a hE
      refine WL.vS hS hE (runs_plain rfl) (Gives.p hE rfl) rfl ?_; clear hE a; intro a hE
      replace hS := hS.borrowM 0 rfl hd110
      obtain ⟨_, hx114, hq58⟩ := bindS hq58
      obtain ⟨h115, h116⟩ := ix_some hx114
      refine WL.vS hS hE (runs_plain rfl) (Gives.idx hE ((((k60 : Nat) : Int)).toNat) rfl rfl sl29 h115 (by omega) (hS.vecAok 0 rfl (by omega : (((k60 : Nat) : Int)).toNat < x102.length))) rfl ?_; clear hE a; intro a hE
      obtain ⟨x118, hx119, hq58⟩ := bindS hq58
      refine WL.setD hE hS 0 rfl (runs_plain rfl) rfl rfl (vs := [.int .i64 0]) rfl ty3 rfl rfl rfl hev111 (rfl) (sx_some hx119).1 hx119 rfl rfl ?_; clear hE hS a w; intro cs120 a w h121 hn122 hE hS
      refine WL.nil ?_
      refine W.region ?_
      refine WL.vS hS hE (runs_plain rfl) (Gives.inc hE rfl (by omega)) rfl ?_; clear hE a; intro a hE
      refine WL.vS hS hE (runs_plain rfl) (Gives.p hE rfl) rfl ?_; clear hE a; intro a hE
      refine WL.nil ?_
      replace hS := hS.giveBack 0 rfl hd110
      have h124 := h100.set (k := (((k60 : Nat) : Int)).toNat) (d := ⟨a107, c108, x102.length, cs120⟩) h121 hn122
      have hn125 : (x97.set ((((k60 : Nat) : Int)).toNat) x118).length = x52.length := by simp; exact hn101
      generalize List.set ds99 ((((k60 : Nat) : Int)).toNat) _ = ds123 at hS h124
      subst hK77
      exact ⟨rest62, Nat.lt_succ_self _, rest62, k60 + 1, (x97.set ((((k60 : Nat) : Int)).toNat) x118), ds123, s81, rfl, (by omega), (Sg.Le.trans hle68 hle82), hq58, h124, hn125, hE.pick _ ⟨rfl, rfl, rfl, rfl, trivial⟩, hS⟩
  · clear hE hS a w; rintro a w ⟨q70, ds74, s67, hle68, rfl, h75, hn76, hE, hS⟩
    replace h0_0 := Sl.mono RPlanRule.mono hle68 h0_0
    replace h56 := NEv.mono RI.mono hle68 h56
    refine W.seq ?_
    refine W.region ?_
    refine WL.vS hS hE (runs_plain rfl) (Gives.p hE rfl) rfl ?_; clear hE a; intro a hE
    refine WL.vS hS hE (runs_plain rfl) (Gives.p hE rfl) rfl ?_; clear hE a; intro a hE
    refine WL.nil ?_
    refine W.ret ?_
    have hF := hS.fixN RI.mono 0 rfl h75 hn76; clear hS; obtain ⟨s126, hle127, hS, h128⟩ := hF
    (try rw [← hn76] at hE)
    (try rw [← hn76] at hS)
    (try rw [← hn76] at h128)
    replace h0_0 := Sl.mono RPlanRule.mono hle127 h0_0
    refine finG (fn := Try.f55) (rs := [.tmp 2]) (vs := [_]) hE rfl ⟨rfl, trivial⟩ ?_
    obtain rfl := Option.some.inj hr
    replace hS := hS.tail
    exact ⟨(some ⟨b54, 0, none⟩), q70.length, s126, rfl, (Sg.Le.trans hle68 hle127), h128, hS⟩
set_option maxHeartbeats 8000000 in
theorem SlicesCloneLint_ok  {w : World} {s : Sg} {R : List HP} {x0 : List Int} {a0 : Option Addr} {c0 : Nat} (hS : St w s (R)) (h0 : Sl 1 (RI .i64) s a0 c0 x0) {r : (List Int)} (hr : SlicesCloneLint x0 = some r) :
    Calls Try.prog 60 [.slice a0 x0.length c0].toArray w (fun e w => ∃ (a0 : Option Addr) (c0 n0 : Nat) (cs0 : List Value), e = .returned (.slice a0 n0 c0) ∧ Ev 1 (RI .i64) s cs0 r ∧ r.length = n0 ∧ St w s (vecC 3 1 a0 c0 n0 cs0 :: R)) := by
  refine enter Try.func60 rfl rfl rfl fun a hE => ?_
  rw [SlicesCloneLint] at hr
  refine W.seq ?_
  refine W.region ?_
  refine WL.vS hS hE (runs_plain rfl) (Gives.p hE rfl) rfl ?_; clear hE a; intro a hE
  refine WL.nil ?_
  refine W.seq ?_
  refine W.seq ?_
  refine W.region ?_
  refine WL.vS hS hE (runs_plain rfl) (Gives.p hE rfl) rfl ?_; clear hE a; intro a hE
  refine WL.vS hS hE (runs_plain rfl) (Gives.isNil hE rfl rfl isl29) rfl ?_; clear hE a; intro a hE
  refine WL.nil ?_
  rcases a0 with _ | g51
  · obtain rfl := h0.none_nil
    replace hr : some [] = _ := hr
    refine W.condT hE rfl rfl ?_
    refine W.seq ?_
    refine W.region ?_
    refine WL.vS hS hE (runs_plain rfl) (Gives.p hE rfl) rfl ?_; clear hE a; intro a hE
    refine WL.nil ?_
    refine W.ret ?_
    replace hS := hS.vecNil 3 1
    refine finG (fn := Try.f60) (rs := [.tmp 2]) (vs := [_]) hE rfl ⟨rfl, trivial⟩ ?_
    obtain rfl := Option.some.inj hr
    exact ⟨none, 0, 0, [], rfl, (Ev.nil), (rfl), hS⟩
  · skip
    refine W.condF hE rfl rfl ?_
    refine W.skip ?_
    refine W.seq ?_
    refine W.region ?_
    refine WL.lit hE hS (e := 3) (es := 1) (vs := []) (cs := []) (runs_plain rfl) rfl (by kernel_rfl) rfl ?_; clear hE hS a w; intro b53 a w hE hS
    replace hS := hS.ptVec (es := 1) (m := 0) rfl (by decide)
    have h55 : Ev 1 (RI .i64) s [] [] := (Ev.nil)
    refine WL.vS hS hE (runs_plain rfl) (Gives.p hE rfl) rfl ?_; clear hE a; intro a hE
    obtain ⟨x56, hx57, hr⟩ := bindS hr
    refine WL.appS hE hS 0 (runs_plain rfl) rfl rfl (xs := x0) rfl rfl ap29 RI.one h55 (rfl) h0 hx57 rfl ?_; clear hE hS a w; intro a58 c59 cs60 a w h61 hE hS
    refine WL.vS hS hE (runs_plain rfl) (Gives.p hE rfl) rfl ?_; clear hE a; intro a hE
    refine WL.nil ?_
    refine W.ret ?_
    refine finG (fn := Try.f60) (rs := [.tmp 2]) (vs := [_]) hE rfl ⟨rfl, trivial⟩ ?_
    obtain rfl := Option.some.inj hr
    exact ⟨a58, c59, x56.length, cs60, rfl, h61, (rfl), hS⟩
set_option maxHeartbeats 8000000 in
theorem Fishref2Boundstighter_ok  {w : World} {s : Sg} {R : List HP} {x0 : List (List Int)} {a0 : Option Addr} {c0 : Nat} {x1 : Int} {x2 : Int} {x3 : Int} (hS : St w s (R)) (h0 : Sl 1 (RL 1 (RI .i64)) s a0 c0 x0) {r : (List (List Int)) × Bool} (hr : Fishref2Boundstighter x0 x1 x2 x3 = some r) :
    Calls Try.prog 56 [.slice a0 x0.length c0, .int .i64 x1, .int .i64 x2, .int .i64 x3].toArray w (fun e w => ∃ (a0 : Option Addr) (c0 : Nat) (t : Sg), e = .returned (.tuple #[.slice a0 r.1.length c0, .bool r.2]) ∧ s.Le t ∧ Sl 1 (RL 1 (RI .i64)) t a0 c0 r.1 ∧ St w t (R)) := by
  refine enter Try.func56 rfl rfl rfl fun a hE => ?_
  rw [Fishref2Boundstighter] at hr
  refine W.seq ?_
  refine W.region ?_
  refine WL.vS hS hE (runs_plain rfl) (Gives.p hE rfl) rfl ?_; clear hE a; intro a hE
  refine WL.vS hS hE (runs_plain rfl) (Gives.p hE rfl) rfl ?_; clear hE a; intro a hE
  refine WL.nil ?_
  refine W.seq ?_
  refine W.seq ?_
  refine W.region ?_
  refine WL.vS hS hE (runs_plain rfl) (Gives.p hE rfl) rfl ?_; clear hE a; intro a hE
  refine WL.vS hS hE (runs_plain rfl) (Gives.p hE rfl) rfl ?_; clear hE a; intro a hE
  refine WL.vS hS hE (runs_plain rfl) (Gives.p hE rfl) rfl ?_; clear hE a; intro a hE
  obtain ⟨x51, hx52, hr⟩ := bindS hr
  obtain ⟨hi53, hlt54, hy55⟩ := gx_some hx52
  obtain ⟨cs56, hl57, hR58, hat59⟩ := h0.at hy55
  obtain ⟨a60, c61, rfl, h62⟩ := hR58
  refine WL.vS hS hE (runs_plain rfl) (Gives.idx hE (x1).toNat rfl rfl sl87 hi53 hlt54 (h0.aok hlt54)) rfl ?_; clear hE a; intro a hE
  refine WL.vS hS hE (runs_plain rfl) (Gives.load1 hE rfl (fun w h => hat59 w _ h) ty29) rfl ?_; clear hE a; intro a hE
  refine WL.vS hS hE (runs_plain rfl) (Gives.p hE rfl) rfl ?_; clear hE a; intro a hE
  obtain ⟨x63, hx64, hr⟩ := bindS hr
  obtain ⟨hi65, hlt66, hy67⟩ := gx_some hx64
  obtain ⟨cs68, hl69, hR70, hat71⟩ := h62.at hy67
  subst hR70
  refine WL.vS hS hE (runs_plain rfl) (Gives.idx hE (x2).toNat rfl rfl sl29 hi65 hlt66 (h62.aok hlt66)) rfl ?_; clear hE a; intro a hE
  refine WL.vS hS hE (runs_plain rfl) (Gives.load1 hE rfl (fun w h => hat71 w _ h) ty3) rfl ?_; clear hE a; intro a hE
  refine WL.vS hS hE (runs_plain rfl) (Gives.p hE rfl) rfl ?_; clear hE a; intro a hE
  refine WL.nil ?_
  refine W.cond hE rfl (fun hc72 => ?_) (fun hc72 => ?_)
  · replace hr := iteT hc72 hr
    refine W.seq ?_
    refine W.region ?_
    refine WL.vS hS hE (runs_plain rfl) (Gives.p hE rfl) rfl ?_; clear hE a; intro a hE
    refine WL.vS hS hE (runs_plain rfl) (Gives.p hE rfl) rfl ?_; clear hE a; intro a hE
    refine WL.vS hS hE (runs_plain rfl) (Gives.p hE rfl) rfl ?_; clear hE a; intro a hE
    refine WL.nil ?_
    refine W.ret ?_
    refine finG (fn := Try.f56) (rs := [.tmp 8, .tmp 9]) (vs := [_, _]) hE rfl ⟨rfl, rfl, trivial⟩ ?_
    obtain rfl := Option.some.inj hr
    exact ⟨a0, c0, s, rfl, (Sg.Le.refl _), h0, hS⟩
  · replace hr := iteF hc72 hr
    refine W.skip ?_
    refine W.seq ?_
    refine W.seq ?_
    refine W.region ?_
    refine WL.vS hS hE (runs_plain rfl) (Gives.p hE rfl) rfl ?_; clear hE a; intro a hE
    refine WL.vS hS hE (runs_plain rfl) (Gives.p hE rfl) rfl ?_; clear hE a; intro a hE
    refine WL.vS hS hE (runs_plain rfl) (Gives.p hE rfl) rfl ?_; clear hE a; intro a hE
    obtain ⟨x73, hx74, hr⟩ := bindS hr
    obtain ⟨hi75, hlt76, hy77⟩ := gx_some hx74
    obtain ⟨cs78, hl79, hR80, hat81⟩ := h0.at hy77
    obtain ⟨a82, c83, rfl, h84⟩ := hR80
    refine WL.vS hS hE (runs_plain rfl) (Gives.idx hE (x2).toNat rfl rfl sl87 hi75 hlt76 (h0.aok hlt76)) rfl ?_; clear hE a; intro a hE
    refine WL.vS hS hE (runs_plain rfl) (Gives.load1 hE rfl (fun w h => hat81 w _ h) ty29) rfl ?_; clear hE a; intro a hE
    refine WL.vS hS hE (runs_plain rfl) (Gives.p hE rfl) rfl ?_; clear hE a; intro a hE
    obtain ⟨x85, hx86, hr⟩ := bindS hr
    obtain ⟨hi87, hlt88, hy89⟩ := gx_some hx86
    obtain ⟨cs90, hl91, hR92, hat93⟩ := h84.at hy89
    subst hR92
    refine WL.vS hS hE (runs_plain rfl) (Gives.idx hE (x1).toNat rfl rfl sl29 hi87 hlt88 (h84.aok hlt88)) rfl ?_; clear hE a; intro a hE
    refine WL.vS hS hE (runs_plain rfl) (Gives.load1 hE rfl (fun w h => hat93 w _ h) ty3) rfl ?_; clear hE a; intro a hE
    refine WL.vS hS hE (runs_plain rfl) (Gives.p hE rfl) rfl ?_; clear hE a; intro a hE
    refine WL.vS hS hE (runs_plain rfl) (Gives.p hE rfl) rfl ?_; clear hE a; intro a hE
    refine WL.nil ?_
    refine W.cond hE rfl (fun hc94 => ?_) (fun hc94 => ?_)
    · replace hr := iteT hc94 hr
      refine W.seq ?_
      refine W.region ?_
      refine WL.vS hS hE (runs_plain rfl) (Gives.p hE rfl) rfl ?_; clear hE a; intro a hE
      refine WL.vS hS hE (runs_plain rfl) (Gives.p hE rfl) rfl ?_; clear hE a; intro a hE
      refine WL.nil ?_
      refine W.ret ?_
      refine finG (fn := Try.f56) (rs := [.tmp 8, .tmp 9]) (vs := [_, _]) hE rfl ⟨rfl, rfl, trivial⟩ ?_
      obtain rfl := Option.some.inj hr
      exact ⟨none, 0, s, rfl, (Sg.Le.refl _), Sl.nil, hS⟩
    · replace hr := iteF hc94 hr
      refine W.skip ?_
      refine W.seq ?_
      refine W.region ?_
      refine WL.vS hS hE (runs_plain rfl) (Gives.p hE rfl) rfl ?_; clear hE a; intro a hE
      refine WL.vS hS hE (runs_plain rfl) (Gives.len hE rfl sl87) rfl ?_; clear hE a; intro a hE
      obtain ⟨x95, hx96, hr⟩ := bindS hr
      refine WL.mkND (Rr := RI .i64) (Ti := 3) (es := 1) hE hS (runs_plain rfl) rfl rfl ap87 zr29 hx96 rfl ?_; clear hE hS a w; intro b97 ds98 a w h99 hE hS
      refine WL.vS hS hE (runs_plain rfl) (Gives.p hE rfl) rfl ?_; clear hE a; intro a hE
      refine WL.nil ?_
      refine W.seq ?_
      refine W.seq ?_
      refine W.region ?_
      refine WL.vS hS hE (runs_plain rfl) (Gives.p hE rfl) rfl ?_; clear hE a; intro a hE
      refine WL.vS hS hE (runs_plain rfl) (Gives.len hE rfl sl87) rfl ?_; clear hE a; intro a hE
      refine WL.vS hS hE (runs_plain rfl) (Gives.p hE rfl) rfl ?_; clear hE a; intro a hE
      refine WL.nil ?_
      obtain ⟨q102, hq101, hr⟩ := bindS hr
      refine W.cut (fun a w => ∃ (q112 : List (List Int)), ∃ (ds116 : List In), q112 = q102 ∧ NEv 1 (RI .i64) s ds116 q112 ∧ q112.length = x95.length ∧ Rep a 88 [(10, .slice (some ⟨b97, 0, none⟩) x95.length x95.length)] ∧ St w s (nestC 29 3 1 (some ⟨b97, 0, none⟩) x95.length x95.length ds116 :: R)) ?_ ?_
      · refine W.block ?_
        refine W.loop (fun m a w => ∃ (rest105 : List (List Int)) (k103 : Nat), ∃ (q112 : List (List Int)), ∃ (ds116 : List In), rest105.length = m ∧ x0.drop k103 = rest105 ∧ Fishref2Boundstighter.loop1 x0 x1 x2 x3 rest105 k103 q112 = some q102 ∧ NEv 1 (RI .i64) s ds116 q112 ∧ q112.length = x95.length ∧ Rep a 88 [(0, .slice a0 x0.length c0), (1, .int .i64 x1), (2, .int .i64 x2), (3, .int .i64 x3), (10, .slice (some ⟨b97, 0, none⟩) x95.length x95.length), (37, .int .i64 ((x0).length : Int)), (38, .int .i64 ((k103 : Nat) : Int))] ∧ St w s (nestC 29 3 1 (some ⟨b97, 0, none⟩) x95.length x95.length ds116 :: R)) (m := x0.length) ⟨x0, 0, x95, ds98, rfl, rfl, hq101, h99, (rfl), hE.pick _ ⟨rfl, rfl, rfl, rfl, rfl, rfl, rfl, trivial⟩, hS⟩ ?_
        clear hE hS a w hq101; rintro m109 a w ⟨rest105, k103, q112, ds116, rfl, hd106, hq101, h117, hn118, hE, hS⟩
        refine W.gen fun K119 hK119 => ?_
        rcases rest105 with _ | ⟨x104, rest105⟩
        · have hlt107 := drop_nil hd106
          refine W.seq ?_
          refine W.region ?_
          refine WL.vS hS hE (runs_plain rfl) (Gives.p hE rfl) rfl ?_; clear hE a; intro a hE
          refine WL.nil ?_
          refine W.seq ?_
          refine W.condF hE rfl (decide_eq_false (by omega)) ?_
          subst hK119
          refine W.exit rfl ?_
          exact ⟨q112, ds116, Option.some.inj hq101, h117, hn118, hE.pick _ ⟨rfl, trivial⟩, hS⟩
        · obtain ⟨hlt107, hx108, hd106⟩ := drop_cons hd106
          rw [Fishref2Boundstighter.loop1] at hq101
          refine W.seq ?_
          refine W.region ?_
          refine WL.vS hS hE (runs_plain rfl) (Gives.p hE rfl) rfl ?_; clear hE a; intro a hE
          refine WL.nil ?_
          refine W.seq ?_
          refine W.condT hE rfl (decide_eq_true (by omega)) ?_
          refine W.skip ?_
          refine W.seq ?_
          refine W.block ?_
          refine W.seq ?_
          refine W.region ?_
          refine WL.vS hS hE (runs_plain rfl) (Gives.p hE rfl) rfl ?_; clear hE a; intro a hE
          refine WL.vS hS hE (runs_plain rfl) (Gives.p hE rfl) rfl ?_; clear hE a; intro a hE
          refine WL.nil ?_
          refine W.seq ?_
          refine W.region ?_
          refine WL.vS hS hE (runs_plain rfl) (Gives.p hE rfl) rfl ?_; clear hE a; intro a hE
          refine WL.vS hS hE (runs_plain rfl) (Gives.p hE rfl) rfl ?_; clear hE a; intro a hE
          refine WL.vS hS hE (runs_plain rfl) (Gives.p hE rfl) rfl ?_; clear hE a; intro a hE
          refine WL.vS hS hE (runs_plain rfl) (Gives.p hE rfl) rfl ?_; clear hE a; intro a hE
          obtain ⟨cs120, hl121, hR122, hat123⟩ := h0.at hx108
          obtain ⟨a124, c125, rfl, h126⟩ := hR122
          refine WL.vS hS hE (runs_plain rfl) (Gives.idx hE k103 rfl rfl sl87 rfl hlt107 (h0.aok hlt107)) rfl ?_; clear hE a; intro a hE
          refine WL.vS hS hE (runs_plain rfl) (Gives.load1 hE rfl (fun w h => hat123 w _ h) ty29) rfl ?_; clear hE a; intro a hE
          obtain ⟨q127, hq128, hq101⟩ := bindS hq101
          have hc_ := SlicesCloneLint_ok hS h126 hq128
          refine WL.fnq hE (hc_) (runs_plain rfl) bd60 rfl rfl rfl ?_
          clear hE hS hc_; rintro e w ⟨a129, c130, n131, cs132, rfl, h133, rfl, hS⟩; refine ⟨_, rfl, ?_⟩; clear a; intro a hE
          obtain ⟨_, hx135, hq101⟩ := bindS hq101
          obtain ⟨h136, h137⟩ := ix_some hx135
          refine WL.vS hS hE (runs_plain rfl) (Gives.idx hE ((((k103 : Nat) : Int)).toNat) rfl rfl sl87 h136 (by have := hn118; omega) (hS.nAok 1 rfl (by have := hn118; omega : (((k103 : Nat) : Int)).toNat < x95.length))) rfl ?_; clear hE a; intro a hE
          obtain ⟨d138, hd139⟩ : ∃ d, ds116[(((k103 : Nat) : Int)).toNat]? = some d := ⟨_, List.getElem?_eq_getElem (by have h1 := h117.len; have h2 := hn118; omega)⟩
          replace hS := (hS.borrow 1 rfl hd139).tail
          obtain ⟨x140, hx141, hq101⟩ := bindS hq101
          refine WL.storeND hE hS 0 rfl (runs_plain rfl) rfl rfl ty29 h117 hn118 (by have := (sx_some hx141).1; omega) hx141 h133 rfl rfl ?_; clear hE hS a w; intro ds142 a w h143 hn144 hE hS
          refine WL.nil ?_
          refine W.seq ?_
          refine W.region ?_
          refine WL.vS hS hE (runs_plain rfl) (Gives.p hE rfl) rfl ?_; clear hE a; intro a hE
          refine WL.vS hS hE (runs_plain rfl) (Gives.len hE rfl sl87) rfl ?_; clear hE a; intro a hE
          refine WL.vS hS hE (runs_plain rfl) (Gives.p hE rfl) rfl ?_; clear hE a; intro a hE
          refine WL.nil ?_
          obtain ⟨q146, hq145, hq101⟩ := bindS hq101
          refine W.cut (fun a w => ∃ (q156 : List (List Int)), ∃ (ds160 : List In), q156 = q146 ∧ NEv 1 (RI .i64) s ds160 q156 ∧ q156.length = x95.length ∧ Rep a 88 [(0, .slice a0 x0.length c0), (1, .int .i64 x1), (2, .int .i64 x2), (3, .int .i64 x3), (10, .slice (some ⟨b97, 0, none⟩) x95.length x95.length), (37, .int .i64 ((x0).length : Int)), (38, .int .i64 ((k103 : Nat) : Int))] ∧ St w s (nestC 29 3 1 (some ⟨b97, 0, none⟩) x95.length x95.length ds160 :: R)) ?_ ?_
          · refine W.block ?_
            refine W.loop (fun m a w => ∃ (rest149 : List (List Int)) (k147 : Nat), ∃ (q156 : List (List Int)), ∃ (ds160 : List In), rest149.length = m ∧ x0.drop k147 = rest149 ∧ Fishref2Boundstighter.loop2 x0 x1 x2 x3 x104 k103 rest149 k147 q156 = some q146 ∧ NEv 1 (RI .i64) s ds160 q156 ∧ q156.length = x95.length ∧ Rep a 88 [(0, .slice a0 x0.length c0), (1, .int .i64 x1), (2, .int .i64 x2), (3, .int .i64 x3), (10, .slice (some ⟨b97, 0, none⟩) x95.length x95.length), (11, .int .i64 ((k103 : Nat) : Int)), (37, .int .i64 ((x0).length : Int)), (38, .int .i64 ((k103 : Nat) : Int)), (50, .int .i64 ((x0).length : Int)), (51, .int .i64 ((k147 : Nat) : Int))] ∧ St w s (nestC 29 3 1 (some ⟨b97, 0, none⟩) x95.length x95.length ds160 :: R)) (m := x0.length) ⟨x0, 0, x140, ds142, rfl, rfl, hq145, h143, hn144, hE.pick _ ⟨rfl, rfl, rfl, rfl, rfl, rfl, rfl, rfl, rfl, rfl, trivial⟩, hS⟩ ?_
            clear hE hS a w hq145; rintro m153 a w ⟨rest149, k147, q156, ds160, rfl, hd150, hq145, h161, hn162, hE, hS⟩
            refine W.gen fun K163 hK163 => ?_
            rcases rest149 with _ | ⟨x148, rest149⟩
            · have hlt151 := drop_nil hd150
              refine W.seq ?_
              refine W.region ?_
              refine WL.vS hS hE (runs_plain rfl) (Gives.p hE rfl) rfl ?_; clear hE a; intro a hE
              refine WL.nil ?_
              refine W.seq ?_
              refine W.condF hE rfl (decide_eq_false (by omega)) ?_
              subst hK163
              refine W.exit rfl ?_
              exact ⟨q156, ds160, Option.some.inj hq145, h161, hn162, hE.pick _ ⟨rfl, rfl, rfl, rfl, rfl, rfl, rfl, trivial⟩, hS⟩
            · obtain ⟨hlt151, hx152, hd150⟩ := drop_cons hd150
              rw [Fishref2Boundstighter.loop2] at hq145
              refine W.seq ?_
              refine W.region ?_
              refine WL.vS hS hE (runs_plain rfl) (Gives.p hE rfl) rfl ?_; clear hE a; intro a hE
              refine WL.nil ?_
              refine W.seq ?_
              refine W.condT hE rfl (decide_eq_true (by omega)) ?_
              refine W.skip ?_
              refine W.seq ?_
              refine W.block ?_
              refine W.seq ?_
              refine W.region ?_
              refine WL.vS hS hE (runs_plain rfl) (Gives.p hE rfl) rfl ?_; clear hE a; intro a hE
              refine WL.vS hS hE (runs_plain rfl) (Gives.p hE rfl) rfl ?_; clear hE a; intro a hE
              refine WL.nil ?_
              refine W.gen fun K164 hK164 => ?_
              refine W.regionE (sel (fun w => St w s (nestC 29 3 1 (some ⟨b97, 0, none⟩) x95.length x95.length ds160 :: R)) (fun w => St w s (R))) (fun b i => cond b ([0, 1, 2, 3, 4, 5, 6, 7, 8, 9, 10, 11, 12, 13, 14, 15, 16, 17, 18, 19, 20, 21, 22, 23, 24, 25, 26, 27, 28, 29].contains i) ([0, 1, 2, 3, 4, 5, 6, 7, 8, 9, 10, 11, 12, 13, 14, 15, 16, 17, 18, 19, 20, 21, 22, 23, 24, 25, 26, 27, 28, 29, 30, 31].contains i)) mixed ?_
              replace hS := hS.drew
              refine Rg.takeP (i := 0) hE rfl (by kernel_rfl) (runs_plain rfl) (Gives.p hE rfl) rfl (tw_sel (fun _ => hS) (fun _ => (hS.tail))) ?_; clear hE a; intro a hE
              refine Rg.takeP (i := 1) hE rfl (by kernel_rfl) (runs_plain rfl) (Gives.p hE rfl) rfl (tw_sel (fun _ => hS) (fun _ => (hS.tail))) ?_; clear hE a; intro a hE
              obtain ⟨x165, hx166, hq145⟩ := bindS hq145
              obtain ⟨hi167, hlt168, hy169⟩ := gx_some hx166
              obtain ⟨a170, c171, cs172, hd173, hev174⟩ := h161.at hy169
              refine Rg.takeP (i := 2) hE rfl (by kernel_rfl) (runs_plain rfl) (Gives.idx hE ((((k103 : Nat) : Int)).toNat) rfl rfl sl87 hi167 (by have := hn162; omega) (hS.nAok 0 rfl (by have := hn162; omega : (((k103 : Nat) : Int)).toNat < x95.length))) rfl (tw_sel (fun _ => hS) (fun _ => (hS.tail))) ?_; clear hE a; intro a hE
              have hT := tw_sel (A := fun w => St w s (nestC 29 3 1 (some ⟨b97, 0, none⟩) x95.length x95.length ds160 :: R)) (B := fun w => St w s (R)) (w := _) (x := true) (y := true) (fun _ => hS) (fun _ => (hS.tail))
              have hF := hS; replace hS := hS
              refine Rg.take (i := 3) true rfl hE rfl (by kernel_rfl) (runs_plain rfl) (Gives.load1 (v := .slice a170 x165.length c171) hE rfl (fun w h => St.nSees h 0 rfl hd173) ty29) rfl hT ?_; clear hE a; intro a hE
              replace hS := hF; clear hF hT
              refine Rg.takeP (i := 4) hE rfl (by kernel_rfl) (runs_plain rfl) (Gives.p hE rfl) rfl (tw_sel (fun _ => hS) (fun _ => (hS.tail))) ?_; clear hE a; intro a hE
              refine Rg.takeP (i := 5) hE rfl (by kernel_rfl) (runs_plain rfl) (Gives.p hE rfl) rfl (tw_sel (fun _ => hS) (fun _ => (hS.tail))) ?_; clear hE a; intro a hE
              refine Rg.takeP (i := 6) hE rfl (by kernel_rfl) (runs_plain rfl) (Gives.p hE rfl) rfl (tw_sel (fun _ => hS) (fun _ => (hS.tail))) ?_; clear hE a; intro a hE
              obtain ⟨x175, hx176, hq145⟩ := bindS hq145
              obtain ⟨hi177, hlt178, hy179⟩ := gx_some hx176
              obtain ⟨a180, c181, cs182, hd183, hev184⟩ := h161.at hy179
              refine Rg.takeP (i := 7) hE rfl (by kernel_rfl) (runs_plain rfl) (Gives.idx hE ((((k103 : Nat) : Int)).toNat) rfl rfl sl87 hi177 (by have := hn162; omega) (hS.nAok 0 rfl (by have := hn162; omega : (((k103 : Nat) : Int)).toNat < x95.length))) rfl (tw_sel (fun _ => hS) (fun _ => (hS.tail))) ?_; clear hE a; intro a hE
              have hT := tw_sel (A := fun w => St w s (nestC 29 3 1 (some ⟨b97, 0, none⟩) x95.length x95.length ds160 :: R)) (B := fun w => St w s (R)) (w := _) (x := true) (y := true) (fun _ => hS) (fun _ => (hS.tail))
              have hF := hS; replace hS := hS
              refine Rg.take (i := 8) true rfl hE rfl (by kernel_rfl) (runs_plain rfl) (Gives.load1 (v := .slice a180 x175.length c181) hE rfl (fun w h => St.nSees h 0 rfl hd183) ty29) rfl hT ?_; clear hE a; intro a hE
              replace hS := hF; clear hF hT
              refine Rg.takeP (i := 9) hE rfl (by kernel_rfl) (runs_plain rfl) (Gives.p hE rfl) rfl (tw_sel (fun _ => hS) (fun _ => (hS.tail))) ?_; clear hE a; intro a hE
              obtain ⟨x185, hx186, hq145⟩ := bindS hq145
              obtain ⟨hi187, hlt188, hy189⟩ := gx_some hx186
              obtain ⟨vs190, hl191, hR192, hd193, hget194⟩ := hev184.at hy189
              subst hR192
              refine Rg.takeP (i := 10) hE rfl (by kernel_rfl) (runs_plain rfl) (Gives.idx hE ((((k147 : Nat) : Int)).toNat) rfl rfl sl29 hi187 hlt188 (hS.nnAok 0 rfl hd183 hlt188)) rfl (tw_sel (fun _ => hS) (fun _ => (hS.tail))) ?_; clear hE a; intro a hE
              have hT := tw_sel (A := fun w => St w s (nestC 29 3 1 (some ⟨b97, 0, none⟩) x95.length x95.length ds160 :: R)) (B := fun w => St w s (R)) (w := _) (x := true) (y := true) (fun _ => hS) (fun _ => (hS.tail))
              have hF := hS; replace hS := hS
              refine Rg.take (i := 11) true rfl hE rfl (by kernel_rfl) (runs_plain rfl) (Gives.load1 hE rfl (fun w h => St.nnSees h 0 rfl hd183 ((((k147 : Nat) : Int)).toNat * 1) _ hget194) ty3) rfl hT ?_; clear hE a; intro a hE
              replace hS := hF; clear hF hT
              refine Rg.takeP (i := 12) hE rfl (by kernel_rfl) (runs_plain rfl) (Gives.p hE rfl) rfl (tw_sel (fun _ => hS) (fun _ => (hS.tail))) ?_; clear hE a; intro a hE
              refine Rg.takeP (i := 13) hE rfl (by kernel_rfl) (runs_plain rfl) (Gives.p hE rfl) rfl (tw_sel (fun _ => hS) (fun _ => (hS.tail))) ?_; clear hE a; intro a hE
              refine Rg.takeP (i := 14) hE rfl (by kernel_rfl) (runs_plain rfl) (Gives.idx hE k103 rfl rfl sl87 rfl hlt107 (h0.aok hlt107)) rfl (tw_sel (fun _ => hS) (fun _ => (hS.tail))) ?_; clear hE a; intro a hE
              have hT := tw_sel (A := fun w => St w s (nestC 29 3 1 (some ⟨b97, 0, none⟩) x95.length x95.length ds160 :: R)) (B := fun w => St w s (R)) (w := _) (x := true) (y := true) (fun _ => hS) (fun _ => (hS.tail))
              have hF := hS; replace hS := hS
              refine Rg.take (i := 15) true rfl hE rfl (by kernel_rfl) (runs_plain rfl) (Gives.load1 hE rfl (fun w h => hat123 w _ h) ty29) rfl hT ?_; clear hE a; intro a hE
              replace hS := hF; clear hF hT
              refine Rg.takeP (i := 16) hE rfl (by kernel_rfl) (runs_plain rfl) (Gives.p hE rfl) rfl (tw_sel (fun _ => hS) (fun _ => (hS.tail))) ?_; clear hE a; intro a hE
              obtain ⟨x195, hx196, hq145⟩ := bindS hq145
              obtain ⟨hi197, hlt198, hy199⟩ := gx_some hx196
              obtain ⟨cs200, hl201, hR202, hat203⟩ := h126.at hy199
              subst hR202
              refine Rg.takeP (i := 17) hE rfl (by kernel_rfl) (runs_plain rfl) (Gives.idx hE (x1).toNat rfl rfl sl29 hi197 hlt198 (h126.aok hlt198)) rfl (tw_sel (fun _ => hS) (fun _ => (hS.tail))) ?_; clear hE a; intro a hE
              have hT := tw_sel (A := fun w => St w s (nestC 29 3 1 (some ⟨b97, 0, none⟩) x95.length x95.length ds160 :: R)) (B := fun w => St w s (R)) (w := _) (x := true) (y := true) (fun _ => hS) (fun _ => (hS.tail))
              have hF := hS; replace hS := hS
              refine Rg.take (i := 18) true rfl hE rfl (by kernel_rfl) (runs_plain rfl) (Gives.load1 hE rfl (fun w h => hat203 w _ h) ty3) rfl hT ?_; clear hE a; intro a hE
              replace hS := hF; clear hF hT
              refine Rg.takeP (i := 19) hE rfl (by kernel_rfl) (runs_plain rfl) (Gives.p hE rfl) rfl (tw_sel (fun _ => hS) (fun _ => (hS.tail))) ?_; clear hE a; intro a hE
              refine Rg.takeP (i := 20) hE rfl (by kernel_rfl) (runs_plain rfl) (Gives.p hE rfl) rfl (tw_sel (fun _ => hS) (fun _ => (hS.tail))) ?_; clear hE a; intro a hE
              refine Rg.takeP (i := 21) hE rfl (by kernel_rfl) (runs_plain rfl) (Gives.p hE rfl) rfl (tw_sel (fun _ => hS) (fun _ => (hS.tail))) ?_; clear hE a; intro a hE
              refine Rg.takeP (i := 22) hE rfl (by kernel_rfl) (runs_plain rfl) (Gives.p hE rfl) rfl (tw_sel (fun _ => hS) (fun _ => (hS.tail))) ?_; clear hE a; intro a hE
              obtain ⟨x204, hx205, hq145⟩ := bindS hq145
              obtain ⟨hi206, hlt207, hy208⟩ := gx_some hx205
              obtain ⟨cs209, hl210, hR211, hat212⟩ := h0.at hy208
              obtain ⟨a213, c214, rfl, h215⟩ := hR211
              refine Rg.takeP (i := 23) hE rfl (by kernel_rfl) (runs_plain rfl) (Gives.idx hE (x2).toNat rfl rfl sl87 hi206 hlt207 (h0.aok hlt207)) rfl (tw_sel (fun _ => hS) (fun _ => (hS.tail))) ?_; clear hE a; intro a hE
              have hT := tw_sel (A := fun w => St w s (nestC 29 3 1 (some ⟨b97, 0, none⟩) x95.length x95.length ds160 :: R)) (B := fun w => St w s (R)) (w := _) (x := true) (y := true) (fun _ => hS) (fun _ => (hS.tail))
              have hF := hS; replace hS := hS
              refine Rg.take (i := 24) true rfl hE rfl (by kernel_rfl) (runs_plain rfl) (Gives.load1 hE rfl (fun w h => hat212 w _ h) ty29) rfl hT ?_; clear hE a; intro a hE
              replace hS := hF; clear hF hT
              refine Rg.takeP (i := 25) hE rfl (by kernel_rfl) (runs_plain rfl) (Gives.p hE rfl) rfl (tw_sel (fun _ => hS) (fun _ => (hS.tail))) ?_; clear hE a; intro a hE
              obtain ⟨x216, hx217, hq145⟩ := bindS hq145
              obtain ⟨hi218, hlt219, hy220⟩ := gx_some hx217
              obtain ⟨cs221, hl222, hR223, hat224⟩ := h215.at hy220
              subst hR223
              refine Rg.takeP (i := 26) hE rfl (by kernel_rfl) (runs_plain rfl) (Gives.idx hE (((k147 : Nat) : Int)).toNat rfl rfl sl29 hi218 hlt219 (h215.aok hlt219)) rfl (tw_sel (fun _ => hS) (fun _ => (hS.tail))) ?_; clear hE a; intro a hE
              have hT := tw_sel (A := fun w => St w s (nestC 29 3 1 (some ⟨b97, 0, none⟩) x95.length x95.length ds160 :: R)) (B := fun w => St w s (R)) (w := _) (x := true) (y := true) (fun _ => hS) (fun _ => (hS.tail))
              have hF := hS; replace hS := hS
              refine Rg.take (i := 27) true rfl hE rfl (by kernel_rfl) (runs_plain rfl) (Gives.load1 hE rfl (fun w h => hat224 w _ h) ty3) rfl hT ?_; clear hE a; intro a hE
              replace hS := hF; clear hF hT
              refine Rg.takeP (i := 28) hE rfl (by kernel_rfl) (runs_plain rfl) (Gives.p hE rfl) rfl (tw_sel (fun _ => hS) (fun _ => (hS.tail))) ?_; clear hE a; intro a hE
              refine Rg.takeP (i := 29) hE rfl (by kernel_rfl) (runs_plain rfl) (Gives.min2 hE rfl rfl) rfl (tw_sel (fun _ => hS) (fun _ => (hS.tail))) ?_; clear hE a; intro a hE
              refine Rg.one (i := 30) false true rfl (by kernel_rfl) (by kernel_rfl) (by kernel_rfl) ?_
              replace hS := hS.borrowM 0 rfl hd173
              obtain ⟨_, hx227, hq145⟩ := bindS hq145
              obtain ⟨h228, h229⟩ := ix_some hx227
              refine WL.vS hS hE (runs_plain rfl) (Gives.idx hE ((((k147 : Nat) : Int)).toNat) rfl rfl sl29 h228 (by omega) (hS.vecAok 0 rfl (by omega : (((k147 : Nat) : Int)).toNat < x165.length))) rfl ?_; clear hE a; intro a hE
              refine WL.nil ?_
              refine ⟨⟨fun h => absurd h (by decide), fun _ => ((hS.tail).tail)⟩, ?_⟩
              refine Rg.one (i := 31) false true rfl (by kernel_rfl) (by kernel_rfl) (by kernel_rfl) ?_
              obtain ⟨x231, hx232, hq145⟩ := bindS hq145
              refine WL.setD hE hS 0 rfl (runs_plain rfl) rfl rfl (vs := [.int .i64 (mn x185 (w64 ((w64 (x195 + x3)) + x216)))]) rfl ty3 rfl rfl rfl hev174 (rfl) (sx_some hx232).1 hx232 rfl rfl ?_; clear hE hS a w; intro cs233 a w h234 hn235 hE hS
              refine WL.nil ?_
              refine ⟨⟨fun h => absurd h (by decide), fun _ => ((hS.tail).tail)⟩, ?_⟩
              refine Rg.done (by kernel_rfl) ?_
              subst hK164
              refine W.region ?_
              refine WL.vS hS hE (runs_plain rfl) (Gives.inc hE rfl (by have := h0.small; omega)) rfl ?_; clear hE a; intro a hE
              refine WL.vS hS hE (runs_plain rfl) (Gives.p hE rfl) rfl ?_; clear hE a; intro a hE
              refine WL.nil ?_
              replace hS := hS.giveBack 0 rfl hd173
              have h237 := h161.set (k := (((k103 : Nat) : Int)).toNat) (d := ⟨a170, c171, x165.length, cs233⟩) h234 hn235
              have hn238 : (q156.set ((((k103 : Nat) : Int)).toNat) x231).length = x95.length := by simp; exact hn162
              generalize List.set ds160 ((((k103 : Nat) : Int)).toNat) _ = ds236 at hS h237
              subst hK163
              exact ⟨rest149.length, Nat.lt_succ_self _, rest149, k147 + 1, (q156.set ((((k103 : Nat) : Int)).toNat) x231), ds236, rfl, hd150, hq145, h237, hn238, hE.pick _ ⟨rfl, rfl, rfl, rfl, rfl, rfl, rfl, rfl, rfl, rfl, trivial⟩, hS⟩
          · clear hE hS a w; rintro a w ⟨q156, ds160, rfl, h161, hn162, hE, hS⟩
            refine W.region ?_
            refine WL.vS hS hE (runs_plain rfl) (Gives.inc hE rfl (by have := h0.small; omega)) rfl ?_; clear hE a; intro a hE
            refine WL.vS hS hE (runs_plain rfl) (Gives.p hE rfl) rfl ?_; clear hE a; intro a hE
            refine WL.nil ?_
            subst hK119
            exact ⟨rest105.length, Nat.lt_succ_self _, rest105, k103 + 1, q156, ds160, rfl, hd106, hq101, h161, hn162, hE.pick _ ⟨rfl, rfl, rfl, rfl, rfl, rfl, rfl, trivial⟩, hS⟩
      · clear hE hS a w; rintro a w ⟨q112, ds116, rfl, h117, hn118, hE, hS⟩
        refine W.seq ?_
        refine W.region ?_
        refine WL.vS hS hE (runs_plain rfl) (Gives.p hE rfl) rfl ?_; clear hE a; intro a hE
        refine WL.vS hS hE (runs_plain rfl) (Gives.p hE rfl) rfl ?_; clear hE a; intro a hE
        refine WL.vS hS hE (runs_plain rfl) (Gives.p hE rfl) rfl ?_; clear hE a; intro a hE
        refine WL.nil ?_
        refine W.ret ?_
        have hF := hS.fixN RI.mono 0 rfl h117 hn118; clear hS; obtain ⟨s239, hle240, hS, h241⟩ := hF
        (try rw [← hn118] at hE)
        (try rw [← hn118] at hS)
        (try rw [← hn118] at h241)
        refine finG (fn := Try.f56) (rs := [.tmp 8, .tmp 9]) (vs := [_, _]) hE rfl ⟨rfl, rfl, trivial⟩ ?_
        obtain rfl := Option.some.inj hr
        exact ⟨(some ⟨b97, 0, none⟩), q112.length, s239, rfl, hle240, h241, hS⟩
set_option maxHeartbeats 8000000 in
theorem Fishref2Solvable_1_ok  {w : World} {s : Sg} {R : List HP} {x0 : List (List Int)} {a0 : Option Addr} {c0 : Nat} (hS : St w s (R)) (_h0 : Sl 1 (RL 1 (RI .i64)) s a0 c0 x0) {r : Bool} (hr : Fishref2Solvable_1 x0 = r) :
    Calls Try.prog 57 [.slice a0 x0.length c0].toArray w (fun e w => e = .returned (.bool r) ∧ St w s (R)) := by
  refine enter Try.func57 rfl rfl rfl fun a hE => ?_
  rw [Fishref2Solvable_1] at hr
  refine W.seq ?_
  refine W.region ?_
  refine WL.vS hS hE (runs_plain rfl) (Gives.p hE rfl) rfl ?_; clear hE a; intro a hE
  refine WL.nil ?_
  refine W.seq ?_
  refine W.region ?_
  refine WL.vS hS hE (runs_plain rfl) (Gives.p hE rfl) rfl ?_; clear hE a; intro a hE
  refine WL.nil ?_
  refine W.ret ?_
  refine finG (fn := Try.f57) (rs := [.tmp 2]) (vs := [_]) hE rfl ⟨rfl, trivial⟩ ?_
  subst hr
  exact ⟨rfl, hS⟩
set_option maxHeartbeats 8000000 in
theorem SlicesCloneLplanRule_ok  {w : World} {s : Sg} {R : List HP} {x0 : List PlanRule} {a0 : Option Addr} {c0 : Nat} (hS : St w s (R)) (h0 : Sl 5 RPlanRule s a0 c0 x0) {r : (List PlanRule)} (hr : SlicesCloneLplanRule x0 = some r) :
    Calls Try.prog 84 [.slice a0 x0.length c0].toArray w (fun e w => ∃ (a0 : Option Addr) (c0 n0 : Nat) (cs0 : List Value), e = .returned (.slice a0 n0 c0) ∧ Ev 5 RPlanRule s cs0 r ∧ r.length = n0 ∧ St w s (vecC 37 5 a0 c0 n0 cs0 :: R)) := by
  refine enter Try.func84 rfl rfl rfl fun a hE => ?_
  rw [SlicesCloneLplanRule] at hr
  refine W.seq ?_
  refine W.region ?_
  refine WL.vS hS hE (runs_plain rfl) (Gives.p hE rfl) rfl ?_; clear hE a; intro a hE
  refine WL.nil ?_
  refine W.seq ?_
  refine W.seq ?_
  refine W.region ?_
  refine WL.vS hS hE (runs_plain rfl) (Gives.p hE rfl) rfl ?_; clear hE a; intro a hE
  refine WL.vS hS hE (runs_plain rfl) (Gives.isNil hE rfl rfl isl22) rfl ?_; clear hE a; intro a hE
  refine WL.nil ?_
  rcases a0 with _ | g51
  · obtain rfl := h0.none_nil
    replace hr : some [] = _ := hr
    refine W.condT hE rfl rfl ?_
    refine W.seq ?_
    refine W.region ?_
    refine WL.vS hS hE (runs_plain rfl) (Gives.p hE rfl) rfl ?_; clear hE a; intro a hE
    refine WL.nil ?_
    refine W.ret ?_
    replace hS := hS.vecNil 37 5
    refine finG (fn := Try.f84) (rs := [.tmp 2]) (vs := [_]) hE rfl ⟨rfl, trivial⟩ ?_
    obtain rfl := Option.some.inj hr
    exact ⟨none, 0, 0, [], rfl, (Ev.nil), (rfl), hS⟩
  · skip
    refine W.condF hE rfl rfl ?_
    refine W.skip ?_
    refine W.seq ?_
    refine W.region ?_
    refine WL.lit hE hS (e := 37) (es := 5) (vs := []) (cs := []) (runs_plain rfl) rfl (by kernel_rfl) rfl ?_; clear hE hS a w; intro b53 a w hE hS
    replace hS := hS.ptVec (es := 5) (m := 0) rfl (by decide)
    have h55 : Ev 5 RPlanRule s [] [] := (Ev.nil)
    refine WL.vS hS hE (runs_plain rfl) (Gives.p hE rfl) rfl ?_; clear hE a; intro a hE
    obtain ⟨x56, hx57, hr⟩ := bindS hr
    refine WL.appS hE hS 0 (runs_plain rfl) rfl rfl (xs := x0) rfl rfl ap22 RPlanRule.one h55 (rfl) h0 hx57 rfl ?_; clear hE hS a w; intro a58 c59 cs60 a w h61 hE hS
    refine WL.vS hS hE (runs_plain rfl) (Gives.p hE rfl) rfl ?_; clear hE a; intro a hE
    refine WL.nil ?_
    refine W.ret ?_
    refine finG (fn := Try.f84) (rs := [.tmp 2]) (vs := [_]) hE rfl ⟨rfl, trivial⟩ ?_
    obtain rfl := Option.some.inj hr
    exact ⟨a58, c59, x56.length, cs60, rfl, h61, (rfl), hS⟩
set_option maxHeartbeats 8000000 in
theorem SlicesDeleteLplanRule_v1_ok  {w : World} {s : Sg} {R : List HP} {x0 : List PlanRule} {a_v0 : Option Addr} {c_v0 n_v0 : Nat} {cs_v0 : List Value} {x1 : Int} {x2 : Int} (hS : St w s (vecC 37 5 a_v0 c_v0 n_v0 cs_v0 :: R)) (h_v0 : Ev 5 RPlanRule s cs_v0 x0) (hn_v0 : x0.length = n_v0) {r : (List PlanRule)} (hr : SlicesDeleteLplanRule_v1 x0 x1 x2 = some r) :
    Calls Try.prog 83 [.slice a_v0 n_v0 c_v0, .int .i64 x1, .int .i64 x2].toArray w (fun e w => ∃ (a0 : Option Addr) (c0 n0 : Nat) (cs0 : List Value), e = .returned (.slice a0 n0 c0) ∧ Ev 5 RPlanRule s cs0 r ∧ r.length = n0 ∧ St w s (vecC 37 5 a0 c0 n0 cs0 :: R)) := by
  refine enter Try.func83 rfl rfl rfl fun a hE => ?_
  rw [SlicesDeleteLplanRule_v1] at hr
  subst hn_v0
  refine W.seq ?_
  refine W.region ?_
  refine WL.vS hS hE (runs_plain rfl) (Gives.p hE rfl) rfl ?_; clear hE a; intro a hE
  refine WL.nil ?_
  refine W.seq ?_
  refine W.region ?_
  refine WL.vS hS hE (runs_plain rfl) (Gives.p hE rfl) rfl ?_; clear hE a; intro a hE
  refine WL.vS hS hE (runs_plain rfl) (Gives.p hE rfl) rfl ?_; clear hE a; intro a hE
  refine WL.vS hS hE (runs_plain rfl) (Gives.p hE rfl) rfl ?_; clear hE a; intro a hE
  refine WL.vS hS hE (runs_plain rfl) (Gives.p hE rfl) rfl ?_; clear hE a; intro a hE
  refine WL.vS hS hE (runs_plain rfl) (Gives.len hE rfl sl22) rfl ?_; clear hE a; intro a hE
  obtain ⟨x51, hx52, hr⟩ := bindS hr
  obtain ⟨h53, h54, h55, h56, h57, h58⟩ := cutl_some hx52
  have h59 := (hS.vecCap 0 rfl).1
  refine WL.vS hS hE (runs_plain rfl) (Gives.slLHM hE sl22 rfl rfl rfl rfl h53 h54 (by omega) (by omega) rfl) rfl ?_; clear hE a; intro a hE
  refine WL.nil ?_
  refine W.seq ?_
  refine W.seq ?_
  refine W.region ?_
  refine WL.vS hS hE (runs_plain rfl) (Gives.p hE rfl) rfl ?_; clear hE a; intro a hE
  refine WL.vS hS hE (runs_plain rfl) (Gives.p hE rfl) rfl ?_; clear hE a; intro a hE
  refine WL.vS hS hE (runs_plain rfl) (Gives.p hE rfl) rfl ?_; clear hE a; intro a hE
  refine WL.nil ?_
  refine W.cond hE rfl (fun hc60 => ?_) (fun hc60 => ?_)
  · replace hr := iteT hc60 hr
    refine W.seq ?_
    refine W.region ?_
    refine WL.vS hS hE (runs_plain rfl) (Gives.p hE rfl) rfl ?_; clear hE a; intro a hE
    refine WL.vS hS hE (runs_plain rfl) (Gives.p hE rfl) rfl ?_; clear hE a; intro a hE
    refine WL.nil ?_
    refine W.ret ?_
    refine finG (fn := Try.f83) (rs := [.tmp 6]) (vs := [_]) hE rfl ⟨rfl, trivial⟩ ?_
    obtain rfl := Option.some.inj hr
    exact ⟨a_v0, c_v0, x0.length, cs_v0, rfl, h_v0, (rfl), hS⟩
  · replace hr := iteF hc60 hr
    refine W.skip ?_
    refine W.seq ?_
    refine W.region ?_
    refine WL.vS hS hE (runs_plain rfl) (Gives.p hE rfl) rfl ?_; clear hE a; intro a hE
    refine WL.vS hS hE (runs_plain rfl) (Gives.len hE rfl sl22) rfl ?_; clear hE a; intro a hE
    refine WL.vS hS hE (runs_plain rfl) (Gives.p hE rfl) rfl ?_; clear hE a; intro a hE
    refine WL.nil ?_
    refine W.seq ?_
    refine W.gen fun K61 hK61 => ?_
    refine W.regionE (sel (fun w => St w s (R)) (fun w => St w s (R))) (fun b i => cond b ([0, 1, 2, 3, 4, 5, 6, 7].contains i) ([0, 1, 2, 3, 4, 5, 6, 7].contains i)) mixed ?_
    replace hS := hS.drew
    refine Rg.takeP (i := 0) hE rfl (by kernel_rfl) (runs_plain rfl) (Gives.p hE rfl) rfl (tw_sel (fun _ => (hS.tail)) (fun _ => (hS.tail))) ?_; clear hE a; intro a hE
    refine Rg.takeP (i := 1) hE rfl (by kernel_rfl) (runs_plain rfl) (Gives.p hE rfl) rfl (tw_sel (fun _ => (hS.tail)) (fun _ => (hS.tail))) ?_; clear hE a; intro a hE
    obtain ⟨x62, hx63, hr⟩ := bindS hr
    obtain ⟨h64, h65, h66, h67, h68, h69⟩ := cutl_some hx63
    have h70 := (hS.vecCap 0 rfl).1
    refine Rg.takeP (i := 2) hE rfl (by kernel_rfl) (runs_plain rfl) (Gives.slH hE sl22 rfl rfl h65 (Int.le_trans h66 (by omega)) rfl) rfl (tw_sel (fun _ => (hS.tail)) (fun _ => (hS.tail))) ?_; clear hE a; intro a hE
    refine Rg.takeP (i := 3) hE rfl (by kernel_rfl) (runs_plain rfl) (Gives.p hE rfl) rfl (tw_sel (fun _ => (hS.tail)) (fun _ => (hS.tail))) ?_; clear hE a; intro a hE
    refine Rg.takeP (i := 4) hE rfl (by kernel_rfl) (runs_plain rfl) (Gives.p hE rfl) rfl (tw_sel (fun _ => (hS.tail)) (fun _ => (hS.tail))) ?_; clear hE a; intro a hE
    obtain ⟨x71, hx72, hr⟩ := bindS hr
    obtain ⟨h73, h74, h75, h76, h77, h78⟩ := cutl_some hx72
    have h79 := (hS.vecCap 0 rfl).1
    refine Rg.takeP (i := 5) hE rfl (by kernel_rfl) (runs_plain rfl) (Gives.slL hE sl22 rfl rfl h73 (by omega) rfl) rfl (tw_sel (fun _ => (hS.tail)) (fun _ => (hS.tail))) ?_; clear hE a; intro a hE
    refine Rg.one (i := 6) true true rfl (by kernel_rfl) (by kernel_rfl) (by kernel_rfl) ?_
    obtain ⟨x80, hx81, hr⟩ := bndS hr
    have hz84 := (hS.vecCap 0 rfl).1
    have hz85 : x80.length + ((x2).toNat - (x1).toNat) = x0.length := by rw [← hx81]; simp; omega
    refine WL.del hE hS 0 (runs_plain rfl) ap22 rfl rfl rfl (by omega) (by omega) h_v0 (rfl) RPlanRule.one hx81 rfl ?_; clear hE hS a w; intro cs82 a w h83 hE hS
    refine WL.nil ?_
    refine ⟨⟨fun _ => (hS.tail), fun _ => (hS.tail)⟩, ?_⟩
    refine Rg.takeP (i := 7) hE rfl (by kernel_rfl) (runs_plain rfl) (Gives.p hE rfl) rfl (tw_sel (fun _ => (hS.tail)) (fun _ => (hS.tail))) ?_; clear hE a; intro a hE
    refine Rg.done (by kernel_rfl) ?_
    subst hK61
    refine W.seq ?_
    refine W.region ?_
    refine WL.vS hS hE (runs_plain rfl) (Gives.p hE rfl) rfl ?_; clear hE a; intro a hE
    refine WL.vS hS hE (runs_plain rfl) (Gives.p hE rfl) rfl ?_; clear hE a; intro a hE
    refine WL.vS hS hE (runs_plain rfl) (Gives.len hE rfl sl22) rfl ?_; clear hE a; intro a hE
    refine WL.vS hS hE (runs_plain rfl) (Gives.p hE rfl) rfl ?_; clear hE a; intro a hE
    refine WL.vS hS hE (runs_plain rfl) (Gives.slLH hE sl22 rfl rfl rfl (by omega) (by omega) (by omega) rfl) rfl ?_; clear hE a; intro a hE
    refine WL.clrS hE hS 0 (lo := x80.length) (hi := x0.length) (runs_plain rfl) cl22 rfl rfl (by omega) (by omega) (by omega) rfl ?_; clear hE hS a w; intro a w hE hS
    refine WL.nil ?_
    refine W.seq ?_
    refine W.region ?_
    refine WL.vS hS hE (runs_plain rfl) (Gives.p hE rfl) rfl ?_; clear hE a; intro a hE
    refine WL.vS hS hE (runs_plain rfl) (Gives.p hE rfl) rfl ?_; clear hE a; intro a hE
    refine WL.nil ?_
    refine W.ret ?_
    refine finG (fn := Try.f83) (rs := [.tmp 6]) (vs := [_]) hE rfl ⟨rfl, trivial⟩ ?_
    obtain rfl := Option.some.inj hr
    exact ⟨a_v0, c_v0, x80.length, cs82, rfl, h83, (rfl), hS⟩
set_option maxHeartbeats 8000000 in
theorem Fishref2shifts_v1_ok : ∀ {fu : Nat} {w : World} {s : Sg} {R : List HP} {x0 : PlanPeriodic} {a0_0 : Option Addr} {c0_0 : Nat} {x1 : List (List Int)} {a1 : Option Addr} {c1 : Nat} {x2 : List PlanRule} {a2 : Option Addr} {c2 : Nat} (_hS : St w s (R)) (_h0_0 : Sl 5 RPlanRule s a0_0 c0_0 x0.Rules) (_h1 : Sl 1 (RL 1 (RI .i64)) s a1 c1 x1) (_h2 : Sl 5 RPlanRule s a2 c2 x2) {r : Bool} (_hr : Fishref2shifts_v1 fu x0 x1 x2 = some r),
    Calls Try.prog 58 [.agg [.int .i64 x0.Period, .int .i64 x0.Events, .slice a0_0 x0.Rules.length c0_0].toArray, .slice a1 x1.length c1, .slice a2 x2.length c2, .func (.func 57) #[] #[], .func (.func 57) #[] #[]].toArray w (fun e w => e = .returned (.bool r) ∧ St w s (R)) := by
  intro fu
  induction fu with
  | zero => intro w s R x0 a0_0 c0_0 x1 a1 c1 x2 a2 c2 hS h0_0 h1 h2 r hr; rw [Fishref2shifts_v1] at hr; exact absurd hr (by simp)
  | succ fu ih_Fishref2shifts_v1 =>
    intro w s R x0 a0_0 c0_0 x1 a1 c1 x2 a2 c2 hS h0_0 h1 h2 r hr
    rw [Fishref2shifts_v1] at hr
    generalize Fishref2shifts_v1 fu = self_Fishref2shifts_v1 at hr ih_Fishref2shifts_v1
    refine enter Try.func58 rfl rfl rfl fun a hE => ?_
    refine W.seq ?_
    refine W.region ?_
    refine WL.box hE hS (runs_plain rfl) rfl rfl rfl ?_; clear hE hS a w; intro b51 a w hE hS
    refine WL.vS hS hE (runs_plain rfl) (Gives.p hE rfl) rfl ?_; clear hE a; intro a hE
    refine WL.nil ?_
    refine W.seq ?_
    refine W.seq ?_
    refine W.region ?_
    refine WL.vS hS hE (runs_plain rfl) (Gives.p hE rfl) rfl ?_; clear hE a; intro a hE
    refine WL.vS hS hE (runs_plain rfl) (Gives.p hE rfl) rfl ?_; clear hE a; intro a hE
    refine WL.fnw hE (Fishref2Solvable_1_ok hS h1 rfl (r := Fishref2Solvable_1 x1)) rfl (runs_plain rfl) bd57 rfl rfl rfl ?_
    clear hE hS; rintro e w ⟨rfl, hS⟩; refine ⟨_, rfl, ?_⟩; clear a; intro a hE
    refine WL.vS hS hE (runs_plain rfl) (Gives.p hE rfl) rfl ?_; clear hE a; intro a hE
    refine WL.nil ?_
    refine W.cond hE rfl (fun hc52 => ?_) (fun hc52 => ?_)
    · replace hr := iteT hc52 hr
      refine W.seq ?_
      refine W.region ?_
      refine WL.vS hS hE (runs_plain rfl) (Gives.p hE rfl) rfl ?_; clear hE a; intro a hE
      refine WL.nil ?_
      refine W.ret ?_
      refine finG (fn := Try.f58) (rs := [.tmp 10]) (vs := [_]) hE rfl ⟨rfl, trivial⟩ ?_
      obtain rfl := Option.some.inj hr
      replace hS := hS.tail
      exact ⟨rfl, hS⟩
    · replace hr := iteF hc52 hr
      refine W.skip ?_
      refine W.seq ?_
      refine W.seq ?_
      refine W.region ?_
      refine WL.vS hS hE (runs_plain rfl) (Gives.p hE rfl) rfl ?_; clear hE a; intro a hE
      refine WL.vS hS hE (runs_plain rfl) (Gives.len hE rfl sl22) rfl ?_; clear hE a; intro a hE
      refine WL.vS hS hE (runs_plain rfl) (Gives.p hE rfl) rfl ?_; clear hE a; intro a hE
      refine WL.nil ?_
      refine W.cond hE rfl (fun hc53 => ?_) (fun hc53 => ?_)
      · replace hr := iteT hc53 hr
        refine W.seq ?_
        refine W.region ?_
        refine WL.vS hS hE (runs_plain rfl) (Gives.p hE rfl) rfl ?_; clear hE a; intro a hE
        refine WL.vS hS hE (runs_plain rfl) (Gives.p hE rfl) rfl ?_; clear hE a; intro a hE
        refine WL.fnw hE (Fishref2Solvable_1_ok hS h1 rfl (r := Fishref2Solvable_1 x1)) rfl (runs_plain rfl) bd57 rfl rfl rfl ?_
        clear hE hS; rintro e w ⟨rfl, hS⟩; refine ⟨_, rfl, ?_⟩; clear a; intro a hE
        refine WL.vS hS hE (runs_plain rfl) (Gives.p hE rfl) rfl ?_; clear hE a; intro a hE
        refine WL.nil ?_
        refine W.ret ?_
        refine finG (fn := Try.f58) (rs := [.tmp 10]) (vs := [_]) hE rfl ⟨rfl, trivial⟩ ?_
        obtain rfl := Option.some.inj hr
        replace hS := hS.tail
        exact ⟨rfl, hS⟩
      · replace hr := iteF hc53 hr
        refine W.skip ?_
        refine W.seq ?_
        refine W.region ?_
        refine WL.vS hS hE (runs_plain rfl) (Gives.p hE rfl) rfl ?_; clear hE a; intro a hE
        refine WL.vS hS hE (runs_plain rfl) (Gives.p hE rfl) rfl ?_; clear hE a; intro a hE
        refine WL.nil ?_
        refine W.seq ?_
        refine W.seq ?_
        refine W.region ?_
        refine WL.vS hS hE (runs_plain rfl) (Gives.p hE rfl) rfl ?_; clear hE a; intro a hE
        refine WL.vS hS hE (runs_plain rfl) (Gives.len hE rfl sl22) rfl ?_; clear hE a; intro a hE
        refine WL.vS hS hE (runs_plain rfl) (Gives.p hE rfl) rfl ?_; clear hE a; intro a hE
        refine WL.nil ?_
        obtain ⟨q55, hq54, hr⟩ := bindS hr
        refine W.cut (fun a w => ∃ (q65 : Int), ∃ (q66 : List (List (List Int))), ∃ (a67 : Option Addr), ∃ (c68 : Nat), ∃ (s63 : Sg), s.Le s63 ∧ (.next (q65, q66)) = q55 ∧ Sl 1 (RL 1 (RL 1 (RI .i64))) s63 a67 c68 q66 ∧ Rep a 127 [(2, .slice a2 x2.length c2), (3, .func (.func 57) #[] #[]), (4, .func (.func 57) #[] #[]), (5, .pointer (some ⟨b51, 0, none⟩)), (11, .int .i64 q65), (12, .slice a67 q66.length c68)] ∧ St w s63 (pt b51 (.cells #[.int .i64 x0.Period, .int .i64 x0.Events, .slice a0_0 x0.Rules.length c0_0] 24 (0, 0)) :: R)) ?_ ?_
        · refine W.block ?_
          refine W.loop (fun m a w => ∃ (rest58 : List PlanRule) (k56 : Nat), ∃ (q65 : Int), ∃ (q66 : List (List (List Int))), ∃ (a67 : Option Addr), ∃ (c68 : Nat), ∃ (s63 : Sg), rest58.length = m ∧ x2.drop k56 = rest58 ∧ s.Le s63 ∧ Fishref2shifts_v1.loop1 x0 x1 fu rest58 k56 q65 q66 = some q55 ∧ Sl 1 (RL 1 (RL 1 (RI .i64))) s63 a67 c68 q66 ∧ Rep a 127 [(1, .slice a1 x1.length c1), (2, .slice a2 x2.length c2), (3, .func (.func 57) #[] #[]), (4, .func (.func 57) #[] #[]), (5, .pointer (some ⟨b51, 0, none⟩)), (11, .int .i64 q65), (12, .slice a67 q66.length c68), (32, .slice a2 x2.length c2), (33, .int .i64 ((x2).length : Int)), (34, .int .i64 ((k56 : Nat) : Int))] ∧ St w s63 (pt b51 (.cells #[.int .i64 x0.Period, .int .i64 x0.Events, .slice a0_0 x0.Rules.length c0_0] 24 (0, 0)) :: R)) (m := x2.length) ⟨x2, 0, (-1), [], none, 0, s, rfl, rfl, (Sg.Le.refl _), hq54, Sl.nil, hE.pick _ ⟨rfl, rfl, rfl, rfl, rfl, rfl, rfl, rfl, rfl, rfl, trivial⟩, hS⟩ ?_
          clear hE hS a w hq54; rintro m62 a w ⟨rest58, k56, q65, q66, a67, c68, s63, rfl, hd59, hle64, hq54, h69, hE, hS⟩
          refine W.gen fun K70 hK70 => ?_
          replace h0_0 := Sl.mono RPlanRule.mono hle64 h0_0
          replace h1 := Sl.mono (RL.mono RI.mono) hle64 h1
          replace h2 := Sl.mono RPlanRule.mono hle64 h2
          rcases rest58 with _ | ⟨x57, rest58⟩
          · have hlt60 := drop_nil hd59
            refine W.seq ?_
            refine W.region ?_
            refine WL.vS hS hE (runs_plain rfl) (Gives.p hE rfl) rfl ?_; clear hE a; intro a hE
            refine WL.nil ?_
            refine W.seq ?_
            refine W.condF hE rfl (decide_eq_false (by omega)) ?_
            subst hK70
            refine W.exit rfl ?_
            exact ⟨q65, q66, a67, c68, s63, hle64, Option.some.inj hq54, h69, hE.pick _ ⟨rfl, rfl, rfl, rfl, rfl, rfl, trivial⟩, hS⟩
          · obtain ⟨hlt60, hx61, hd59⟩ := drop_cons hd59
            rw [Fishref2shifts_v1.loop1] at hq54
            refine W.seq ?_
            refine W.region ?_
            refine WL.vS hS hE (runs_plain rfl) (Gives.p hE rfl) rfl ?_; clear hE a; intro a hE
            refine WL.nil ?_
            refine W.seq ?_
            refine W.condT hE rfl (decide_eq_true (by omega)) ?_
            refine W.skip ?_
            refine W.seq ?_
            refine W.block ?_
            refine W.seq ?_
            refine W.region ?_
            refine WL.vS hS hE (runs_plain rfl) (Gives.p hE rfl) rfl ?_; clear hE a; intro a hE
            obtain ⟨cs71, hl72, hR73, hat74⟩ := h2.at hx61
            subst hR73
            refine WL.vS hS hE (runs_plain rfl) (Gives.idx hE k56 rfl rfl sl22 rfl hlt60 (h2.aok hlt60)) rfl ?_; clear hE a; intro a hE
            refine WL.vS hS hE (runs_plain rfl) (Gives.loadA hE rfl (fun w h => hat74 w _ h) ty37) rfl ?_; clear hE a; intro a hE
            refine WL.alloc hE hS (runs_plain rfl) zr37 rfl ?_; clear hE hS a w; intro b75 a w hE hS
            refine WL.vS hS hE (runs_plain rfl) (Gives.p hE rfl) rfl ?_; clear hE a; intro a hE
            refine WL.storeI hE hS 0 rfl (PlanRule.cells x57) (runs_plain rfl) rfl rfl rfl ty37 rfl rfl rfl rfl ?_; clear hE hS a w; intro a w hE hS
            refine WL.nil ?_
            refine W.seq ?_
            refine W.region ?_
            replace hS := hS.vecNil 87 1
            refine WL.vS hS hE (runs_plain rfl) (Gives.p hE rfl) rfl ?_; clear hE a; intro a hE
            refine WL.nil ?_
            refine W.seq ?_
            refine W.seq ?_
            refine W.region ?_
            refine WL.vS hS hE (runs_plain rfl) (Gives.p hE rfl) rfl ?_; clear hE a; intro a hE
            refine WL.nil ?_
            obtain ⟨q78, hq77, hq54⟩ := bindS hq54
            refine W.cut (fun a w => ∃ (q83 : List (List (List Int))), ∃ (q90 : Int), ∃ (a84 : Option Addr), ∃ (c85 : Nat), ∃ (n87 : Nat), ∃ (cs88 : List Value), ∃ (s81 : Sg), s63.Le s81 ∧ (q83, q90) = q78 ∧ Ev 1 (RL 1 (RL 1 (RI .i64))) s81 cs88 q83 ∧ q83.length = n87 ∧ Rep a 127 [(1, .slice a1 x1.length c1), (2, .slice a2 x2.length c2), (3, .func (.func 57) #[] #[]), (4, .func (.func 57) #[] #[]), (5, .pointer (some ⟨b51, 0, none⟩)), (11, .int .i64 q65), (12, .slice a67 q66.length c68), (13, .int .i64 ((k56 : Nat) : Int)), (15, .slice a84 n87 c85), (32, .slice a2 x2.length c2), (33, .int .i64 ((x2).length : Int)), (34, .int .i64 ((k56 : Nat) : Int))] ∧ St w s81 (vecC 87 1 a84 c85 n87 cs88 :: pt b75 (.cells (PlanRule.cells x57).toArray 37 (0, 0)) :: pt b51 (.cells #[.int .i64 x0.Period, .int .i64 x0.Events, .slice a0_0 x0.Rules.length c0_0] 24 (0, 0)) :: R)) ?_ ?_
            · refine W.block ?_
              refine W.loop (fun m a w => ∃ (n79 : Nat), ∃ (q83 : List (List (List Int))), ∃ (q90 : Int), ∃ (a84 : Option Addr), ∃ (c85 : Nat), ∃ (n87 : Nat), ∃ (cs88 : List Value), ∃ (s81 : Sg), n79 = m ∧ s63.Le s81 ∧ Fishref2shifts_v1.loop2 x0 x1 x57 n79 q83 q90 = some q78 ∧ Ev 1 (RL 1 (RL 1 (RI .i64))) s81 cs88 q83 ∧ q83.length = n87 ∧ Rep a 127 [(1, .slice a1 x1.length c1), (2, .slice a2 x2.length c2), (3, .func (.func 57) #[] #[]), (4, .func (.func 57) #[] #[]), (5, .pointer (some ⟨b51, 0, none⟩)), (11, .int .i64 q65), (12, .slice a67 q66.length c68), (13, .int .i64 ((k56 : Nat) : Int)), (14, .pointer (some ⟨b75, 0, none⟩)), (15, .slice a84 n87 c85), (16, .int .i64 q90), (32, .slice a2 x2.length c2), (33, .int .i64 ((x2).length : Int)), (34, .int .i64 ((k56 : Nat) : Int))] ∧ St w s81 (vecC 87 1 a84 c85 n87 cs88 :: pt b75 (.cells (PlanRule.cells x57).toArray 37 (0, 0)) :: pt b51 (.cells #[.int .i64 x0.Period, .int .i64 x0.Events, .slice a0_0 x0.Rules.length c0_0] 24 (0, 0)) :: R)) (m := fu) ⟨fu, [], (-1), none, 0, 0, [], s63, rfl, (Sg.Le.refl _), hq77, (Ev.nil), (rfl), hE.pick _ ⟨rfl, rfl, rfl, rfl, rfl, rfl, rfl, rfl, rfl, rfl, rfl, rfl, rfl, rfl, trivial⟩, hS⟩ ?_
              clear hE hS a w hq77; rintro m80 a w ⟨n79, q83, q90, a84, c85, n87, cs88, s81, rfl, hle82, hq77, h86, rfl, hE, hS⟩
              refine W.gen fun K91 hK91 => ?_
              replace h1 := Sl.mono (RL.mono RI.mono) hle82 h1
              replace h2 := Sl.mono RPlanRule.mono hle82 h2
              replace h69 := Sl.mono (RL.mono (RL.mono RI.mono)) hle82 h69
              replace h0_0 := Sl.mono RPlanRule.mono hle82 h0_0
              rcases n79 with _ | n79
              · rw [Fishref2shifts_v1.loop2] at hq77; exact absurd hq77 (by simp)
              rw [Fishref2shifts_v1.loop2] at hq77
              refine W.seq ?_
              refine W.seq ?_
              refine W.region ?_
              refine WL.vS hS hE (runs_plain rfl) (Gives.p hE rfl) rfl ?_; clear hE a; intro a hE
              refine WL.vS hS hE (runs_plain rfl) (Gives.fld hE rfl fl37_3) rfl ?_; clear hE a; intro a hE
              refine WL.vS hS hE (runs_plain rfl) (Gives.loadB hE 1 rfl rfl rfl ty3) rfl ?_; clear hE a; intro a hE
              refine WL.vS hS hE (runs_plain rfl) (Gives.fld hE rfl fl24_0) rfl ?_; clear hE a; intro a hE
              refine WL.vS hS hE (runs_plain rfl) (Gives.loadB hE 2 rfl rfl rfl ty3) rfl ?_; clear hE a; intro a hE
              refine WL.vS hS hE (runs_plain rfl) (Gives.p hE rfl) rfl ?_; clear hE a; intro a hE
              refine WL.vS hS hE (runs_plain rfl) (Gives.fld hE rfl fl24_0) rfl ?_; clear hE a; intro a hE
              refine WL.vS hS hE (runs_plain rfl) (Gives.loadB hE 2 rfl rfl rfl ty3) rfl ?_; clear hE a; intro a hE
              obtain ⟨x92, hx93, hq77⟩ := bindS hq77
              refine WL.vS hS hE (runs_plain rfl) (Gives.dv hE rfl rfl hx93) rfl ?_; clear hE a; intro a hE
              refine WL.vS hS hE (runs_plain rfl) (Gives.p hE rfl) rfl ?_; clear hE a; intro a hE
              refine WL.vS hS hE (runs_plain rfl) (Gives.p hE rfl) rfl ?_; clear hE a; intro a hE
              refine WL.nil ?_
              refine W.cond hE rfl (fun hc94 => ?_) (fun hc94 => ?_)
              · replace hq77 := iteT hc94 hq77
                refine W.skip ?_
                refine W.seq ?_
                refine W.block ?_
                refine W.seq ?_
                refine W.region ?_
                refine WL.vS hS hE (runs_plain rfl) (Gives.p hE rfl) rfl ?_; clear hE a; intro a hE
                refine WL.vS hS hE (runs_plain rfl) (Gives.fld hE rfl fl37_0) rfl ?_; clear hE a; intro a hE
                refine WL.vS hS hE (runs_plain rfl) (Gives.loadB hE 1 rfl rfl rfl ty3) rfl ?_; clear hE a; intro a hE
                refine WL.vS hS hE (runs_plain rfl) (Gives.fld hE rfl fl37_1) rfl ?_; clear hE a; intro a hE
                refine WL.vS hS hE (runs_plain rfl) (Gives.loadB hE 1 rfl rfl rfl ty3) rfl ?_; clear hE a; intro a hE
                refine WL.vS hS hE (runs_plain rfl) (Gives.fld hE rfl fl37_3) rfl ?_; clear hE a; intro a hE
                refine WL.vS hS hE (runs_plain rfl) (Gives.loadB hE 1 rfl rfl rfl ty3) rfl ?_; clear hE a; intro a hE
                refine WL.vS hS hE (runs_plain rfl) (Gives.p hE rfl) rfl ?_; clear hE a; intro a hE
                refine WL.vS hS hE (runs_plain rfl) (Gives.fld hE rfl fl24_0) rfl ?_; clear hE a; intro a hE
                refine WL.vS hS hE (runs_plain rfl) (Gives.loadB hE 2 rfl rfl rfl ty3) rfl ?_; clear hE a; intro a hE
                refine WL.vS hS hE (runs_plain rfl) (Gives.p hE rfl) rfl ?_; clear hE a; intro a hE
                refine WL.vS hS hE (runs_plain rfl) (Gives.p hE rfl) rfl ?_; clear hE a; intro a hE
                obtain ⟨q95, hq96, hq77⟩ := bindS hq77
                have hc_ := Fishref2Boundstighter_ok hS h1 hq96
                refine WL.fnq hE (hc_) (runs_plain rfl) bd56 rfl rfl rfl ?_
                clear hE hS hc_; rintro e w ⟨a97, c98, s100, rfl, hle101, h99, hS⟩; refine ⟨_, rfl, ?_⟩; clear a; intro a hE
                replace h1 := Sl.mono (RL.mono RI.mono) hle101 h1
                replace h2 := Sl.mono RPlanRule.mono hle101 h2
                replace h69 := Sl.mono (RL.mono (RL.mono RI.mono)) hle101 h69
                replace h86 := Ev.mono (RL.mono (RL.mono RI.mono)) hle101 h86
                replace h0_0 := Sl.mono RPlanRule.mono hle101 h0_0
                refine WL.vS hS hE (runs_plain rfl) (Gives.p hE rfl) rfl ?_; clear hE a; intro a hE
                refine WL.vS hS hE (runs_plain rfl) (Gives.p hE rfl) rfl ?_; clear hE a; intro a hE
                refine WL.vS hS hE (runs_plain rfl) (Gives.p hE rfl) rfl ?_; clear hE a; intro a hE
                refine WL.vS hS hE (runs_plain rfl) (Gives.p hE rfl) rfl ?_; clear hE a; intro a hE
                refine WL.vS hS hE (runs_plain rfl) (Gives.p hE rfl) rfl ?_; clear hE a; intro a hE
                refine WL.nil ?_
                refine W.seq ?_
                refine W.seq ?_
                refine W.region ?_
                refine WL.vS hS hE (runs_plain rfl) (Gives.p hE rfl) rfl ?_; clear hE a; intro a hE
                refine WL.nil ?_
                obtain ⟨q103, hq102, hq77⟩ := bindS hq77
                refine W.cut (fun a w => ∃ (q106 : List (List Int)), ∃ (q110 : Bool), ∃ (a107 : Option Addr), ∃ (c108 : Nat), ∃ (s104 : Sg), s100.Le s104 ∧ (q106, q110) = q103 ∧ Sl 1 (RL 1 (RI .i64)) s104 a107 c108 q106 ∧ Rep a 127 [(1, .slice a1 x1.length c1), (2, .slice a2 x2.length c2), (3, .func (.func 57) #[] #[]), (4, .func (.func 57) #[] #[]), (5, .pointer (some ⟨b51, 0, none⟩)), (11, .int .i64 q65), (12, .slice a67 q66.length c68), (13, .int .i64 ((k56 : Nat) : Int)), (14, .pointer (some ⟨b75, 0, none⟩)), (15, .slice a84 q83.length c85), (16, .int .i64 q90), (17, .slice a107 q106.length c108), (18, .bool q110), (32, .slice a2 x2.length c2), (33, .int .i64 ((x2).length : Int)), (34, .int .i64 ((k56 : Nat) : Int))] ∧ St w s104 (vecC 87 1 a84 c85 q83.length cs88 :: pt b75 (.cells (PlanRule.cells x57).toArray 37 (0, 0)) :: pt b51 (.cells #[.int .i64 x0.Period, .int .i64 x0.Events, .slice a0_0 x0.Rules.length c0_0] 24 (0, 0)) :: R)) ?_ ?_
                · refine W.gen fun K111 hK111 => ?_
                  refine W.cond hE rfl (fun hc112 => ?_) (fun hc112 => ?_)
                  · replace hq102 := iteT hc112 hq102
                    refine W.region ?_
                    refine WL.vS hS hE (runs_plain rfl) (Gives.p hE rfl) rfl ?_; clear hE a; intro a hE
                    refine WL.vS hS hE (runs_plain rfl) (Gives.fld hE rfl fl37_1) rfl ?_; clear hE a; intro a hE
                    refine WL.vS hS hE (runs_plain rfl) (Gives.loadB hE 1 rfl rfl rfl ty3) rfl ?_; clear hE a; intro a hE
                    refine WL.vS hS hE (runs_plain rfl) (Gives.fld hE rfl fl37_0) rfl ?_; clear hE a; intro a hE
                    refine WL.vS hS hE (runs_plain rfl) (Gives.loadB hE 1 rfl rfl rfl ty3) rfl ?_; clear hE a; intro a hE
                    refine WL.vS hS hE (runs_plain rfl) (Gives.p hE rfl) rfl ?_; clear hE a; intro a hE
                    refine WL.vS hS hE (runs_plain rfl) (Gives.fld hE rfl fl24_0) rfl ?_; clear hE a; intro a hE
                    refine WL.vS hS hE (runs_plain rfl) (Gives.loadB hE 2 rfl rfl rfl ty3) rfl ?_; clear hE a; intro a hE
                    refine WL.vS hS hE (runs_plain rfl) (Gives.p hE rfl) rfl ?_; clear hE a; intro a hE
                    refine WL.vS hS hE (runs_plain rfl) (Gives.fld hE rfl fl37_2) rfl ?_; clear hE a; intro a hE
                    refine WL.vS hS hE (runs_plain rfl) (Gives.loadB hE 1 rfl rfl rfl ty3) rfl ?_; clear hE a; intro a hE
                    refine WL.vS hS hE (runs_plain rfl) (Gives.p hE rfl) rfl ?_; clear hE a; intro a hE
                    obtain ⟨q113, hq114, hq102⟩ := bindS hq102
                    have hc_ := Fishref2Boundstighter_ok hS h99 hq114
                    refine WL.fnq hE (hc_) (runs_plain rfl) bd56 rfl rfl rfl ?_
                    clear hE hS hc_; rintro e w ⟨a115, c116, s118, rfl, hle119, h117, hS⟩; refine ⟨_, rfl, ?_⟩; clear a; intro a hE
                    replace h1 := Sl.mono (RL.mono RI.mono) hle119 h1
                    replace h2 := Sl.mono RPlanRule.mono hle119 h2
                    replace h69 := Sl.mono (RL.mono (RL.mono RI.mono)) hle119 h69
                    replace h99 := Sl.mono (RL.mono RI.mono) hle119 h99
                    replace h86 := Ev.mono (RL.mono (RL.mono RI.mono)) hle119 h86
                    replace h0_0 := Sl.mono RPlanRule.mono hle119 h0_0
                    refine WL.vS hS hE (runs_plain rfl) (Gives.p hE rfl) rfl ?_; clear hE a; intro a hE
                    refine WL.vS hS hE (runs_plain rfl) (Gives.p hE rfl) rfl ?_; clear hE a; intro a hE
                    refine WL.vS hS hE (runs_plain rfl) (Gives.p hE rfl) rfl ?_; clear hE a; intro a hE
                    refine WL.vS hS hE (runs_plain rfl) (Gives.p hE rfl) rfl ?_; clear hE a; intro a hE
                    refine WL.vS hS hE (runs_plain rfl) (Gives.p hE rfl) rfl ?_; clear hE a; intro a hE
                    refine WL.nil ?_
                    subst hK111
                    exact ⟨q113.1, q113.2, a115, c116, s118, hle119, Option.some.inj hq102, h117, hE.pick _ ⟨rfl, rfl, rfl, rfl, rfl, rfl, rfl, rfl, rfl, rfl, rfl, rfl, rfl, rfl, rfl, rfl, trivial⟩, hS⟩
                  · replace hq102 := iteF hc112 hq102
                    refine W.skip ?_
                    subst hK111
                    exact ⟨q95.1, q95.2, a97, c98, s100, (Sg.Le.refl _), Option.some.inj hq102, h99, hE.pick _ ⟨rfl, rfl, rfl, rfl, rfl, rfl, rfl, rfl, rfl, rfl, rfl, rfl, rfl, rfl, rfl, rfl, trivial⟩, hS⟩
                · clear hE hS a w; rintro a w ⟨q106, q110, a107, c108, s104, hle105, rfl, h109, hE, hS⟩
                  dsimp only at hq77
                  replace h1 := Sl.mono (RL.mono RI.mono) hle105 h1
                  replace h2 := Sl.mono RPlanRule.mono hle105 h2
                  replace h69 := Sl.mono (RL.mono (RL.mono RI.mono)) hle105 h69
                  replace h99 := Sl.mono (RL.mono RI.mono) hle105 h99
                  replace h86 := Ev.mono (RL.mono (RL.mono RI.mono)) hle105 h86
                  replace h0_0 := Sl.mono RPlanRule.mono hle105 h0_0
                  refine W.seq ?_
                  refine W.region ?_
                  refine WL.vS hS hE (runs_plain rfl) (Gives.p hE rfl) rfl ?_; clear hE a; intro a hE
                  refine WL.nil ?_
                  obtain ⟨q121, hq120, hq77⟩ := bindS hq77
                  refine W.cut (fun a w => ∃ (q124 : List (List (List Int))), ∃ (a125 : Option Addr), ∃ (c126 : Nat), ∃ (n128 : Nat), ∃ (cs129 : List Value), q124 = q121 ∧ Ev 1 (RL 1 (RL 1 (RI .i64))) s104 cs129 q124 ∧ q124.length = n128 ∧ Rep a 127 [(1, .slice a1 x1.length c1), (2, .slice a2 x2.length c2), (3, .func (.func 57) #[] #[]), (4, .func (.func 57) #[] #[]), (5, .pointer (some ⟨b51, 0, none⟩)), (11, .int .i64 q65), (12, .slice a67 q66.length c68), (13, .int .i64 ((k56 : Nat) : Int)), (14, .pointer (some ⟨b75, 0, none⟩)), (15, .slice a125 n128 c126), (16, .int .i64 q90), (32, .slice a2 x2.length c2), (33, .int .i64 ((x2).length : Int)), (34, .int .i64 ((k56 : Nat) : Int))] ∧ St w s104 (vecC 87 1 a125 c126 n128 cs129 :: pt b75 (.cells (PlanRule.cells x57).toArray 37 (0, 0)) :: pt b51 (.cells #[.int .i64 x0.Period, .int .i64 x0.Events, .slice a0_0 x0.Rules.length c0_0] 24 (0, 0)) :: R)) ?_ ?_
                  · refine W.gen fun K131 hK131 => ?_
                    refine W.cond hE rfl (fun hc132 => ?_) (fun hc132 => ?_)
                    · replace hq120 := iteT hc132 hq120
                      refine W.region ?_
                      refine WL.vS hS hE (runs_plain rfl) (Gives.p hE rfl) rfl ?_; clear hE a; intro a hE
                      refine WL.vS hS hE (runs_plain rfl) (Gives.p hE rfl) rfl ?_; clear hE a; intro a hE
                      refine WL.lit hE hS (e := 87) (es := 1) (vs := [(0, .slice a107 q106.length c108)]) (cs := [.slice a107 q106.length c108]) (runs_plain rfl) rfl (by kernel_rfl) rfl ?_; clear hE hS a w; intro b133 a w hE hS
                      obtain ⟨x134, hx135, hq120⟩ := bindS hq120
                      refine WL.appD hE hS 0 (m := 1) (runs_plain rfl) rfl rfl rfl ap118 rfl h86 rfl (xs := [q106]) (Ev.cons (c1 := [.slice a107 q106.length c108]) ⟨_, _, rfl, h109⟩ rfl (Ev.nil)) rfl rfl hx135 rfl ?_; clear hE hS a w; intro a136 c137 cs138 a w h139 hE hS
                      refine WL.vS hS hE (runs_plain rfl) (Gives.p hE rfl) rfl ?_; clear hE a; intro a hE
                      refine WL.nil ?_
                      subst hK131
                      exact ⟨x134, a136, c137, x134.length, cs138, Option.some.inj hq120, h139, (rfl), hE.pick _ ⟨rfl, rfl, rfl, rfl, rfl, rfl, rfl, rfl, rfl, rfl, rfl, rfl, rfl, rfl, trivial⟩, hS⟩
                    · replace hq120 := iteF hc132 hq120
                      refine W.skip ?_
                      subst hK131
                      exact ⟨q83, a84, c85, q83.length, cs88, Option.some.inj hq120, h86, rfl, hE.pick _ ⟨rfl, rfl, rfl, rfl, rfl, rfl, rfl, rfl, rfl, rfl, rfl, rfl, rfl, rfl, trivial⟩, hS⟩
                  · clear hE hS a w; rintro a w ⟨q124, a125, c126, n128, cs129, rfl, h127, rfl, hE, hS⟩
                    refine W.region ?_
                    refine WL.vS hS hE (runs_plain rfl) (Gives.p hE rfl) rfl ?_; clear hE a; intro a hE
                    refine WL.vS hS hE (runs_plain rfl) (Gives.p hE rfl) rfl ?_; clear hE a; intro a hE
                    refine WL.vS hS hE (runs_plain rfl) (Gives.p hE rfl) rfl ?_; clear hE a; intro a hE
                    refine WL.nil ?_
                    subst hK91
                    exact ⟨n79, Nat.lt_succ_self _, n79, q124, (w64 (q90 + 1)), a125, c126, q124.length, cs129, s104, rfl, (Sg.Le.trans (Sg.Le.trans hle82 hle101) hle105), hq77, h127, rfl, hE.pick _ ⟨rfl, rfl, rfl, rfl, rfl, rfl, rfl, rfl, rfl, rfl, rfl, rfl, rfl, rfl, trivial⟩, hS⟩
              · replace hq77 := iteF hc94 hq77
                subst hK91
                refine W.exit rfl ?_
                exact ⟨q83, q90, a84, c85, q83.length, cs88, s81, hle82, Option.some.inj hq77, h86, rfl, hE.pick _ ⟨rfl, rfl, rfl, rfl, rfl, rfl, rfl, rfl, rfl, rfl, rfl, rfl, trivial⟩, hS⟩
            · clear hE hS a w; rintro a w ⟨q83, q90, a84, c85, n87, cs88, s81, hle82, rfl, h86, rfl, hE, hS⟩
              dsimp only at hq54
              replace h1 := Sl.mono (RL.mono RI.mono) hle82 h1
              replace h2 := Sl.mono RPlanRule.mono hle82 h2
              replace h69 := Sl.mono (RL.mono (RL.mono RI.mono)) hle82 h69
              replace h0_0 := Sl.mono RPlanRule.mono hle82 h0_0
              refine W.seq ?_
              refine W.seq ?_
              refine W.region ?_
              refine WL.vS hS hE (runs_plain rfl) (Gives.p hE rfl) rfl ?_; clear hE a; intro a hE
              refine WL.vS hS hE (runs_plain rfl) (Gives.len hE rfl sl118) rfl ?_; clear hE a; intro a hE
              refine WL.vS hS hE (runs_plain rfl) (Gives.p hE rfl) rfl ?_; clear hE a; intro a hE
              refine WL.nil ?_
              refine W.cond hE rfl (fun hc140 => ?_) (fun hc140 => ?_)
              · replace hq54 := iteT hc140 hq54
                refine W.seq ?_
                refine W.region ?_
                refine WL.vS hS hE (runs_plain rfl) (Gives.p hE rfl) rfl ?_; clear hE a; intro a hE
                refine WL.nil ?_
                refine W.ret ?_
                subst hK70
                rw [← Option.some.inj hq54] at hr
                dsimp only at hr
                refine finG (fn := Try.f58) (rs := [.tmp 10]) (vs := [_]) hE rfl ⟨rfl, trivial⟩ ?_
                obtain rfl := Option.some.inj hr
                replace hS := hS.tail
                replace hS := hS.tail
                replace hS := hS.tail
                exact ⟨rfl, (hS.down (Sg.Le.trans hle64 hle82))⟩
              · replace hq54 := iteF hc140 hq54
                refine W.skip ?_
                refine W.seq ?_
                refine W.seq ?_
                obtain ⟨q142, hq141, hq54⟩ := bndS hq54
                refine W.cut (fun a w => ∃ (q145 : Bool), q145 = q142 ∧ Rep a 127 [(1, .slice a1 x1.length c1), (2, .slice a2 x2.length c2), (3, .func (.func 57) #[] #[]), (4, .func (.func 57) #[] #[]), (5, .pointer (some ⟨b51, 0, none⟩)), (11, .int .i64 q65), (12, .slice a67 q66.length c68), (13, .int .i64 ((k56 : Nat) : Int)), (15, .slice a84 q83.length c85), (32, .slice a2 x2.length c2), (33, .int .i64 ((x2).length : Int)), (34, .int .i64 ((k56 : Nat) : Int)), (101, .bool q145)] ∧ St w s81 (vecC 87 1 a84 c85 q83.length cs88 :: pt b75 (.cells (PlanRule.cells x57).toArray 37 (0, 0)) :: pt b51 (.cells #[.int .i64 x0.Period, .int .i64 x0.Events, .slice a0_0 x0.Rules.length c0_0] 24 (0, 0)) :: R)) ?_ ?_
                · refine W.gen fun K146 hK146 => ?_
                  refine W.region ?_
                  refine WL.vS hS hE (runs_plain rfl) (Gives.p hE rfl) rfl ?_; clear hE a; intro a hE
                  refine WL.vS hS hE (runs_plain rfl) (Gives.p hE rfl) rfl ?_; clear hE a; intro a hE
                  refine WL.vS hS hE (runs_plain rfl) (Gives.p hE rfl) rfl ?_; clear hE a; intro a hE
                  rcases Bool.eq_false_or_eq_true (decide (q65 < 0)) with hg147 | hg147
                  · replace hq141 := iteT hg147 hq141
                    refine WL.no hE (runs_not hE rfl rfl rfl (by rw [hg147]; decide)) rfl ?_; clear hE a; intro a hE
                    refine WL.no hE (runs_not hE rfl rfl rfl (by rw [hg147]; decide)) rfl ?_; clear hE a; intro a hE
                    refine WL.no hE (runs_not hE rfl rfl rfl (by rw [hg147]; decide)) rfl ?_; clear hE a; intro a hE
                    refine WL.no hE (runs_not hE rfl rfl rfl (by rw [hg147]; decide)) rfl ?_; clear hE a; intro a hE
                    refine WL.no hE (runs_not hE rfl rfl rfl (by rw [hg147]; decide)) rfl ?_; clear hE a; intro a hE
                    refine WL.vS hS hE (runs_plain rfl) (Gives.pickT hE rfl hg147 rfl) rfl ?_; clear hE a; intro a hE
                    refine WL.nil ?_
                    subst hK146
                    exact ⟨true, hq141, hE.pick _ ⟨rfl, rfl, rfl, rfl, rfl, rfl, rfl, rfl, rfl, rfl, rfl, rfl, rfl, trivial⟩, hS⟩
                  · replace hq141 := iteF hg147 hq141
                    refine WL.vS hS hE (runs_if hE rfl rfl rfl hg147) (Gives.p hE rfl) rfl ?_; clear hE a; intro a hE
                    refine WL.vS hS hE (runs_if hE rfl rfl rfl hg147) (Gives.len hE rfl sl118) rfl ?_; clear hE a; intro a hE
                    refine WL.vS hS hE (runs_if hE rfl rfl rfl hg147) (Gives.p hE rfl) rfl ?_; clear hE a; intro a hE
                    refine WL.vS hS hE (runs_if hE rfl rfl rfl hg147) (Gives.len hE rfl sl118) rfl ?_; clear hE a; intro a hE
                    refine WL.vS hS hE (runs_if hE rfl rfl rfl hg147) (Gives.p hE rfl) rfl ?_; clear hE a; intro a hE
                    refine WL.vS hS hE (runs_plain rfl) (Gives.pickF hE rfl hg147 rfl) rfl ?_; clear hE a; intro a hE
                    refine WL.nil ?_
                    subst hK146
                    exact ⟨decide (((q83.length : Nat) : Int) < ((q66).length : Int)), hq141, hE.pick _ ⟨rfl, rfl, rfl, rfl, rfl, rfl, rfl, rfl, rfl, rfl, rfl, rfl, rfl, trivial⟩, hS⟩
                · clear hE hS a w; rintro a w ⟨q145, rfl, hE, hS⟩
                  have hF := hS.fixD (RL.mono (RL.mono RI.mono)) 0 rfl h86 rfl; clear hS; obtain ⟨s148, hle149, hS, h150⟩ := hF
                  replace h1 := Sl.mono (RL.mono RI.mono) hle149 h1
                  replace h2 := Sl.mono RPlanRule.mono hle149 h2
                  replace h69 := Sl.mono (RL.mono (RL.mono RI.mono)) hle149 h69
                  replace h0_0 := Sl.mono RPlanRule.mono hle149 h0_0
                  obtain ⟨q152, hq151, hq54⟩ := bndS hq54
                  refine W.cut (fun a w => ∃ (q155 : Int), ∃ (q156 : List (List (List Int))), ∃ (a157 : Option Addr), ∃ (c158 : Nat), (q155, q156) = q152 ∧ Sl 1 (RL 1 (RL 1 (RI .i64))) s148 a157 c158 q156 ∧ Rep a 127 [(1, .slice a1 x1.length c1), (2, .slice a2 x2.length c2), (3, .func (.func 57) #[] #[]), (4, .func (.func 57) #[] #[]), (5, .pointer (some ⟨b51, 0, none⟩)), (11, .int .i64 q155), (12, .slice a157 q156.length c158), (15, .slice a84 q83.length c85), (32, .slice a2 x2.length c2), (33, .int .i64 ((x2).length : Int)), (34, .int .i64 ((k56 : Nat) : Int))] ∧ St w s148 (pt b75 (.cells (PlanRule.cells x57).toArray 37 (0, 0)) :: pt b51 (.cells #[.int .i64 x0.Period, .int .i64 x0.Events, .slice a0_0 x0.Rules.length c0_0] 24 (0, 0)) :: R)) ?_ ?_
                  · refine W.gen fun K160 hK160 => ?_
                    refine W.cond hE rfl (fun hc161 => ?_) (fun hc161 => ?_)
                    · replace hq151 := iteT hc161 hq151
                      refine W.region ?_
                      refine WL.vS hS hE (runs_plain rfl) (Gives.p hE rfl) rfl ?_; clear hE a; intro a hE
                      refine WL.vS hS hE (runs_plain rfl) (Gives.p hE rfl) rfl ?_; clear hE a; intro a hE
                      refine WL.vS hS hE (runs_plain rfl) (Gives.p hE rfl) rfl ?_; clear hE a; intro a hE
                      refine WL.vS hS hE (runs_plain rfl) (Gives.p hE rfl) rfl ?_; clear hE a; intro a hE
                      refine WL.nil ?_
                      subst hK160
                      exact ⟨((k56 : Nat) : Int), q83, a84, c85, hq151, h150, hE.pick _ ⟨rfl, rfl, rfl, rfl, rfl, rfl, rfl, rfl, rfl, rfl, rfl, trivial⟩, hS⟩
                    · replace hq151 := iteF hc161 hq151
                      refine W.skip ?_
                      subst hK160
                      exact ⟨q65, q66, a67, c68, hq151, h69, hE.pick _ ⟨rfl, rfl, rfl, rfl, rfl, rfl, rfl, rfl, rfl, rfl, rfl, trivial⟩, hS⟩
                  · clear hE hS a w; rintro a w ⟨q155, q156, a157, c158, rfl, h159, hE, hS⟩
                    dsimp only at hq54
                    refine W.seq ?_
                    refine W.region ?_
                    refine WL.vS hS hE (runs_plain rfl) (Gives.p hE rfl) rfl ?_; clear hE a; intro a hE
                    refine WL.vS hS hE (runs_plain rfl) (Gives.len hE rfl sl118) rfl ?_; clear hE a; intro a hE
                    refine WL.vS hS hE (runs_plain rfl) (Gives.p hE rfl) rfl ?_; clear hE a; intro a hE
                    refine WL.nil ?_
                    refine W.cond hE rfl (fun hc162 => ?_) (fun hc162 => ?_)
                    · replace hq54 := iteT hc162 hq54
                      subst hK70
                      refine W.exit rfl ?_
                      replace hS := hS.tail
                      exact ⟨q155, q156, a157, c158, s148, (Sg.Le.trans (Sg.Le.trans hle64 hle82) hle149), Option.some.inj hq54, h159, hE.pick _ ⟨rfl, rfl, rfl, rfl, rfl, rfl, trivial⟩, hS⟩
                    · replace hq54 := iteF hc162 hq54
                      refine W.skip ?_
                      refine W.region ?_
                      refine WL.vS hS hE (runs_plain rfl) (Gives.inc hE rfl (by have := h2.small; omega)) rfl ?_; clear hE a; intro a hE
                      refine WL.vS hS hE (runs_plain rfl) (Gives.p hE rfl) rfl ?_; clear hE a; intro a hE
                      refine WL.nil ?_
                      replace hS := hS.tail
                      subst hK70
                      exact ⟨rest58.length, Nat.lt_succ_self _, rest58, k56 + 1, q155, q156, a157, c158, s148, rfl, hd59, (Sg.Le.trans (Sg.Le.trans hle64 hle82) hle149), hq54, h159, hE.pick _ ⟨rfl, rfl, rfl, rfl, rfl, rfl, rfl, rfl, rfl, rfl, trivial⟩, hS⟩
        · clear hE hS a w; rintro a w ⟨q65, q66, a67, c68, s63, hle64, rfl, h69, hE, hS⟩
          dsimp only at hr
          replace h0_0 := Sl.mono RPlanRule.mono hle64 h0_0
          replace h1 := Sl.mono (RL.mono RI.mono) hle64 h1
          replace h2 := Sl.mono RPlanRule.mono hle64 h2
          refine W.seq ?_
          refine W.region ?_
          refine WL.vS hS hE (runs_plain rfl) (Gives.p hE rfl) rfl ?_; clear hE a; intro a hE
          obtain ⟨q163, hq164, hr⟩ := bindS hr
          have hc_ := SlicesCloneLplanRule_ok hS h2 hq164
          refine WL.fnq hE (hc_) (runs_plain rfl) bd84 rfl rfl rfl ?_
          clear hE hS hc_; rintro e w ⟨a165, c166, n167, cs168, rfl, h169, rfl, hS⟩; refine ⟨_, rfl, ?_⟩; clear a; intro a hE
          refine WL.vS hS hE (runs_plain rfl) (Gives.p hE rfl) rfl ?_; clear hE a; intro a hE
          refine WL.vS hS hE (runs_plain rfl) (Gives.p hE rfl) rfl ?_; clear hE a; intro a hE
          refine WL.vS hS hE (runs_plain rfl) (Gives.p hE rfl) rfl ?_; clear hE a; intro a hE
          obtain ⟨q171, hq172, hr⟩ := bindS hr
          have hc_ := SlicesDeleteLplanRule_v1_ok hS h169 rfl hq172
          refine WL.fnq hE (hc_) (runs_plain rfl) bd83 rfl rfl rfl ?_
          clear hE hS hc_; rintro e w ⟨a173, c174, n175, cs176, rfl, h177, rfl, hS⟩; refine ⟨_, rfl, ?_⟩; clear a; intro a hE
          refine WL.vS hS hE (runs_plain rfl) (Gives.p hE rfl) rfl ?_; clear hE a; intro a hE
          refine WL.nil ?_
          refine W.seq ?_
          refine W.seq ?_
          refine W.region ?_
          refine WL.vS hS hE (runs_plain rfl) (Gives.p hE rfl) rfl ?_; clear hE a; intro a hE
          refine WL.vS hS hE (runs_plain rfl) (Gives.len hE rfl sl118) rfl ?_; clear hE a; intro a hE
          refine WL.vS hS hE (runs_plain rfl) (Gives.p hE rfl) rfl ?_; clear hE a; intro a hE
          refine WL.nil ?_
          obtain ⟨q180, hq179, hr⟩ := bindS hr
          refine W.cut (fun a w => (.next ()) = q180 ∧ Rep a 127 [] ∧ St w s63 (vecC 37 5 a173 c174 q171.length cs176 :: pt b51 (.cells #[.int .i64 x0.Period, .int .i64 x0.Events, .slice a0_0 x0.Rules.length c0_0] 24 (0, 0)) :: R)) ?_ ?_
          · refine W.block ?_
            refine W.loop (fun m a w => ∃ (rest183 : List (List (List Int))) (k181 : Nat), rest183.length = m ∧ q66.drop k181 = rest183 ∧ Fishref2shifts_v1.loop3 x0 self_Fishref2shifts_v1 q171 rest183 = some q180 ∧ Rep a 127 [(3, .func (.func 57) #[] #[]), (4, .func (.func 57) #[] #[]), (5, .pointer (some ⟨b51, 0, none⟩)), (19, .slice a173 q171.length c174), (114, .slice a67 q66.length c68), (115, .int .i64 ((q66).length : Int)), (116, .int .i64 ((k181 : Nat) : Int))] ∧ St w s63 (vecC 37 5 a173 c174 q171.length cs176 :: pt b51 (.cells #[.int .i64 x0.Period, .int .i64 x0.Events, .slice a0_0 x0.Rules.length c0_0] 24 (0, 0)) :: R)) (m := q66.length) ⟨q66, 0, rfl, rfl, hq179, hE.pick _ ⟨rfl, rfl, rfl, rfl, rfl, rfl, rfl, trivial⟩, hS⟩ ?_
            clear hE hS a w hq179; rintro m187 a w ⟨rest183, k181, rfl, hd184, hq179, hE, hS⟩
            refine W.gen fun K190 hK190 => ?_
            rcases rest183 with _ | ⟨x182, rest183⟩
            · have hlt185 := drop_nil hd184
              refine W.seq ?_
              refine W.region ?_
              refine WL.vS hS hE (runs_plain rfl) (Gives.p hE rfl) rfl ?_; clear hE a; intro a hE
              refine WL.nil ?_
              refine W.seq ?_
              refine W.condF hE rfl (decide_eq_false (by omega)) ?_
              subst hK190
              refine W.exit rfl ?_
              exact ⟨Option.some.inj hq179, hE.pick _ trivial, hS⟩
            · obtain ⟨hlt185, hx186, hd184⟩ := drop_cons hd184
              rw [Fishref2shifts_v1.loop3] at hq179
              refine W.seq ?_
              refine W.region ?_
              refine WL.vS hS hE (runs_plain rfl) (Gives.p hE rfl) rfl ?_; clear hE a; intro a hE
              refine WL.nil ?_
              refine W.seq ?_
              refine W.condT hE rfl (decide_eq_true (by omega)) ?_
              refine W.skip ?_
              refine W.seq ?_
              refine W.block ?_
              refine W.seq ?_
              refine W.region ?_
              obtain ⟨cs191, hl192, hR193, hat194⟩ := h69.at hx186
              obtain ⟨a195, c196, rfl, h197⟩ := hR193
              refine WL.vS hS hE (runs_plain rfl) (Gives.idx hE k181 rfl rfl sl118 rfl hlt185 (h69.aok hlt185)) rfl ?_; clear hE a; intro a hE
              refine WL.vS hS hE (runs_plain rfl) (Gives.load1 hE rfl (fun w h => hat194 w _ h) ty87) rfl ?_; clear hE a; intro a hE
              refine WL.vS hS hE (runs_plain rfl) (Gives.p hE rfl) rfl ?_; clear hE a; intro a hE
              refine WL.nil ?_
              refine W.seq ?_
              refine W.region ?_
              refine WL.vS hS hE (runs_plain rfl) (Gives.loadBA hE 1 rfl rfl ty24) rfl ?_; clear hE a; intro a hE
              refine WL.vS hS hE (runs_plain rfl) (Gives.p hE rfl) rfl ?_; clear hE a; intro a hE
              refine WL.vS hS hE (runs_plain rfl) (Gives.p hE rfl) rfl ?_; clear hE a; intro a hE
              refine WL.vS hS hE (runs_plain rfl) (Gives.p hE rfl) rfl ?_; clear hE a; intro a hE
              refine WL.vS hS hE (runs_plain rfl) (Gives.p hE rfl) rfl ?_; clear hE a; intro a hE
              obtain ⟨q198, hq199, hq179⟩ := bindS hq179
              have hF := hS.lendV RPlanRule.mono 0 rfl h177 rfl; clear hS; obtain ⟨t200, hle201, hS, hs202, bk203⟩ := hF
              have hc_ := ih_Fishref2shifts_v1 hS (Sl.mono RPlanRule.mono hle201 h0_0) (Sl.mono (RL.mono RI.mono) hle201 h197) hs202 hq199
              refine WL.fnq hE (hc_) (runs_plain rfl) bd58 rfl rfl rfl ?_
              clear hE hS hc_; rintro e w ⟨rfl, hS⟩; refine ⟨_, rfl, ?_⟩; clear a; intro a hE
              replace hS := bk203 _ _ hS
              refine WL.nil ?_
              refine W.cond hE rfl (fun hc204 => ?_) (fun hc204 => ?_)
              · replace hq179 := iteT hc204 hq179
                refine W.seq ?_
                refine W.region ?_
                refine WL.vS hS hE (runs_plain rfl) (Gives.p hE rfl) rfl ?_; clear hE a; intro a hE
                refine WL.nil ?_
                refine W.ret ?_
                subst hK190
                rw [← Option.some.inj hq179] at hr
                dsimp only at hr
                refine finG (fn := Try.f58) (rs := [.tmp 10]) (vs := [_]) hE rfl ⟨rfl, trivial⟩ ?_
                obtain rfl := Option.some.inj hr
                replace hS := hS.tail
                replace hS := hS.tail
                exact ⟨rfl, (hS.down hle64)⟩
              · replace hq179 := iteF hc204 hq179
                refine W.skip ?_
                refine W.region ?_
                refine WL.vS hS hE (runs_plain rfl) (Gives.inc hE rfl (by have := h69.small; omega)) rfl ?_; clear hE a; intro a hE
                refine WL.vS hS hE (runs_plain rfl) (Gives.p hE rfl) rfl ?_; clear hE a; intro a hE
                refine WL.nil ?_
                subst hK190
                exact ⟨rest183.length, Nat.lt_succ_self _, rest183, k181 + 1, rfl, hd184, hq179, hE.pick _ ⟨rfl, rfl, rfl, rfl, rfl, rfl, rfl, trivial⟩, hS⟩
          · clear hE hS a w; rintro a w ⟨rfl, hE, hS⟩
            dsimp only at hr
            refine W.seq ?_
            refine W.region ?_
            refine WL.vS hS hE (runs_plain rfl) (Gives.p hE rfl) rfl ?_; clear hE a; intro a hE
            refine WL.nil ?_
            refine W.ret ?_
            refine finG (fn := Try.f58) (rs := [.tmp 10]) (vs := [_]) hE rfl ⟨rfl, trivial⟩ ?_
            obtain rfl := Option.some.inj hr
            replace hS := hS.tail
            replace hS := hS.tail
            exact ⟨rfl, (hS.down hle64)⟩
set_option maxHeartbeats 8000000 in
theorem Fishref2Solvable_ok {fu : Nat}  {w : World} {s : Sg} {R : List HP} {x0 : PlanPeriodic} {a0_0 : Option Addr} {c0_0 : Nat} {x1 : List PlanRule} {a1 : Option Addr} {c1 : Nat} {x2 : List Int} {a2 : Option Addr} {c2 : Nat} (hS : St w s (R)) (h0_0 : Sl 5 RPlanRule s a0_0 c0_0 x0.Rules) (h1 : Sl 5 RPlanRule s a1 c1 x1) (h2 : Sl 1 (RI .i64) s a2 c2 x2) {r : Bool} (hr : Fishref2Solvable fu x0 x1 x2 = some r) :
    Calls Try.prog 25 [.agg [.int .i64 x0.Period, .int .i64 x0.Events, .slice a0_0 x0.Rules.length c0_0].toArray, .slice a1 x1.length c1, .slice a2 x2.length c2].toArray w (fun e w => e = .returned (.bool r) ∧ St w s (R)) := by
  refine enter Try.func25 rfl rfl rfl fun a hE => ?_
  rw [Fishref2Solvable] at hr
  refine W.seq ?_
  refine W.region ?_
  refine WL.box hE hS (runs_plain rfl) rfl rfl rfl ?_; clear hE hS a w; intro b51 a w hE hS
  refine WL.vS hS hE (runs_plain rfl) (Gives.p hE rfl) rfl ?_; clear hE a; intro a hE
  refine WL.nil ?_
  refine W.seq ?_
  refine W.region ?_
  refine WL.vS hS hE (runs_plain rfl) (Gives.loadBA hE 0 rfl rfl ty24) rfl ?_; clear hE a; intro a hE
  obtain ⟨q52, hq53, hr⟩ := bindS hr
  have hc_ := Fishref2free_ok hS h0_0 hq53
  refine WL.fnq hE (hc_) (runs_plain rfl) bd55 rfl rfl rfl ?_
  clear hE hS hc_; rintro e w ⟨a54, c55, s57, rfl, hle58, h56, hS⟩; refine ⟨_, rfl, ?_⟩; clear a; intro a hE
  replace h0_0 := Sl.mono RPlanRule.mono hle58 h0_0
  replace h1 := Sl.mono RPlanRule.mono hle58 h1
  replace h2 := Sl.mono RI.mono hle58 h2
  refine WL.vS hS hE (runs_plain rfl) (Gives.p hE rfl) rfl ?_; clear hE a; intro a hE
  refine WL.vS hS hE (runs_plain rfl) (Gives.p hE rfl) rfl ?_; clear hE a; intro a hE
  refine WL.nil ?_
  refine W.seq ?_
  refine W.seq ?_
  refine W.region ?_
  refine WL.vS hS hE (runs_plain rfl) (Gives.p hE rfl) rfl ?_; clear hE a; intro a hE
  refine WL.vS hS hE (runs_plain rfl) (Gives.len hE rfl sl29) rfl ?_; clear hE a; intro a hE
  refine WL.vS hS hE (runs_plain rfl) (Gives.p hE rfl) rfl ?_; clear hE a; intro a hE
  refine WL.nil ?_
  obtain ⟨q60, hq59, hr⟩ := bindS hr
  refine W.cut (fun a w => ∃ (q70 : List (List Int)), ∃ (a71 : Option Addr), ∃ (c72 : Nat), ∃ (s68 : Sg), s57.Le s68 ∧ (.next q70) = q60 ∧ Sl 1 (RL 1 (RI .i64)) s68 a71 c72 q70 ∧ Rep a 69 [(1, .slice a1 x1.length c1), (3, .pointer (some ⟨b51, 0, none⟩)), (7, .slice a71 q70.length c72)] ∧ St w s68 (pt b51 (.cells #[.int .i64 x0.Period, .int .i64 x0.Events, .slice a0_0 x0.Rules.length c0_0] 24 (0, 0)) :: R)) ?_ ?_
  · refine W.block ?_
    refine W.loop (fun m a w => ∃ (rest63 : List Int) (k61 : Nat), ∃ (q70 : List (List Int)), ∃ (a71 : Option Addr), ∃ (c72 : Nat), ∃ (s68 : Sg), rest63.length = m ∧ x2.drop k61 = rest63 ∧ s57.Le s68 ∧ Fishref2Solvable.loop1 x2 rest63 k61 q70 = some q60 ∧ Sl 1 (RL 1 (RI .i64)) s68 a71 c72 q70 ∧ Rep a 69 [(1, .slice a1 x1.length c1), (2, .slice a2 x2.length c2), (3, .pointer (some ⟨b51, 0, none⟩)), (7, .slice a71 q70.length c72), (15, .slice a2 x2.length c2), (16, .int .i64 ((x2).length : Int)), (17, .int .i64 ((k61 : Nat) : Int))] ∧ St w s68 (pt b51 (.cells #[.int .i64 x0.Period, .int .i64 x0.Events, .slice a0_0 x0.Rules.length c0_0] 24 (0, 0)) :: R)) (m := x2.length) ⟨x2, 0, q52, a54, c55, s57, rfl, rfl, (Sg.Le.refl _), hq59, h56, hE.pick _ ⟨rfl, rfl, rfl, rfl, rfl, rfl, rfl, trivial⟩, hS⟩ ?_
    clear hE hS a w hq59; rintro m67 a w ⟨rest63, k61, q70, a71, c72, s68, rfl, hd64, hle69, hq59, h73, hE, hS⟩
    refine W.gen fun K74 hK74 => ?_
    replace h0_0 := Sl.mono RPlanRule.mono hle69 h0_0
    replace h1 := Sl.mono RPlanRule.mono hle69 h1
    replace h2 := Sl.mono RI.mono hle69 h2
    replace h56 := Sl.mono (RL.mono RI.mono) hle69 h56
    rcases rest63 with _ | ⟨x62, rest63⟩
    · have hlt65 := drop_nil hd64
      refine W.seq ?_
      refine W.region ?_
      refine WL.vS hS hE (runs_plain rfl) (Gives.p hE rfl) rfl ?_; clear hE a; intro a hE
      refine WL.nil ?_
      refine W.seq ?_
      refine W.condF hE rfl (decide_eq_false (by omega)) ?_
      subst hK74
      refine W.exit rfl ?_
      exact ⟨q70, a71, c72, s68, hle69, Option.some.inj hq59, h73, hE.pick _ ⟨rfl, rfl, rfl, trivial⟩, hS⟩
    · obtain ⟨hlt65, hx66, hd64⟩ := drop_cons hd64
      rw [Fishref2Solvable.loop1] at hq59
      refine W.seq ?_
      refine W.region ?_
      refine WL.vS hS hE (runs_plain rfl) (Gives.p hE rfl) rfl ?_; clear hE a; intro a hE
      refine WL.nil ?_
      refine W.seq ?_
      refine W.condT hE rfl (decide_eq_true (by omega)) ?_
      refine W.skip ?_
      refine W.seq ?_
      refine W.block ?_
      refine W.seq ?_
      refine W.region ?_
      refine WL.vS hS hE (runs_plain rfl) (Gives.p hE rfl) rfl ?_; clear hE a; intro a hE
      obtain ⟨cs75, hl76, hR77, hat78⟩ := h2.at hx66
      subst hR77
      refine WL.vS hS hE (runs_plain rfl) (Gives.idx hE k61 rfl rfl sl29 rfl hlt65 (h2.aok hlt65)) rfl ?_; clear hE a; intro a hE
      refine WL.vS hS hE (runs_plain rfl) (Gives.load1 hE rfl (fun w h => hat78 w _ h) ty3) rfl ?_; clear hE a; intro a hE
      refine WL.vS hS hE (runs_plain rfl) (Gives.p hE rfl) rfl ?_; clear hE a; intro a hE
      refine WL.vS hS hE (runs_plain rfl) (Gives.p hE rfl) rfl ?_; clear hE a; intro a hE
      refine WL.nil ?_
      refine W.seq ?_
      refine W.seq ?_
      refine W.region ?_
      refine WL.vS hS hE (runs_plain rfl) (Gives.p hE rfl) rfl ?_; clear hE a; intro a hE
      refine WL.vS hS hE (runs_plain rfl) (Gives.p hE rfl) rfl ?_; clear hE a; intro a hE
      refine WL.vS hS hE (runs_plain rfl) (Gives.p hE rfl) rfl ?_; clear hE a; intro a hE
      refine WL.vS hS hE (runs_plain rfl) (Gives.p hE rfl) rfl ?_; clear hE a; intro a hE
      obtain ⟨x79, hx80, hq59⟩ := bindS hq59
      obtain ⟨hi81, hlt82, hy83⟩ := gx_some hx80
      obtain ⟨cs84, hl85, hR86, hat87⟩ := h2.at hy83
      subst hR86
      refine WL.vS hS hE (runs_plain rfl) (Gives.idx hE ((0 : Int)).toNat rfl rfl sl29 hi81 hlt82 (h2.aok hlt82)) rfl ?_; clear hE a; intro a hE
      refine WL.vS hS hE (runs_plain rfl) (Gives.load1 hE rfl (fun w h => hat87 w _ h) ty3) rfl ?_; clear hE a; intro a hE
      refine WL.vS hS hE (runs_plain rfl) (Gives.p hE rfl) rfl ?_; clear hE a; intro a hE
      obtain ⟨q88, hq89, hq59⟩ := bindS hq59
      have hc_ := Fishref2Boundstighter_ok hS h73 hq89
      refine WL.fnq hE (hc_) (runs_plain rfl) bd56 rfl rfl rfl ?_
      clear hE hS hc_; rintro e w ⟨a90, c91, s93, rfl, hle94, h92, hS⟩; refine ⟨_, rfl, ?_⟩; clear a; intro a hE
      replace h1 := Sl.mono RPlanRule.mono hle94 h1
      replace h2 := Sl.mono RI.mono hle94 h2
      replace h73 := Sl.mono (RL.mono RI.mono) hle94 h73
      replace h0_0 := Sl.mono RPlanRule.mono hle94 h0_0
      refine WL.vS hS hE (runs_plain rfl) (Gives.p hE rfl) rfl ?_; clear hE a; intro a hE
      refine WL.vS hS hE (runs_plain rfl) (Gives.p hE rfl) rfl ?_; clear hE a; intro a hE
      refine WL.vS hS hE (runs_plain rfl) (Gives.p hE rfl) rfl ?_; clear hE a; intro a hE
      refine WL.vS hS hE (runs_plain rfl) (Gives.p hE rfl) rfl ?_; clear hE a; intro a hE
      refine WL.vS hS hE (runs_plain rfl) (Gives.p hE rfl) rfl ?_; clear hE a; intro a hE
      refine WL.nil ?_
      refine W.seq ?_
      refine W.region ?_
      refine WL.vS hS hE (runs_plain rfl) (Gives.p hE rfl) rfl ?_; clear hE a; intro a hE
      refine WL.vS hS hE (runs_plain rfl) (Gives.p hE rfl) rfl ?_; clear hE a; intro a hE
      refine WL.nil ?_
      refine W.cond hE rfl (fun hc95 => ?_) (fun hc95 => ?_)
      · replace hq59 := iteT hc95 hq59
        refine W.seq ?_
        refine W.region ?_
        refine WL.vS hS hE (runs_plain rfl) (Gives.p hE rfl) rfl ?_; clear hE a; intro a hE
        refine WL.nil ?_
        refine W.ret ?_
        subst hK74
        rw [← Option.some.inj hq59] at hr
        dsimp only at hr
        refine finG (fn := Try.f25) (rs := [.tmp 6]) (vs := [_]) hE rfl ⟨rfl, trivial⟩ ?_
        obtain rfl := Option.some.inj hr
        replace hS := hS.tail
        exact ⟨rfl, (hS.down (Sg.Le.trans (Sg.Le.trans hle58 hle69) hle94))⟩
      · replace hq59 := iteF hc95 hq59
        refine W.skip ?_
        refine W.seq ?_
        refine W.region ?_
        refine WL.vS hS hE (runs_plain rfl) (Gives.p hE rfl) rfl ?_; clear hE a; intro a hE
        refine WL.vS hS hE (runs_plain rfl) (Gives.p hE rfl) rfl ?_; clear hE a; intro a hE
        refine WL.vS hS hE (runs_plain rfl) (Gives.p hE rfl) rfl ?_; clear hE a; intro a hE
        obtain ⟨x96, hx97, hq59⟩ := bindS hq59
        obtain ⟨hi98, hlt99, hy100⟩ := gx_some hx97
        obtain ⟨cs101, hl102, hR103, hat104⟩ := h2.at hy100
        subst hR103
        refine WL.vS hS hE (runs_plain rfl) (Gives.idx hE ((0 : Int)).toNat rfl rfl sl29 hi98 hlt99 (h2.aok hlt99)) rfl ?_; clear hE a; intro a hE
        refine WL.vS hS hE (runs_plain rfl) (Gives.load1 hE rfl (fun w h => hat104 w _ h) ty3) rfl ?_; clear hE a; intro a hE
        refine WL.vS hS hE (runs_plain rfl) (Gives.p hE rfl) rfl ?_; clear hE a; intro a hE
        refine WL.vS hS hE (runs_plain rfl) (Gives.p hE rfl) rfl ?_; clear hE a; intro a hE
        obtain ⟨q105, hq106, hq59⟩ := bindS hq59
        have hc_ := Fishref2Boundstighter_ok hS h92 hq106
        refine WL.fnq hE (hc_) (runs_plain rfl) bd56 rfl rfl rfl ?_
        clear hE hS hc_; rintro e w ⟨a107, c108, s110, rfl, hle111, h109, hS⟩; refine ⟨_, rfl, ?_⟩; clear a; intro a hE
        replace h1 := Sl.mono RPlanRule.mono hle111 h1
        replace h2 := Sl.mono RI.mono hle111 h2
        replace h92 := Sl.mono (RL.mono RI.mono) hle111 h92
        replace h73 := Sl.mono (RL.mono RI.mono) hle111 h73
        replace h0_0 := Sl.mono RPlanRule.mono hle111 h0_0
        refine WL.vS hS hE (runs_plain rfl) (Gives.p hE rfl) rfl ?_; clear hE a; intro a hE
        refine WL.vS hS hE (runs_plain rfl) (Gives.p hE rfl) rfl ?_; clear hE a; intro a hE
        refine WL.vS hS hE (runs_plain rfl) (Gives.p hE rfl) rfl ?_; clear hE a; intro a hE
        refine WL.vS hS hE (runs_plain rfl) (Gives.p hE rfl) rfl ?_; clear hE a; intro a hE
        refine WL.vS hS hE (runs_plain rfl) (Gives.p hE rfl) rfl ?_; clear hE a; intro a hE
        refine WL.nil ?_
        refine W.seq ?_
        refine W.region ?_
        refine WL.vS hS hE (runs_plain rfl) (Gives.p hE rfl) rfl ?_; clear hE a; intro a hE
        refine WL.vS hS hE (runs_plain rfl) (Gives.p hE rfl) rfl ?_; clear hE a; intro a hE
        refine WL.nil ?_
        refine W.cond hE rfl (fun hc112 => ?_) (fun hc112 => ?_)
        · replace hq59 := iteT hc112 hq59
          refine W.seq ?_
          refine W.region ?_
          refine WL.vS hS hE (runs_plain rfl) (Gives.p hE rfl) rfl ?_; clear hE a; intro a hE
          refine WL.nil ?_
          refine W.ret ?_
          subst hK74
          rw [← Option.some.inj hq59] at hr
          dsimp only at hr
          refine finG (fn := Try.f25) (rs := [.tmp 6]) (vs := [_]) hE rfl ⟨rfl, trivial⟩ ?_
          obtain rfl := Option.some.inj hr
          replace hS := hS.tail
          exact ⟨rfl, (hS.down (Sg.Le.trans (Sg.Le.trans (Sg.Le.trans hle58 hle69) hle94) hle111))⟩
        · replace hq59 := iteF hc112 hq59
          refine W.skip ?_
          refine W.region ?_
          refine WL.vS hS hE (runs_plain rfl) (Gives.inc hE rfl (by have := h2.small; omega)) rfl ?_; clear hE a; intro a hE
          refine WL.vS hS hE (runs_plain rfl) (Gives.p hE rfl) rfl ?_; clear hE a; intro a hE
          refine WL.nil ?_
          subst hK74
          exact ⟨rest63.length, Nat.lt_succ_self _, rest63, k61 + 1, q105.1, a107, c108, s110, rfl, hd64, (Sg.Le.trans (Sg.Le.trans hle69 hle94) hle111), hq59, h109, hE.pick _ ⟨rfl, rfl, rfl, rfl, rfl, rfl, rfl, trivial⟩, hS⟩
  · clear hE hS a w; rintro a w ⟨q70, a71, c72, s68, hle69, rfl, h73, hE, hS⟩
    dsimp only at hr
    replace h0_0 := Sl.mono RPlanRule.mono hle69 h0_0
    replace h1 := Sl.mono RPlanRule.mono hle69 h1
    replace h2 := Sl.mono RI.mono hle69 h2
    replace h56 := Sl.mono (RL.mono RI.mono) hle69 h56
    refine W.seq ?_
    refine W.seq ?_
    refine W.region ?_
    refine WL.vS hS hE (runs_plain rfl) (Gives.fld hE rfl fl24_1) rfl ?_; clear hE a; intro a hE
    refine WL.vS hS hE (runs_plain rfl) (Gives.loadB hE 0 rfl rfl rfl ty3) rfl ?_; clear hE a; intro a hE
    refine WL.vS hS hE (runs_plain rfl) (Gives.p hE rfl) rfl ?_; clear hE a; intro a hE
    refine WL.nil ?_
    obtain ⟨q125, hq124, hr⟩ := bindS hr
    refine W.cut (fun a w => ∃ (q130 : List (List Int)), ∃ (q134 : Int), ∃ (a131 : Option Addr), ∃ (c132 : Nat), ∃ (s128 : Sg), s68.Le s128 ∧ (.next (q130, q134)) = q125 ∧ Sl 1 (RL 1 (RI .i64)) s128 a131 c132 q130 ∧ Rep a 69 [(1, .slice a1 x1.length c1), (3, .pointer (some ⟨b51, 0, none⟩)), (7, .slice a131 q130.length c132)] ∧ St w s128 (pt b51 (.cells #[.int .i64 x0.Period, .int .i64 x0.Events, .slice a0_0 x0.Rules.length c0_0] 24 (0, 0)) :: R)) ?_ ?_
    · refine W.block ?_
      refine W.loop (fun m a w => ∃ (n126 : Nat), ∃ (q130 : List (List Int)), ∃ (q134 : Int), ∃ (a131 : Option Addr), ∃ (c132 : Nat), ∃ (s128 : Sg), n126 = m ∧ s68.Le s128 ∧ Fishref2Solvable.loop3 x0 n126 q130 q134 = some q125 ∧ Sl 1 (RL 1 (RI .i64)) s128 a131 c132 q130 ∧ Rep a 69 [(1, .slice a1 x1.length c1), (3, .pointer (some ⟨b51, 0, none⟩)), (7, .slice a131 q130.length c132), (50, .int .i64 x0.Events), (51, .int .i64 q134)] ∧ St w s128 (pt b51 (.cells #[.int .i64 x0.Period, .int .i64 x0.Events, .slice a0_0 x0.Rules.length c0_0] 24 (0, 0)) :: R)) (m := fu) ⟨fu, q70, 0, a71, c72, s68, rfl, (Sg.Le.refl _), hq124, h73, hE.pick _ ⟨rfl, rfl, rfl, rfl, rfl, trivial⟩, hS⟩ ?_
      clear hE hS a w hq124; rintro m127 a w ⟨n126, q130, q134, a131, c132, s128, rfl, hle129, hq124, h133, hE, hS⟩
      refine W.gen fun K135 hK135 => ?_
      replace h1 := Sl.mono RPlanRule.mono hle129 h1
      replace h73 := Sl.mono (RL.mono RI.mono) hle129 h73
      replace h0_0 := Sl.mono RPlanRule.mono hle129 h0_0
      rcases n126 with _ | n126
      · rw [Fishref2Solvable.loop3] at hq124; exact absurd hq124 (by simp)
      rw [Fishref2Solvable.loop3] at hq124
      refine W.seq ?_
      refine W.region ?_
      refine WL.vS hS hE (runs_plain rfl) (Gives.p hE rfl) rfl ?_; clear hE a; intro a hE
      refine WL.nil ?_
      refine W.seq ?_
      refine W.cond hE rfl (fun hc136 => ?_) (fun hc136 => ?_)
      · replace hq124 := iteT hc136 hq124
        refine W.skip ?_
        refine W.seq ?_
        refine W.block ?_
        refine W.seq ?_
        refine W.region ?_
        refine WL.vS hS hE (runs_plain rfl) (Gives.p hE rfl) rfl ?_; clear hE a; intro a hE
        refine WL.vS hS hE (runs_plain rfl) (Gives.p hE rfl) rfl ?_; clear hE a; intro a hE
        refine WL.nil ?_
        refine W.seq ?_
        refine W.region ?_
        refine WL.vS hS hE (runs_plain rfl) (Gives.p hE rfl) rfl ?_; clear hE a; intro a hE
        refine WL.vS hS hE (runs_plain rfl) (Gives.p hE rfl) rfl ?_; clear hE a; intro a hE
        obtain ⟨q137, hq138, hq124⟩ := bindS hq124
        have hc_ := Fishref2Boundstighter_ok hS h133 hq138
        refine WL.fnq hE (hc_) (runs_plain rfl) bd56 rfl rfl rfl ?_
        clear hE hS hc_; rintro e w ⟨a139, c140, s142, rfl, hle143, h141, hS⟩; refine ⟨_, rfl, ?_⟩; clear a; intro a hE
        replace h1 := Sl.mono RPlanRule.mono hle143 h1
        replace h133 := Sl.mono (RL.mono RI.mono) hle143 h133
        replace h0_0 := Sl.mono RPlanRule.mono hle143 h0_0
        refine WL.vS hS hE (runs_plain rfl) (Gives.p hE rfl) rfl ?_; clear hE a; intro a hE
        refine WL.vS hS hE (runs_plain rfl) (Gives.p hE rfl) rfl ?_; clear hE a; intro a hE
        refine WL.vS hS hE (runs_plain rfl) (Gives.p hE rfl) rfl ?_; clear hE a; intro a hE
        refine WL.vS hS hE (runs_plain rfl) (Gives.p hE rfl) rfl ?_; clear hE a; intro a hE
        refine WL.vS hS hE (runs_plain rfl) (Gives.p hE rfl) rfl ?_; clear hE a; intro a hE
        refine WL.nil ?_
        refine W.seq ?_
        refine W.region ?_
        refine WL.vS hS hE (runs_plain rfl) (Gives.p hE rfl) rfl ?_; clear hE a; intro a hE
        refine WL.vS hS hE (runs_plain rfl) (Gives.p hE rfl) rfl ?_; clear hE a; intro a hE
        refine WL.nil ?_
        refine W.cond hE rfl (fun hc144 => ?_) (fun hc144 => ?_)
        · replace hq124 := iteT hc144 hq124
          refine W.seq ?_
          refine W.region ?_
          refine WL.vS hS hE (runs_plain rfl) (Gives.p hE rfl) rfl ?_; clear hE a; intro a hE
          refine WL.nil ?_
          refine W.ret ?_
          subst hK135
          rw [← Option.some.inj hq124] at hr
          dsimp only at hr
          refine finG (fn := Try.f25) (rs := [.tmp 6]) (vs := [_]) hE rfl ⟨rfl, trivial⟩ ?_
          obtain rfl := Option.some.inj hr
          replace hS := hS.tail
          exact ⟨rfl, (hS.down (Sg.Le.trans (Sg.Le.trans (Sg.Le.trans hle58 hle69) hle129) hle143))⟩
        · replace hq124 := iteF hc144 hq124
          refine W.skip ?_
          refine W.region ?_
          refine WL.vS hS hE (runs_plain rfl) (Gives.p hE rfl) rfl ?_; clear hE a; intro a hE
          refine WL.vS hS hE (runs_plain rfl) (Gives.p hE rfl) rfl ?_; clear hE a; intro a hE
          refine WL.nil ?_
          subst hK135
          exact ⟨n126, Nat.lt_succ_self _, n126, q137.1, (w64 (q134 + 1)), a139, c140, s142, rfl, (Sg.Le.trans hle129 hle143), hq124, h141, hE.pick _ ⟨rfl, rfl, rfl, rfl, rfl, trivial⟩, hS⟩
      · replace hq124 := iteF hc136 hq124
        subst hK135
        refine W.exit rfl ?_
        exact ⟨q130, q134, a131, c132, s128, hle129, Option.some.inj hq124, h133, hE.pick _ ⟨rfl, rfl, rfl, trivial⟩, hS⟩
    · clear hE hS a w; rintro a w ⟨q130, q134, a131, c132, s128, hle129, rfl, h133, hE, hS⟩
      dsimp only at hr
      replace h1 := Sl.mono RPlanRule.mono hle129 h1
      replace h73 := Sl.mono (RL.mono RI.mono) hle129 h73
      replace h0_0 := Sl.mono RPlanRule.mono hle129 h0_0
      refine W.seq ?_
      refine W.region ?_
      refine WL.vS hS hE (runs_plain rfl) (Gives.p hE rfl) rfl ?_; clear hE a; intro a hE
      refine WL.nil ?_
      refine W.seq ?_
      refine W.region ?_
      refine WL.vS hS hE (runs_plain rfl) (Gives.loadBA hE 0 rfl rfl ty24) rfl ?_; clear hE a; intro a hE
      refine WL.vS hS hE (runs_plain rfl) (Gives.p hE rfl) rfl ?_; clear hE a; intro a hE
      refine WL.vS hS hE (runs_plain rfl) (Gives.p hE rfl) rfl ?_; clear hE a; intro a hE
      refine WL.vS hS hE (runs_plain rfl) (Gives.p hE rfl) rfl ?_; clear hE a; intro a hE
      refine WL.vS hS hE (runs_plain rfl) (Gives.p hE rfl) rfl ?_; clear hE a; intro a hE
      obtain ⟨q145, hq146, hr⟩ := bindS hr
      have hc_ := Fishref2shifts_v1_ok hS h0_0 h133 h1 hq146
      refine WL.fnq hE (hc_) (runs_plain rfl) bd58 rfl rfl rfl ?_
      clear hE hS hc_; rintro e w ⟨rfl, hS⟩; refine ⟨_, rfl, ?_⟩; clear a; intro a hE
      refine WL.vS hS hE (runs_plain rfl) (Gives.p hE rfl) rfl ?_; clear hE a; intro a hE
      refine WL.nil ?_
      refine W.ret ?_
      refine finG (fn := Try.f25) (rs := [.tmp 6]) (vs := [_]) hE rfl ⟨rfl, trivial⟩ ?_
      obtain rfl := Option.some.inj hr
      replace hS := hS.tail
      exact ⟨rfl, (hS.down (Sg.Le.trans (Sg.Le.trans hle58 hle69) hle129))⟩
set_option maxHeartbeats 8000000 in
theorem Fishref2TimesFault_ok  {w : World} {s : Sg} {R : List HP} {x0 : PlanPeriodic} {a0_0 : Option Addr} {c0_0 : Nat} {x1 : List Int} {a1 : Option Addr} {c1 : Nat} (hS : St w s (R)) (h0_0 : Sl 5 RPlanRule s a0_0 c0_0 x0.Rules) (h1 : Sl 1 (RI .i64) s a1 c1 x1) {r : Int} (hr : Fishref2TimesFault x0 x1 = r) :
    Calls Try.prog 15 [.agg [.int .i64 x0.Period, .int .i64 x0.Events, .slice a0_0 x0.Rules.length c0_0].toArray, .slice a1 x1.length c1].toArray w (fun e w => e = .returned (.int .i64 r) ∧ St w s (R)) := by
  refine enter Try.func15 rfl rfl rfl fun a hE => ?_
  rw [Fishref2TimesFault] at hr
  refine W.seq ?_
  refine W.region ?_
  refine WL.box hE hS (runs_plain rfl) rfl rfl rfl ?_; clear hE hS a w; intro b51 a w hE hS
  refine WL.vS hS hE (runs_plain rfl) (Gives.p hE rfl) rfl ?_; clear hE a; intro a hE
  refine WL.nil ?_
  refine W.seq ?_
  refine W.seq ?_
  refine W.region ?_
  refine WL.vS hS hE (runs_plain rfl) (Gives.loadBA hE 0 rfl rfl ty24) rfl ?_; clear hE a; intro a hE
  refine WL.fnq hE (Fishref2PeriodicFault_ok hS h0_0 rfl (r := Fishref2PeriodicFault x0)) (runs_plain rfl) bd11 rfl rfl rfl ?_
  clear hE hS; rintro e w ⟨rfl, hS⟩; refine ⟨_, rfl, ?_⟩; clear a; intro a hE
  refine WL.vS hS hE (runs_plain rfl) (Gives.p hE rfl) rfl ?_; clear hE a; intro a hE
  refine WL.nil ?_
  refine W.seq ?_
  refine W.region ?_
  refine WL.vS hS hE (runs_plain rfl) (Gives.p hE rfl) rfl ?_; clear hE a; intro a hE
  refine WL.vS hS hE (runs_plain rfl) (Gives.p hE rfl) rfl ?_; clear hE a; intro a hE
  refine WL.nil ?_
  refine W.cond hE rfl (fun hc52 => ?_) (fun hc52 => ?_)
  · replace hr := iteT hc52 hr
    refine W.seq ?_
    refine W.region ?_
    refine WL.vS hS hE (runs_plain rfl) (Gives.p hE rfl) rfl ?_; clear hE a; intro a hE
    refine WL.vS hS hE (runs_plain rfl) (Gives.p hE rfl) rfl ?_; clear hE a; intro a hE
    refine WL.nil ?_
    refine W.ret ?_
    refine finG (fn := Try.f15) (rs := [.tmp 4]) (vs := [_]) hE rfl ⟨rfl, trivial⟩ ?_
    subst hr
    replace hS := hS.tail
    exact ⟨rfl, hS⟩
  · replace hr := iteF hc52 hr
    refine W.skip ?_
    refine W.seq ?_
    refine W.seq ?_
    refine W.region ?_
    refine WL.vS hS hE (runs_plain rfl) (Gives.p hE rfl) rfl ?_; clear hE a; intro a hE
    refine WL.vS hS hE (runs_plain rfl) (Gives.len hE rfl sl29) rfl ?_; clear hE a; intro a hE
    refine WL.vS hS hE (runs_plain rfl) (Gives.fld hE rfl fl24_1) rfl ?_; clear hE a; intro a hE
    refine WL.vS hS hE (runs_plain rfl) (Gives.loadB hE 0 rfl rfl rfl ty3) rfl ?_; clear hE a; intro a hE
    refine WL.vS hS hE (runs_plain rfl) (Gives.p hE rfl) rfl ?_; clear hE a; intro a hE
    refine WL.nil ?_
    refine W.cond hE rfl (fun hc53 => ?_) (fun hc53 => ?_)
    · replace hr := iteT hc53 hr
      refine W.seq ?_
      refine W.region ?_
      refine WL.vS hS hE (runs_plain rfl) (Gives.p hE rfl) rfl ?_; clear hE a; intro a hE
      refine WL.nil ?_
      refine W.ret ?_
      refine finG (fn := Try.f15) (rs := [.tmp 4]) (vs := [_]) hE rfl ⟨rfl, trivial⟩ ?_
      subst hr
      replace hS := hS.tail
      exact ⟨rfl, hS⟩
    · replace hr := iteF hc53 hr
      refine W.skip ?_
      refine W.seq ?_
      refine W.seq ?_
      refine W.region ?_
      refine WL.vS hS hE (runs_plain rfl) (Gives.p hE rfl) rfl ?_; clear hE a; intro a hE
      refine WL.vS hS hE (runs_plain rfl) (Gives.len hE rfl sl29) rfl ?_; clear hE a; intro a hE
      refine WL.vS hS hE (runs_plain rfl) (Gives.p hE rfl) rfl ?_; clear hE a; intro a hE
      refine WL.nil ?_
      obtain ⟨q55, hq54, hr⟩ := bndS hr
      refine W.cut (fun a w => (.next ()) = q55 ∧ Rep a 31 [] ∧ St w s (pt b51 (.cells #[.int .i64 x0.Period, .int .i64 x0.Events, .slice a0_0 x0.Rules.length c0_0] 24 (0, 0)) :: R)) ?_ ?_
      · refine W.block ?_
        refine W.loop (fun m a w => ∃ (rest58 : List Int) (k56 : Nat), rest58.length = m ∧ x1.drop k56 = rest58 ∧ Fishref2TimesFault.loop1 x0 rest58 = q55 ∧ Rep a 31 [(2, .pointer (some ⟨b51, 0, none⟩)), (18, .slice a1 x1.length c1), (19, .int .i64 ((x1).length : Int)), (20, .int .i64 ((k56 : Nat) : Int))] ∧ St w s (pt b51 (.cells #[.int .i64 x0.Period, .int .i64 x0.Events, .slice a0_0 x0.Rules.length c0_0] 24 (0, 0)) :: R)) (m := x1.length) ⟨x1, 0, rfl, rfl, hq54, hE.pick _ ⟨rfl, rfl, rfl, rfl, trivial⟩, hS⟩ ?_
        clear hE hS a w hq54; rintro m62 a w ⟨rest58, k56, rfl, hd59, hq54, hE, hS⟩
        refine W.gen fun K65 hK65 => ?_
        rcases rest58 with _ | ⟨x57, rest58⟩
        · have hlt60 := drop_nil hd59
          refine W.seq ?_
          refine W.region ?_
          refine WL.vS hS hE (runs_plain rfl) (Gives.p hE rfl) rfl ?_; clear hE a; intro a hE
          refine WL.nil ?_
          refine W.seq ?_
          refine W.condF hE rfl (decide_eq_false (by omega)) ?_
          subst hK65
          refine W.exit rfl ?_
          exact ⟨hq54, hE.pick _ trivial, hS⟩
        · obtain ⟨hlt60, hx61, hd59⟩ := drop_cons hd59
          rw [Fishref2TimesFault.loop1] at hq54
          refine W.seq ?_
          refine W.region ?_
          refine WL.vS hS hE (runs_plain rfl) (Gives.p hE rfl) rfl ?_; clear hE a; intro a hE
          refine WL.nil ?_
          refine W.seq ?_
          refine W.condT hE rfl (decide_eq_true (by omega)) ?_
          refine W.skip ?_
          refine W.seq ?_
          refine W.block ?_
          refine W.seq ?_
          refine W.region ?_
          obtain ⟨cs66, hl67, hR68, hat69⟩ := h1.at hx61
          subst hR68
          refine WL.vS hS hE (runs_plain rfl) (Gives.idx hE k56 rfl rfl sl29 rfl hlt60 (h1.aok hlt60)) rfl ?_; clear hE a; intro a hE
          refine WL.vS hS hE (runs_plain rfl) (Gives.load1 hE rfl (fun w h => hat69 w _ h) ty3) rfl ?_; clear hE a; intro a hE
          refine WL.vS hS hE (runs_plain rfl) (Gives.p hE rfl) rfl ?_; clear hE a; intro a hE
          refine WL.nil ?_
          refine W.seq ?_
          refine W.region ?_
          refine WL.vS hS hE (runs_plain rfl) (Gives.p hE rfl) rfl ?_; clear hE a; intro a hE
          refine WL.vS hS hE (runs_plain rfl) (Gives.fld hE rfl fl24_0) rfl ?_; clear hE a; intro a hE
          refine WL.vS hS hE (runs_plain rfl) (Gives.loadB hE 0 rfl rfl rfl ty3) rfl ?_; clear hE a; intro a hE
          refine WL.vS hS hE (runs_plain rfl) (Gives.p hE rfl) rfl ?_; clear hE a; intro a hE
          refine WL.fnq hE (Fishref2within_ok hS  rfl (r := Fishref2within x57 0 (w64 (x0.Period - 1)))) (runs_plain rfl) bd36 rfl rfl rfl ?_
          clear hE hS; rintro e w ⟨rfl, hS⟩; refine ⟨_, rfl, ?_⟩; clear a; intro a hE
          refine WL.vS hS hE (runs_plain rfl) (Gives.p hE rfl) rfl ?_; clear hE a; intro a hE
          refine WL.nil ?_
          refine W.cond hE rfl (fun hc70 => ?_) (fun hc70 => ?_)
          · replace hq54 := iteT hc70 hq54
            refine W.seq ?_
            refine W.region ?_
            refine WL.vS hS hE (runs_plain rfl) (Gives.p hE rfl) rfl ?_; clear hE a; intro a hE
            refine WL.nil ?_
            refine W.ret ?_
            subst hK65
            rw [← hq54] at hr
            dsimp only at hr
            refine finG (fn := Try.f15) (rs := [.tmp 4]) (vs := [_]) hE rfl ⟨rfl, trivial⟩ ?_
            subst hr
            replace hS := hS.tail
            exact ⟨rfl, hS⟩
          · replace hq54 := iteF hc70 hq54
            refine W.skip ?_
            refine W.region ?_
            refine WL.vS hS hE (runs_plain rfl) (Gives.inc hE rfl (by have := h1.small; omega)) rfl ?_; clear hE a; intro a hE
            refine WL.vS hS hE (runs_plain rfl) (Gives.p hE rfl) rfl ?_; clear hE a; intro a hE
            refine WL.nil ?_
            subst hK65
            exact ⟨rest58.length, Nat.lt_succ_self _, rest58, k56 + 1, rfl, hd59, hq54, hE.pick _ ⟨rfl, rfl, rfl, rfl, trivial⟩, hS⟩
      · clear hE hS a w; rintro a w ⟨rfl, hE, hS⟩
        dsimp only at hr
        refine W.seq ?_
        refine W.region ?_
        refine WL.vS hS hE (runs_plain rfl) (Gives.p hE rfl) rfl ?_; clear hE a; intro a hE
        refine WL.nil ?_
        refine W.ret ?_
        refine finG (fn := Try.f15) (rs := [.tmp 4]) (vs := [_]) hE rfl ⟨rfl, trivial⟩ ?_
        subst hr
        replace hS := hS.tail
        exact ⟨rfl, hS⟩
set_option maxHeartbeats 8000000 in
theorem Fishref2GapOf_ok {fu : Nat}  {w : World} {s : Sg} {R : List HP} {x0 : PlanPeriodic} {a0_0 : Option Addr} {c0_0 : Nat} {x1 : PlanRule} {x2 : List Int} {a2 : Option Addr} {c2 : Nat} (hS : St w s (R)) (_h0_0 : Sl 5 RPlanRule s a0_0 c0_0 x0.Rules) (h2 : Sl 1 (RI .i64) s a2 c2 x2) {r : Int} (hr : Fishref2GapOf fu x0 x1 x2 = some r) :
    Calls Try.prog 18 [.agg [.int .i64 x0.Period, .int .i64 x0.Events, .slice a0_0 x0.Rules.length c0_0].toArray, .agg (PlanRule.cells x1).toArray, .slice a2 x2.length c2].toArray w (fun e w => e = .returned (.int .i64 r) ∧ St w s (R)) := by
  refine enter Try.func18 rfl rfl rfl fun a hE => ?_
  rw [Fishref2GapOf] at hr
  refine W.seq ?_
  refine W.region ?_
  refine WL.box hE hS (runs_plain rfl) rfl rfl rfl ?_; clear hE hS a w; intro b51 a w hE hS
  refine WL.box hE hS (runs_plain rfl) rfl rfl rfl ?_; clear hE hS a w; intro b52 a w hE hS
  refine WL.vS hS hE (runs_plain rfl) (Gives.p hE rfl) rfl ?_; clear hE a; intro a hE
  refine WL.nil ?_
  refine W.seq ?_
  refine W.regionQ (C := fun w => St w s (pt b52 (.cells (PlanRule.cells x1).toArray 37 (0, 0)) :: pt b51 (.cells #[.int .i64 x0.Period, .int .i64 x0.Events, .slice a0_0 x0.Rules.length c0_0] 24 (0, 0)) :: R)) mixed (by kernel_rfl) hS.drew ?_
  refine QL.v hE (runs_plain rfl) (Gives.p hE rfl) rfl ?_; clear hE a; intro a hE
  refine QL.v hE (runs_plain rfl) (Gives.fld hE rfl fl37_1) rfl ?_; clear hE a; intro a hE
  refine QL.v hE (runs_plain rfl) (Gives.loadB hE 0 rfl rfl rfl ty3) rfl ?_; clear hE a; intro a hE
  obtain ⟨x53, hx54, hr⟩ := bindS hr
  obtain ⟨hi55, hlt56, hy57⟩ := gx_some hx54
  obtain ⟨cs58, hl59, hR60, hat61⟩ := h2.at hy57
  subst hR60
  refine QL.v hE (runs_plain rfl) (Gives.idx hE (x1.To).toNat rfl rfl sl29 hi55 hlt56 (h2.aok hlt56)) rfl ?_; clear hE a; intro a hE
  refine QL.v hE (runs_plain rfl) (Gives.load1 hE rfl (fun w h => hat61 w _ h) ty3) rfl ?_; clear hE a; intro a hE
  refine QL.v hE (runs_plain rfl) (Gives.p hE rfl) rfl ?_; clear hE a; intro a hE
  refine QL.v hE (runs_plain rfl) (Gives.fld hE rfl fl37_0) rfl ?_; clear hE a; intro a hE
  refine QL.v hE (runs_plain rfl) (Gives.loadB hE 0 rfl rfl rfl ty3) rfl ?_; clear hE a; intro a hE
  obtain ⟨x62, hx63, hr⟩ := bindS hr
  obtain ⟨hi64, hlt65, hy66⟩ := gx_some hx63
  obtain ⟨cs67, hl68, hR69, hat70⟩ := h2.at hy66
  subst hR69
  refine QL.v hE (runs_plain rfl) (Gives.idx hE (x1.From).toNat rfl rfl sl29 hi64 hlt65 (h2.aok hlt65)) rfl ?_; clear hE a; intro a hE
  refine QL.v hE (runs_plain rfl) (Gives.load1 hE rfl (fun w h => hat70 w _ h) ty3) rfl ?_; clear hE a; intro a hE
  refine QL.v hE (runs_plain rfl) (Gives.p hE rfl) rfl ?_; clear hE a; intro a hE
  refine QL.v hE (runs_plain rfl) (Gives.p hE rfl) rfl ?_; clear hE a; intro a hE
  refine QL.nil ?_; clear hS w; intro w hS
  refine W.seq ?_
  obtain ⟨q72, hq71, hr⟩ := bindS hr
  refine W.cut (fun a w => ∃ (q77 : Int), q77 = q72 ∧ Rep a 39 [(3, .pointer (some ⟨b51, 0, none⟩)), (4, .pointer (some ⟨b52, 0, none⟩)), (7, .int .i64 q77)] ∧ St w s (pt b52 (.cells (PlanRule.cells x1).toArray 37 (0, 0)) :: pt b51 (.cells #[.int .i64 x0.Period, .int .i64 x0.Events, .slice a0_0 x0.Rules.length c0_0] 24 (0, 0)) :: R)) ?_ ?_
  · refine W.block ?_
    refine W.loop (fun m a w => ∃ (n73 : Nat), ∃ (q77 : Int), n73 = m ∧ Fishref2GapOf.loop1 x0 x1 n73 q77 = some q72 ∧ Rep a 39 [(3, .pointer (some ⟨b51, 0, none⟩)), (4, .pointer (some ⟨b52, 0, none⟩)), (7, .int .i64 q77)] ∧ St w s (pt b52 (.cells (PlanRule.cells x1).toArray 37 (0, 0)) :: pt b51 (.cells #[.int .i64 x0.Period, .int .i64 x0.Events, .slice a0_0 x0.Rules.length c0_0] 24 (0, 0)) :: R)) (m := fu) ⟨fu, (w64 (x53 - x62)), rfl, hq71, hE.pick _ ⟨rfl, rfl, rfl, trivial⟩, hS⟩ ?_
    clear hE hS a w hq71; rintro m74 a w ⟨n73, q77, rfl, hq71, hE, hS⟩
    refine W.gen fun K78 hK78 => ?_
    rcases n73 with _ | n73
    · rw [Fishref2GapOf.loop1] at hq71; exact absurd hq71 (by simp)
    rw [Fishref2GapOf.loop1] at hq71
    refine W.seq ?_
    refine W.seq ?_
    refine W.region ?_
    refine WL.vS hS hE (runs_plain rfl) (Gives.p hE rfl) rfl ?_; clear hE a; intro a hE
    refine WL.vS hS hE (runs_plain rfl) (Gives.fld hE rfl fl37_2) rfl ?_; clear hE a; intro a hE
    refine WL.vS hS hE (runs_plain rfl) (Gives.loadB hE 0 rfl rfl rfl ty3) rfl ?_; clear hE a; intro a hE
    refine WL.vS hS hE (runs_plain rfl) (Gives.p hE rfl) rfl ?_; clear hE a; intro a hE
    refine WL.nil ?_
    refine W.cond hE rfl (fun hc79 => ?_) (fun hc79 => ?_)
    · replace hq71 := iteT hc79 hq71
      refine W.skip ?_
      refine W.block ?_
      refine W.region ?_
      refine WL.vS hS hE (runs_plain rfl) (Gives.p hE rfl) rfl ?_; clear hE a; intro a hE
      refine WL.vS hS hE (runs_plain rfl) (Gives.fld hE rfl fl24_0) rfl ?_; clear hE a; intro a hE
      refine WL.vS hS hE (runs_plain rfl) (Gives.loadB hE 1 rfl rfl rfl ty3) rfl ?_; clear hE a; intro a hE
      refine WL.vS hS hE (runs_plain rfl) (Gives.p hE rfl) rfl ?_; clear hE a; intro a hE
      refine WL.vS hS hE (runs_plain rfl) (Gives.p hE rfl) rfl ?_; clear hE a; intro a hE
      refine WL.nil ?_
      subst hK78
      exact ⟨n73, Nat.lt_succ_self _, n73, (w64 (q77 + x0.Period)), rfl, hq71, hE.pick _ ⟨rfl, rfl, rfl, trivial⟩, hS⟩
    · replace hq71 := iteF hc79 hq71
      subst hK78
      refine W.exit rfl ?_
      exact ⟨q77, Option.some.inj hq71, hE.pick _ ⟨rfl, rfl, rfl, trivial⟩, hS⟩
  · clear hE hS a w; rintro a w ⟨q77, rfl, hE, hS⟩
    refine W.seq ?_
    obtain ⟨q81, hq80, hr⟩ := bindS hr
    refine W.cut (fun a w => ∃ (q86 : Int), q86 = q81 ∧ Rep a 39 [(7, .int .i64 q86)] ∧ St w s (pt b52 (.cells (PlanRule.cells x1).toArray 37 (0, 0)) :: pt b51 (.cells #[.int .i64 x0.Period, .int .i64 x0.Events, .slice a0_0 x0.Rules.length c0_0] 24 (0, 0)) :: R)) ?_ ?_
    · refine W.block ?_
      refine W.loop (fun m a w => ∃ (n82 : Nat), ∃ (q86 : Int), n82 = m ∧ Fishref2GapOf.loop2 x0 x1 n82 q86 = some q81 ∧ Rep a 39 [(3, .pointer (some ⟨b51, 0, none⟩)), (4, .pointer (some ⟨b52, 0, none⟩)), (7, .int .i64 q86)] ∧ St w s (pt b52 (.cells (PlanRule.cells x1).toArray 37 (0, 0)) :: pt b51 (.cells #[.int .i64 x0.Period, .int .i64 x0.Events, .slice a0_0 x0.Rules.length c0_0] 24 (0, 0)) :: R)) (m := fu) ⟨fu, q77, rfl, hq80, hE.pick _ ⟨rfl, rfl, rfl, trivial⟩, hS⟩ ?_
      clear hE hS a w hq80; rintro m83 a w ⟨n82, q86, rfl, hq80, hE, hS⟩
      refine W.gen fun K87 hK87 => ?_
      rcases n82 with _ | n82
      · rw [Fishref2GapOf.loop2] at hq80; exact absurd hq80 (by simp)
      rw [Fishref2GapOf.loop2] at hq80
      refine W.seq ?_
      refine W.seq ?_
      refine W.region ?_
      refine WL.vS hS hE (runs_plain rfl) (Gives.p hE rfl) rfl ?_; clear hE a; intro a hE
      refine WL.vS hS hE (runs_plain rfl) (Gives.fld hE rfl fl37_2) rfl ?_; clear hE a; intro a hE
      refine WL.vS hS hE (runs_plain rfl) (Gives.loadB hE 0 rfl rfl rfl ty3) rfl ?_; clear hE a; intro a hE
      refine WL.vS hS hE (runs_plain rfl) (Gives.fld hE rfl fl24_0) rfl ?_; clear hE a; intro a hE
      refine WL.vS hS hE (runs_plain rfl) (Gives.loadB hE 1 rfl rfl rfl ty3) rfl ?_; clear hE a; intro a hE
      refine WL.vS hS hE (runs_plain rfl) (Gives.p hE rfl) rfl ?_; clear hE a; intro a hE
      refine WL.vS hS hE (runs_plain rfl) (Gives.p hE rfl) rfl ?_; clear hE a; intro a hE
      refine WL.nil ?_
      refine W.cond hE rfl (fun hc88 => ?_) (fun hc88 => ?_)
      · replace hq80 := iteT hc88 hq80
        refine W.skip ?_
        refine W.block ?_
        refine W.region ?_
        refine WL.vS hS hE (runs_plain rfl) (Gives.p hE rfl) rfl ?_; clear hE a; intro a hE
        refine WL.vS hS hE (runs_plain rfl) (Gives.fld hE rfl fl24_0) rfl ?_; clear hE a; intro a hE
        refine WL.vS hS hE (runs_plain rfl) (Gives.loadB hE 1 rfl rfl rfl ty3) rfl ?_; clear hE a; intro a hE
        refine WL.vS hS hE (runs_plain rfl) (Gives.p hE rfl) rfl ?_; clear hE a; intro a hE
        refine WL.vS hS hE (runs_plain rfl) (Gives.p hE rfl) rfl ?_; clear hE a; intro a hE
        refine WL.nil ?_
        subst hK87
        exact ⟨n82, Nat.lt_succ_self _, n82, (w64 (q86 - x0.Period)), rfl, hq80, hE.pick _ ⟨rfl, rfl, rfl, trivial⟩, hS⟩
      · replace hq80 := iteF hc88 hq80
        subst hK87
        refine W.exit rfl ?_
        exact ⟨q86, Option.some.inj hq80, hE.pick _ ⟨rfl, trivial⟩, hS⟩
    · clear hE hS a w; rintro a w ⟨q86, rfl, hE, hS⟩
      refine W.seq ?_
      refine W.region ?_
      refine WL.vS hS hE (runs_plain rfl) (Gives.p hE rfl) rfl ?_; clear hE a; intro a hE
      refine WL.vS hS hE (runs_plain rfl) (Gives.p hE rfl) rfl ?_; clear hE a; intro a hE
      refine WL.nil ?_
      refine W.ret ?_
      refine finG (fn := Try.f18) (rs := [.tmp 6]) (vs := [_]) hE rfl ⟨rfl, trivial⟩ ?_
      obtain rfl := Option.some.inj hr
      replace hS := hS.tail
      replace hS := hS.tail
      exact ⟨rfl, hS⟩
set_option maxHeartbeats 8000000 in
theorem Fishref2BrokenOf_1_v1_ok {fu : Nat}  {w : World} {s : Sg} {R : List HP} {pb0 : Nat} {pb1 : Nat} {x0 : PlanRule} {y0 : PlanPeriodic} {a_y0_2 : Option Addr} {c_y0_2 : Nat} {y1 : List Int} {a_y1_0 : Option Addr} {c_y1_0 : Nat} (hS : St w s (pt pb0 (.cells #[.int .i64 y0.Period, .int .i64 y0.Events, .slice a_y0_2 y0.Rules.length c_y0_2] 24 (0, 0)) :: pt pb1 (.cells #[.slice a_y1_0 y1.length c_y1_0] 29 (0, 0)) :: R)) (h_y0_2 : Sl 5 RPlanRule s a_y0_2 c_y0_2 y0.Rules) (h_y1_0 : Sl 1 (RI .i64) s a_y1_0 c_y1_0 y1) {r : Bool} (hr : Fishref2BrokenOf_1_v1 fu x0 y0 y1 = some r) :
    Calls Try.prog 42 [.agg (PlanRule.cells x0).toArray, .pointer (some ⟨pb0, 0, none⟩), .pointer (some ⟨pb1, 0, none⟩)].toArray w (fun e w => e = .returned (.bool r) ∧ St w s (pt pb0 (.cells #[.int .i64 y0.Period, .int .i64 y0.Events, .slice a_y0_2 y0.Rules.length c_y0_2] 24 (0, 0)) :: pt pb1 (.cells #[.slice a_y1_0 y1.length c_y1_0] 29 (0, 0)) :: R)) := by
  refine enter Try.func42 rfl rfl rfl fun a hE => ?_
  rw [Fishref2BrokenOf_1_v1] at hr
  refine W.seq ?_
  refine W.region ?_
  refine WL.box hE hS (runs_plain rfl) rfl rfl rfl ?_; clear hE hS a w; intro b51 a w hE hS
  refine WL.vS hS hE (runs_plain rfl) (Gives.p hE rfl) rfl ?_; clear hE a; intro a hE
  refine WL.nil ?_
  refine W.seq ?_
  refine W.regionQ (C := fun w => St w s (pt b51 (.cells (PlanRule.cells x0).toArray 37 (0, 0)) :: pt pb0 (.cells #[.int .i64 y0.Period, .int .i64 y0.Events, .slice a_y0_2 y0.Rules.length c_y0_2] 24 (0, 0)) :: pt pb1 (.cells #[.slice a_y1_0 y1.length c_y1_0] 29 (0, 0)) :: R)) mixed (by kernel_rfl) hS.drew ?_
  refine QL.v hE (runs_plain rfl) (Gives.loadBA hE 1 rfl rfl ty24) rfl ?_; clear hE a; intro a hE
  refine QL.v hE (runs_plain rfl) (Gives.loadBA hE 0 rfl rfl ty37) rfl ?_; clear hE a; intro a hE
  refine QL.v hE (runs_plain rfl) (Gives.loadB hE 2 rfl rfl rfl ty29) rfl ?_; clear hE a; intro a hE
  obtain ⟨q52, hq53, hr⟩ := bindS hr
  refine QL.fnq hE (fun w hS => Fishref2GapOf_ok hS h_y0_2 h_y1_0 hq53) (runs_plain rfl) bd18 rfl rfl rfl ?_; clear hE a; intro a hE
  refine QL.v hE (runs_plain rfl) (Gives.fld hE rfl fl37_3) rfl ?_; clear hE a; intro a hE
  refine QL.v hE (runs_plain rfl) (Gives.loadB hE 0 rfl rfl rfl ty3) rfl ?_; clear hE a; intro a hE
  refine QL.v hE (runs_plain rfl) (Gives.p hE rfl) rfl ?_; clear hE a; intro a hE
  refine QL.v hE (runs_plain rfl) (Gives.p hE rfl) rfl ?_; clear hE a; intro a hE
  refine QL.nil ?_; clear hS w; intro w hS
  refine W.ret ?_
  refine finG (fn := Try.f42) (rs := [.tmp 4]) (vs := [_]) hE rfl ⟨rfl, trivial⟩ ?_
  obtain rfl := Option.some.inj hr
  replace hS := hS.tail
  exact ⟨rfl, hS⟩
set_option maxHeartbeats 8000000 in
theorem SlicesIndexFuncLplanRule_v1_ok {fu : Nat}  {w : World} {s : Sg} {R : List HP} {pb0 : Nat} {pb1 : Nat} {x0 : List PlanRule} {a0 : Option Addr} {c0 : Nat} {y0 : PlanPeriodic} {a_y0_2 : Option Addr} {c_y0_2 : Nat} {y1 : List Int} {a_y1_0 : Option Addr} {c_y1_0 : Nat} (hS : St w s (pt pb0 (.cells #[.int .i64 y0.Period, .int .i64 y0.Events, .slice a_y0_2 y0.Rules.length c_y0_2] 24 (0, 0)) :: pt pb1 (.cells #[.slice a_y1_0 y1.length c_y1_0] 29 (0, 0)) :: R)) (h0 : Sl 5 RPlanRule s a0 c0 x0) (h_y0_2 : Sl 5 RPlanRule s a_y0_2 c_y0_2 y0.Rules) (h_y1_0 : Sl 1 (RI .i64) s a_y1_0 c_y1_0 y1) {r : Int} (hr : SlicesIndexFuncLplanRule_v1 fu x0 y0 y1 = some r) :
    Calls Try.prog 39 [.slice a0 x0.length c0, .func (.func 42) #[] #[.pointer (some ⟨pb0, 0, none⟩), .pointer (some ⟨pb1, 0, none⟩)]].toArray w (fun e w => e = .returned (.int .i64 r) ∧ St w s (pt pb0 (.cells #[.int .i64 y0.Period, .int .i64 y0.Events, .slice a_y0_2 y0.Rules.length c_y0_2] 24 (0, 0)) :: pt pb1 (.cells #[.slice a_y1_0 y1.length c_y1_0] 29 (0, 0)) :: R)) := by
  refine enter Try.func39 rfl rfl rfl fun a hE => ?_
  rw [SlicesIndexFuncLplanRule_v1] at hr
  refine W.seq ?_
  refine W.region ?_
  refine WL.vS hS hE (runs_plain rfl) (Gives.p hE rfl) rfl ?_; clear hE a; intro a hE
  refine WL.nil ?_
  refine W.seq ?_
  refine W.seq ?_
  refine W.region ?_
  refine WL.vS hS hE (runs_plain rfl) (Gives.p hE rfl) rfl ?_; clear hE a; intro a hE
  refine WL.vS hS hE (runs_plain rfl) (Gives.len hE rfl sl22) rfl ?_; clear hE a; intro a hE
  refine WL.vS hS hE (runs_plain rfl) (Gives.p hE rfl) rfl ?_; clear hE a; intro a hE
  refine WL.nil ?_
  obtain ⟨q52, hq51, hr⟩ := bindS hr
  refine W.cut (fun a w => (.next ()) = q52 ∧ Rep a 19 [] ∧ St w s (pt pb0 (.cells #[.int .i64 y0.Period, .int .i64 y0.Events, .slice a_y0_2 y0.Rules.length c_y0_2] 24 (0, 0)) :: pt pb1 (.cells #[.slice a_y1_0 y1.length c_y1_0] 29 (0, 0)) :: R)) ?_ ?_
  · refine W.block ?_
    refine W.loop (fun m a w => ∃ (rest55 : List PlanRule) (k53 : Nat), rest55.length = m ∧ x0.drop k53 = rest55 ∧ SlicesIndexFuncLplanRule_v1.loop1 y0 y1 fu rest55 k53 = some q52 ∧ Rep a 19 [(0, .slice a0 x0.length c0), (1, .func (.func 42) #[] #[.pointer (some ⟨pb0, 0, none⟩), .pointer (some ⟨pb1, 0, none⟩)]), (7, .int .i64 ((x0).length : Int)), (8, .int .i64 ((k53 : Nat) : Int))] ∧ St w s (pt pb0 (.cells #[.int .i64 y0.Period, .int .i64 y0.Events, .slice a_y0_2 y0.Rules.length c_y0_2] 24 (0, 0)) :: pt pb1 (.cells #[.slice a_y1_0 y1.length c_y1_0] 29 (0, 0)) :: R)) (m := x0.length) ⟨x0, 0, rfl, rfl, hq51, hE.pick _ ⟨rfl, rfl, rfl, rfl, trivial⟩, hS⟩ ?_
    clear hE hS a w hq51; rintro m59 a w ⟨rest55, k53, rfl, hd56, hq51, hE, hS⟩
    refine W.gen fun K62 hK62 => ?_
    rcases rest55 with _ | ⟨x54, rest55⟩
    · have hlt57 := drop_nil hd56
      refine W.seq ?_
      refine W.region ?_
      refine WL.vS hS hE (runs_plain rfl) (Gives.p hE rfl) rfl ?_; clear hE a; intro a hE
      refine WL.nil ?_
      refine W.seq ?_
      refine W.condF hE rfl (decide_eq_false (by omega)) ?_
      subst hK62
      refine W.exit rfl ?_
      exact ⟨Option.some.inj hq51, hE.pick _ trivial, hS⟩
    · obtain ⟨hlt57, hx58, hd56⟩ := drop_cons hd56
      rw [SlicesIndexFuncLplanRule_v1.loop1] at hq51
      refine W.seq ?_
      refine W.region ?_
      refine WL.vS hS hE (runs_plain rfl) (Gives.p hE rfl) rfl ?_; clear hE a; intro a hE
      refine WL.nil ?_
      refine W.seq ?_
      refine W.condT hE rfl (decide_eq_true (by omega)) ?_
      refine W.skip ?_
      refine W.seq ?_
      refine W.block ?_
      refine W.seq ?_
      refine W.region ?_
      refine WL.vS hS hE (runs_plain rfl) (Gives.p hE rfl) rfl ?_; clear hE a; intro a hE
      refine WL.vS hS hE (runs_plain rfl) (Gives.p hE rfl) rfl ?_; clear hE a; intro a hE
      refine WL.nil ?_
      refine W.seq ?_
      refine W.region ?_
      refine WL.vS hS hE (runs_plain rfl) (Gives.p hE rfl) rfl ?_; clear hE a; intro a hE
      refine WL.vS hS hE (runs_plain rfl) (Gives.p hE rfl) rfl ?_; clear hE a; intro a hE
      refine WL.vS hS hE (runs_plain rfl) (Gives.p hE rfl) rfl ?_; clear hE a; intro a hE
      obtain ⟨cs63, hl64, hR65, hat66⟩ := h0.at hx58
      subst hR65
      refine WL.vS hS hE (runs_plain rfl) (Gives.idx hE k53 rfl rfl sl22 rfl hlt57 (h0.aok hlt57)) rfl ?_; clear hE a; intro a hE
      refine WL.vS hS hE (runs_plain rfl) (Gives.loadA hE rfl (fun w h => hat66 w _ h) ty37) rfl ?_; clear hE a; intro a hE
      obtain ⟨q67, hq68, hq51⟩ := bindS hq51
      have hc_ := Fishref2BrokenOf_1_v1_ok (y0 := y0) hS h_y0_2 h_y1_0 hq68
      refine WL.fnw hE (hc_) rfl (runs_plain rfl) bd42 rfl rfl rfl ?_
      clear hE hS hc_; rintro e w ⟨rfl, hS⟩; refine ⟨_, rfl, ?_⟩; clear a; intro a hE
      refine WL.nil ?_
      refine W.cond hE rfl (fun hc69 => ?_) (fun hc69 => ?_)
      · replace hq51 := iteT hc69 hq51
        refine W.seq ?_
        refine W.region ?_
        refine WL.vS hS hE (runs_plain rfl) (Gives.p hE rfl) rfl ?_; clear hE a; intro a hE
        refine WL.vS hS hE (runs_plain rfl) (Gives.p hE rfl) rfl ?_; clear hE a; intro a hE
        refine WL.nil ?_
        refine W.ret ?_
        subst hK62
        rw [← Option.some.inj hq51] at hr
        dsimp only at hr
        refine finG (fn := Try.f39) (rs := [.tmp 4]) (vs := [_]) hE rfl ⟨rfl, trivial⟩ ?_
        obtain rfl := Option.some.inj hr
        exact ⟨rfl, hS⟩
      · replace hq51 := iteF hc69 hq51
        refine W.skip ?_
        refine W.region ?_
        refine WL.vS hS hE (runs_plain rfl) (Gives.inc hE rfl (by have := h0.small; omega)) rfl ?_; clear hE a; intro a hE
        refine WL.vS hS hE (runs_plain rfl) (Gives.p hE rfl) rfl ?_; clear hE a; intro a hE
        refine WL.nil ?_
        subst hK62
        exact ⟨rest55.length, Nat.lt_succ_self _, rest55, k53 + 1, rfl, hd56, hq51, hE.pick _ ⟨rfl, rfl, rfl, rfl, trivial⟩, hS⟩
  · clear hE hS a w; rintro a w ⟨rfl, hE, hS⟩
    dsimp only at hr
    refine W.seq ?_
    refine W.region ?_
    refine WL.vS hS hE (runs_plain rfl) (Gives.p hE rfl) rfl ?_; clear hE a; intro a hE
    refine WL.nil ?_
    refine W.ret ?_
    refine finG (fn := Try.f39) (rs := [.tmp 4]) (vs := [_]) hE rfl ⟨rfl, trivial⟩ ?_
    obtain rfl := Option.some.inj hr
    exact ⟨rfl, hS⟩
set_option maxHeartbeats 8000000 in
theorem Fishref2BrokenOf_ok {fu : Nat}  {w : World} {s : Sg} {R : List HP} {x0 : PlanPeriodic} {a0_0 : Option Addr} {c0_0 : Nat} {x1 : List Int} {a1 : Option Addr} {c1 : Nat} (hS : St w s (R)) (h0_0 : Sl 5 RPlanRule s a0_0 c0_0 x0.Rules) (h1 : Sl 1 (RI .i64) s a1 c1 x1) {r : Int} (hr : Fishref2BrokenOf fu x0 x1 = some r) :
    Calls Try.prog 16 [.agg [.int .i64 x0.Period, .int .i64 x0.Events, .slice a0_0 x0.Rules.length c0_0].toArray, .slice a1 x1.length c1].toArray w (fun e w => e = .returned (.int .i64 r) ∧ St w s (R)) := by
  refine enter Try.func16 rfl rfl rfl fun a hE => ?_
  rw [Fishref2BrokenOf] at hr
  refine W.seq ?_
  refine W.region ?_
  refine WL.box hE hS (runs_plain rfl) rfl rfl rfl ?_; clear hE hS a w; intro b51 a w hE hS
  refine WL.box hE hS (runs_plain rfl) rfl rfl rfl ?_; clear hE hS a w; intro b52 a w hE hS
  refine WL.vS hS hE (runs_plain rfl) (Gives.p hE rfl) rfl ?_; clear hE a; intro a hE
  refine WL.nil ?_
  refine W.seq ?_
  refine W.region ?_
  refine WL.vS hS hE (runs_plain rfl) (Gives.fld hE rfl fl24_2) rfl ?_; clear hE a; intro a hE
  refine WL.vS hS hE (runs_plain rfl) (Gives.loadB hE 1 rfl rfl rfl ty22) rfl ?_; clear hE a; intro a hE
  refine WL.vS hS hE (runs_plain rfl) (Gives.mkfn hE (vs := [.pointer (some ⟨b51, 0, none⟩), .pointer (some ⟨b52, 0, none⟩)]) rfl) rfl ?_; clear hE a; intro a hE
  obtain ⟨q53, hq54, hr⟩ := bindS hr
  replace hS := hS.front 0 rfl
  replace hS := hS.front 1 rfl
  have hc_ := SlicesIndexFuncLplanRule_v1_ok (y0 := x0) hS h0_0 h0_0 h1 hq54
  refine WL.fnq hE (hc_) (runs_plain rfl) bd39 rfl rfl rfl ?_
  clear hE hS hc_; rintro e w ⟨rfl, hS⟩; refine ⟨_, rfl, ?_⟩; clear a; intro a hE
  refine WL.vS hS hE (runs_plain rfl) (Gives.p hE rfl) rfl ?_; clear hE a; intro a hE
  refine WL.nil ?_
  refine W.ret ?_
  refine finG (fn := Try.f16) (rs := [.tmp 4]) (vs := [_]) hE rfl ⟨rfl, trivial⟩ ?_
  obtain rfl := Option.some.inj hr
  replace hS := hS.tail
  replace hS := hS.tail
  exact ⟨rfl, hS⟩
set_option maxHeartbeats 8000000 in
theorem Fishref2CostOf_ok {fu : Nat}  {w : World} {s : Sg} {R : List HP} {x0 : PlanPeriodic} {a0_0 : Option Addr} {c0_0 : Nat} {x1 : List Int} {a1 : Option Addr} {c1 : Nat} (hS : St w s (R)) (h0_0 : Sl 5 RPlanRule s a0_0 c0_0 x0.Rules) (h1 : Sl 1 (RI .i64) s a1 c1 x1) {r : Int} (hr : Fishref2CostOf fu x0 x1 = some r) :
    Calls Try.prog 17 [.agg [.int .i64 x0.Period, .int .i64 x0.Events, .slice a0_0 x0.Rules.length c0_0].toArray, .slice a1 x1.length c1].toArray w (fun e w => e = .returned (.int .i64 r) ∧ St w s (R)) := by
  refine enter Try.func17 rfl rfl rfl fun a hE => ?_
  rw [Fishref2CostOf] at hr
  refine W.seq ?_
  refine W.region ?_
  refine WL.box hE hS (runs_plain rfl) rfl rfl rfl ?_; clear hE hS a w; intro b51 a w hE hS
  refine WL.vS hS hE (runs_plain rfl) (Gives.p hE rfl) rfl ?_; clear hE a; intro a hE
  refine WL.nil ?_
  refine W.seq ?_
  refine W.region ?_
  refine WL.vS hS hE (runs_plain rfl) (Gives.p hE rfl) rfl ?_; clear hE a; intro a hE
  refine WL.nil ?_
  refine W.seq ?_
  refine W.seq ?_
  refine W.region ?_
  refine WL.vS hS hE (runs_plain rfl) (Gives.fld hE rfl fl24_2) rfl ?_; clear hE a; intro a hE
  refine WL.vS hS hE (runs_plain rfl) (Gives.loadB hE 0 rfl rfl rfl ty22) rfl ?_; clear hE a; intro a hE
  refine WL.vS hS hE (runs_plain rfl) (Gives.len hE rfl sl22) rfl ?_; clear hE a; intro a hE
  refine WL.vS hS hE (runs_plain rfl) (Gives.p hE rfl) rfl ?_; clear hE a; intro a hE
  refine WL.nil ?_
  obtain ⟨q53, hq52, hr⟩ := bindS hr
  refine W.cut (fun a w => ∃ (q63 : Int), q63 = q53 ∧ Rep a 29 [(5, .int .i64 q63)] ∧ St w s (pt b51 (.cells #[.int .i64 x0.Period, .int .i64 x0.Events, .slice a0_0 x0.Rules.length c0_0] 24 (0, 0)) :: R)) ?_ ?_
  · refine W.block ?_
    refine W.loop (fun m a w => ∃ (rest56 : List PlanRule) (k54 : Nat), ∃ (q63 : Int), rest56.length = m ∧ x0.Rules.drop k54 = rest56 ∧ Fishref2CostOf.loop1 x0 x1 fu rest56 q63 = some q53 ∧ Rep a 29 [(1, .slice a1 x1.length c1), (2, .pointer (some ⟨b51, 0, none⟩)), (5, .int .i64 q63), (9, .slice a0_0 x0.Rules.length c0_0), (10, .int .i64 ((x0.Rules).length : Int)), (11, .int .i64 ((k54 : Nat) : Int))] ∧ St w s (pt b51 (.cells #[.int .i64 x0.Period, .int .i64 x0.Events, .slice a0_0 x0.Rules.length c0_0] 24 (0, 0)) :: R)) (m := x0.Rules.length) ⟨x0.Rules, 0, 0, rfl, rfl, hq52, hE.pick _ ⟨rfl, rfl, rfl, rfl, rfl, rfl, trivial⟩, hS⟩ ?_
    clear hE hS a w hq52; rintro m60 a w ⟨rest56, k54, q63, rfl, hd57, hq52, hE, hS⟩
    refine W.gen fun K64 hK64 => ?_
    rcases rest56 with _ | ⟨x55, rest56⟩
    · have hlt58 := drop_nil hd57
      refine W.seq ?_
      refine W.region ?_
      refine WL.vS hS hE (runs_plain rfl) (Gives.p hE rfl) rfl ?_; clear hE a; intro a hE
      refine WL.nil ?_
      refine W.seq ?_
      refine W.condF hE rfl (decide_eq_false (by omega)) ?_
      subst hK64
      refine W.exit rfl ?_
      exact ⟨q63, Option.some.inj hq52, hE.pick _ ⟨rfl, trivial⟩, hS⟩
    · obtain ⟨hlt58, hx59, hd57⟩ := drop_cons hd57
      rw [Fishref2CostOf.loop1] at hq52
      refine W.seq ?_
      refine W.region ?_
      refine WL.vS hS hE (runs_plain rfl) (Gives.p hE rfl) rfl ?_; clear hE a; intro a hE
      refine WL.nil ?_
      refine W.seq ?_
      refine W.condT hE rfl (decide_eq_true (by omega)) ?_
      refine W.skip ?_
      refine W.seq ?_
      refine W.block ?_
      refine W.seq ?_
      refine W.region ?_
      obtain ⟨cs65, hl66, hR67, hat68⟩ := h0_0.at hx59
      subst hR67
      refine WL.vS hS hE (runs_plain rfl) (Gives.idx hE k54 rfl rfl sl22 rfl hlt58 (h0_0.aok hlt58)) rfl ?_; clear hE a; intro a hE
      refine WL.vS hS hE (runs_plain rfl) (Gives.loadA hE rfl (fun w h => hat68 w _ h) ty37) rfl ?_; clear hE a; intro a hE
      refine WL.alloc hE hS (runs_plain rfl) zr37 rfl ?_; clear hE hS a w; intro b69 a w hE hS
      refine WL.storeI hE hS 0 rfl (PlanRule.cells x55) (runs_plain rfl) rfl rfl rfl ty37 rfl rfl rfl rfl ?_; clear hE hS a w; intro a w hE hS
      refine WL.nil ?_
      refine W.regionQ (C := fun w => St w s (pt b69 (.cells (PlanRule.cells x55).toArray 37 (0, 0)) :: pt b51 (.cells #[.int .i64 x0.Period, .int .i64 x0.Events, .slice a0_0 x0.Rules.length c0_0] 24 (0, 0)) :: R)) mixed (by kernel_rfl) hS.drew ?_
      refine QL.v hE (runs_plain rfl) (Gives.p hE rfl) rfl ?_; clear hE a; intro a hE
      refine QL.v hE (runs_plain rfl) (Gives.fld hE rfl fl37_4) rfl ?_; clear hE a; intro a hE
      refine QL.v hE (runs_plain rfl) (Gives.loadB hE 0 rfl rfl rfl ty3) rfl ?_; clear hE a; intro a hE
      refine QL.v hE (runs_plain rfl) (Gives.loadBA hE 1 rfl rfl ty24) rfl ?_; clear hE a; intro a hE
      refine QL.v hE (runs_plain rfl) (Gives.loadBA hE 0 rfl rfl ty37) rfl ?_; clear hE a; intro a hE
      refine QL.v hE (runs_plain rfl) (Gives.p hE rfl) rfl ?_; clear hE a; intro a hE
      obtain ⟨q70, hq71, hq52⟩ := bindS hq52
      refine QL.fnq hE (fun w hS => Fishref2GapOf_ok hS h0_0 h1 hq71) (runs_plain rfl) bd18 rfl rfl rfl ?_; clear hE a; intro a hE
      refine QL.v hE (runs_plain rfl) (Gives.fld hE rfl fl37_2) rfl ?_; clear hE a; intro a hE
      refine QL.v hE (runs_plain rfl) (Gives.loadB hE 0 rfl rfl rfl ty3) rfl ?_; clear hE a; intro a hE
      refine QL.v hE (runs_plain rfl) (Gives.p hE rfl) rfl ?_; clear hE a; intro a hE
      refine QL.v hE (runs_plain rfl) (Gives.p hE rfl) rfl ?_; clear hE a; intro a hE
      refine QL.v hE (runs_plain rfl) (Gives.p hE rfl) rfl ?_; clear hE a; intro a hE
      refine QL.v hE (runs_plain rfl) (Gives.p hE rfl) rfl ?_; clear hE a; intro a hE
      refine QL.nil ?_; clear hS w; intro w hS
      refine W.region ?_
      refine WL.vS hS hE (runs_plain rfl) (Gives.inc hE rfl (by have := h0_0.small; omega)) rfl ?_; clear hE a; intro a hE
      refine WL.vS hS hE (runs_plain rfl) (Gives.p hE rfl) rfl ?_; clear hE a; intro a hE
      refine WL.nil ?_
      replace hS := hS.tail
      subst hK64
      exact ⟨rest56.length, Nat.lt_succ_self _, rest56, k54 + 1, (w64 (q63 + (w64 (x55.Weight * (w64 (q70 - x55.Min)))))), rfl, hd57, hq52, hE.pick _ ⟨rfl, rfl, rfl, rfl, rfl, rfl, trivial⟩, hS⟩
  · clear hE hS a w; rintro a w ⟨q63, rfl, hE, hS⟩
    refine W.seq ?_
    refine W.region ?_
    refine WL.vS hS hE (runs_plain rfl) (Gives.p hE rfl) rfl ?_; clear hE a; intro a hE
    refine WL.vS hS hE (runs_plain rfl) (Gives.p hE rfl) rfl ?_; clear hE a; intro a hE
    refine WL.nil ?_
    refine W.ret ?_
    refine finG (fn := Try.f17) (rs := [.tmp 4]) (vs := [_]) hE rfl ⟨rfl, trivial⟩ ?_
    obtain rfl := Option.some.inj hr
    replace hS := hS.tail
    exact ⟨rfl, hS⟩
end Go.Proofs.Ytffleanbfkjfiaa
