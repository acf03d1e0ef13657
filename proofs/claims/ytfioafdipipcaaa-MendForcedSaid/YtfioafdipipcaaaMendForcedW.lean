/- The walks of the functions that MendForced reaches: each call comes to what its mirror says. The conditions are those of each contract. -/
import Derived.Test.YtfioafdipipcaaaProg
import Derived.Test.YtfioafdipipcaaaMendForcedM
import Derived.Test.YtfioafdipipcaaaFpMore
import Derived.Test.YtfioafdipipcaaaMendForcedW2
namespace Go.Proofs.Ytfioafdipipcaaa
open Go Go.Fp
set_option maxHeartbeats 8000000 in
theorem MendBest_1_v1_ok : ∀ {fu : Nat} {w : World} {s : Sg} {R : List HP} {pb0 : Nat} {pb1 : Nat} {pb2 : Nat} {pb3 : Nat} {pb4 : Nat} {pb5 : Nat} {pb6 : Nat} {x0 : Int} {x1 : Option MendSolver} {a1 : Option Addr} {y0 : MendGraph} {a_y0_0 : Option Addr} {c_y0_0 : Nat} {a_y0_1 : Option Addr} {c_y0_1 : Nat} {a_y0_2 : Option Addr} {c_y0_2 : Nat} {a_y0_3 : Option Addr} {c_y0_3 : Nat} {a_y0_4 : Option Addr} {c_y0_4 : Nat} {y1 : Int} {y2 : List Int} {a_v0 : Option Addr} {c_v0 n_v0 : Nat} {cs_v0 : List Value} {y3 : List Int} {a_v1 : Option Addr} {c_v1 n_v1 : Nat} {cs_v1 : List Value} {y4 : List Int} {a_y4_0 : Option Addr} {c_y4_0 : Nat} {y5 : List Int} {a_y5_0 : Option Addr} {c_y5_0 : Nat} (_hS : St w s (pt pb0 (.cells #[.slice a_y0_0 y0.Ready.length c_y0_0, .slice a_y0_1 y0.Last.length c_y0_1, .slice a_y0_2 y0.Due.length c_y0_2, .slice a_y0_3 y0.Arcs.length c_y0_3, .slice a_y0_4 y0.Choices.length c_y0_4] 50 (0, 0)) :: pt pb1 (.cells #[.int .i64 y1] 3 (0, 0)) :: pt pb2 (.cells #[.slice a_v0 n_v0 c_v0] 22 (0, 0)) :: pt pb3 (.cells #[.slice a_v1 n_v1 c_v1] 22 (0, 0)) :: pt pb4 (.cells #[.slice a_y4_0 y4.length c_y4_0] 22 (0, 0)) :: pt pb5 (.cells #[.slice a_y5_0 y5.length c_y5_0] 22 (0, 0)) :: pt pb6 (.cells #[.func (.func 65) #[] #[.pointer (some ⟨pb0, 0, none⟩), .pointer (some ⟨pb1, 0, none⟩), .pointer (some ⟨pb2, 0, none⟩), .pointer (some ⟨pb3, 0, none⟩), .pointer (some ⟨pb4, 0, none⟩), .pointer (some ⟨pb5, 0, none⟩), .pointer (some ⟨pb6, 0, none⟩)]] 103 (0, 0)) :: vecC 3 1 a_v0 c_v0 n_v0 cs_v0 :: vecC 3 1 a_v1 c_v1 n_v1 cs_v1 :: R)) (_h1 : Pt 3 RMendSolver s a1 x1) (_h_y0_0 : Sl 1 (RI .i64) s a_y0_0 c_y0_0 y0.Ready) (_h_y0_1 : Sl 1 (RI .i64) s a_y0_1 c_y0_1 y0.Last) (_h_y0_2 : Sl 1 (RI .i64) s a_y0_2 c_y0_2 y0.Due) (_h_y0_3 : Sl 3 RMendArc s a_y0_3 c_y0_3 y0.Arcs) (_h_y0_4 : Sl 1 RMendChoice s a_y0_4 c_y0_4 y0.Choices) (_h_v0 : Ev 1 (RI .i64) s cs_v0 y2) (_hn_v0 : y2.length = n_v0) (_h_v1 : Ev 1 (RI .i64) s cs_v1 y3) (_hn_v1 : y3.length = n_v1) (_h_y4_0 : Sl 1 (RI .i64) s a_y4_0 c_y4_0 y4) (_h_y5_0 : Sl 1 (RI .i64) s a_y5_0 c_y5_0 y5) {r : (List Int) × Int × (List Int) × (List Int)} (_hr : MendBest_1_v1 fu x0 x1 y0 y1 y2 y3 y4 y5 = some r),
    Calls Try.prog 65 [.int .i64 x0, .pointer a1, .pointer (some ⟨pb0, 0, none⟩), .pointer (some ⟨pb1, 0, none⟩), .pointer (some ⟨pb2, 0, none⟩), .pointer (some ⟨pb3, 0, none⟩), .pointer (some ⟨pb4, 0, none⟩), .pointer (some ⟨pb5, 0, none⟩), .pointer (some ⟨pb6, 0, none⟩)].toArray w (fun e w => ∃ (cs70 : List Value) (a74 : Option Addr) (c75 : Nat) (a78 : Option Addr) (c79 : Nat) (t : Sg), e = .returned (.tuple #[]) ∧ s.Le t ∧ Ev 1 (RI .i64) t cs70 r.1 ∧ r.1.length = n_v1 ∧ Sl 1 (RI .i64) t a74 c75 r.2.2.1 ∧ Sl 1 (RI .i64) t a78 c79 r.2.2.2 ∧ St w t (pt pb0 (.cells #[.slice a_y0_0 y0.Ready.length c_y0_0, .slice a_y0_1 y0.Last.length c_y0_1, .slice a_y0_2 y0.Due.length c_y0_2, .slice a_y0_3 y0.Arcs.length c_y0_3, .slice a_y0_4 y0.Choices.length c_y0_4] 50 (0, 0)) :: pt pb1 (.cells #[.int .i64 r.2.1] 3 (0, 0)) :: pt pb2 (.cells #[.slice a_v0 n_v0 c_v0] 22 (0, 0)) :: pt pb3 (.cells #[.slice a_v1 n_v1 c_v1] 22 (0, 0)) :: pt pb4 (.cells #[.slice a74 r.2.2.1.length c75] 22 (0, 0)) :: pt pb5 (.cells #[.slice a78 r.2.2.2.length c79] 22 (0, 0)) :: pt pb6 (.cells #[.func (.func 65) #[] #[.pointer (some ⟨pb0, 0, none⟩), .pointer (some ⟨pb1, 0, none⟩), .pointer (some ⟨pb2, 0, none⟩), .pointer (some ⟨pb3, 0, none⟩), .pointer (some ⟨pb4, 0, none⟩), .pointer (some ⟨pb5, 0, none⟩), .pointer (some ⟨pb6, 0, none⟩)]] 103 (0, 0)) :: vecC 3 1 a_v0 c_v0 n_v0 cs_v0 :: vecC 3 1 a_v1 c_v1 n_v1 cs70 :: R)) := by
  intro fu
  induction fu with
  | zero => intro w s R pb0 pb1 pb2 pb3 pb4 pb5 pb6 x0 x1 a1 y0 a_y0_0 c_y0_0 a_y0_1 c_y0_1 a_y0_2 c_y0_2 a_y0_3 c_y0_3 a_y0_4 c_y0_4 y1 y2 a_v0 c_v0 n_v0 cs_v0 y3 a_v1 c_v1 n_v1 cs_v1 y4 a_y4_0 c_y4_0 y5 a_y5_0 c_y5_0 hS h1 h_y0_0 h_y0_1 h_y0_2 h_y0_3 h_y0_4 h_v0 hn_v0 h_v1 hn_v1 h_y4_0 h_y5_0 r hr; rw [MendBest_1_v1] at hr; exact absurd hr (by simp)
  | succ fu ih_MendBest_1_v1 =>
    intro w s R pb0 pb1 pb2 pb3 pb4 pb5 pb6 x0 x1 a1 y0 a_y0_0 c_y0_0 a_y0_1 c_y0_1 a_y0_2 c_y0_2 a_y0_3 c_y0_3 a_y0_4 c_y0_4 y1 y2 a_v0 c_v0 n_v0 cs_v0 y3 a_v1 c_v1 n_v1 cs_v1 y4 a_y4_0 c_y4_0 y5 a_y5_0 c_y5_0 hS h1 h_y0_0 h_y0_1 h_y0_2 h_y0_3 h_y0_4 h_v0 hn_v0 h_v1 hn_v1 h_y4_0 h_y5_0 r hr
    rw [MendBest_1_v1] at hr
    generalize MendBest_1_v1 fu = self_MendBest_1_v1 at hr ih_MendBest_1_v1
    refine enter Try.func65 rfl rfl rfl fun a hE => ?_
    subst hn_v0
    subst hn_v1
    refine W.seq ?_
    refine W.regionQ (C := fun w => St w s (pt pb0 (.cells #[.slice a_y0_0 y0.Ready.length c_y0_0, .slice a_y0_1 y0.Last.length c_y0_1, .slice a_y0_2 y0.Due.length c_y0_2, .slice a_y0_3 y0.Arcs.length c_y0_3, .slice a_y0_4 y0.Choices.length c_y0_4] 50 (0, 0)) :: pt pb1 (.cells #[.int .i64 y1] 3 (0, 0)) :: pt pb2 (.cells #[.slice a_v0 y2.length c_v0] 22 (0, 0)) :: pt pb3 (.cells #[.slice a_v1 y3.length c_v1] 22 (0, 0)) :: pt pb4 (.cells #[.slice a_y4_0 y4.length c_y4_0] 22 (0, 0)) :: pt pb5 (.cells #[.slice a_y5_0 y5.length c_y5_0] 22 (0, 0)) :: pt pb6 (.cells #[.func (.func 65) #[] #[.pointer (some ⟨pb0, 0, none⟩), .pointer (some ⟨pb1, 0, none⟩), .pointer (some ⟨pb2, 0, none⟩), .pointer (some ⟨pb3, 0, none⟩), .pointer (some ⟨pb4, 0, none⟩), .pointer (some ⟨pb5, 0, none⟩), .pointer (some ⟨pb6, 0, none⟩)]] 103 (0, 0)) :: vecC 3 1 a_v0 c_v0 y2.length cs_v0 :: vecC 3 1 a_v1 c_v1 y3.length cs_v1 :: R)) mixed (by kernel_rfl) hS.drew ?_
    refine QL.v hE (runs_plain rfl) (Gives.loadBA hE 0 rfl rfl ty50) rfl ?_; clear hE a; intro a hE
    refine QL.v hE (runs_plain rfl) (Gives.p hE rfl) rfl ?_; clear hE a; intro a hE
    obtain ⟨x81, hx82, hr⟩ := bindS hr
    obtain ⟨b83, o84, cs85, rfl, hl86, hR87, hat88⟩ := h1.at hx82
    obtain ⟨a89, c90, a92, c93, a95, c96, rfl, h91, h94, h97⟩ := hR87
    refine QL.v hE (runs_plain rfl) (Gives.nilOk hE rfl) rfl ?_; clear hE a; intro a hE
    refine QL.v hE (runs_plain rfl) (Gives.fld hE rfl fl105_0) rfl ?_; clear hE a; intro a hE
    refine QL.v hE (runs_plain rfl) (Gives.load1 hE rfl (fun w h => (hat88 w _ h).one rfl) ty22) rfl ?_; clear hE a; intro a hE
    obtain ⟨q98, hq99, hr⟩ := bindS hr
    refine QL.fnq hE (fun w hS => Menddelay_ok hS h_y0_0 h_y0_1 h_y0_2 h_y0_3 h_y0_4 h91 hq99) (runs_plain rfl) bd66 rfl rfl rfl ?_; clear hE a; intro a hE
    refine QL.v hE (runs_plain rfl) (Gives.p hE rfl) rfl ?_; clear hE a; intro a hE
    refine QL.nil ?_; clear hS w; intro w hS
    refine W.seq ?_
    refine W.seq ?_
    obtain ⟨q101, hq100, hr⟩ := bndS hr
    refine W.cut (fun a w => ∃ (q104 : Bool), q104 = q101 ∧ Rep a 78 [(0, .int .i64 x0), (1, .pointer (some ⟨b83, o84, none⟩)), (2, .pointer (some ⟨pb0, 0, none⟩)), (3, .pointer (some ⟨pb1, 0, none⟩)), (4, .pointer (some ⟨pb2, 0, none⟩)), (5, .pointer (some ⟨pb3, 0, none⟩)), (6, .pointer (some ⟨pb4, 0, none⟩)), (7, .pointer (some ⟨pb5, 0, none⟩)), (8, .pointer (some ⟨pb6, 0, none⟩)), (11, .int .i64 q98), (29, .bool q104)] ∧ St w s (pt pb0 (.cells #[.slice a_y0_0 y0.Ready.length c_y0_0, .slice a_y0_1 y0.Last.length c_y0_1, .slice a_y0_2 y0.Due.length c_y0_2, .slice a_y0_3 y0.Arcs.length c_y0_3, .slice a_y0_4 y0.Choices.length c_y0_4] 50 (0, 0)) :: pt pb1 (.cells #[.int .i64 y1] 3 (0, 0)) :: pt pb2 (.cells #[.slice a_v0 y2.length c_v0] 22 (0, 0)) :: pt pb3 (.cells #[.slice a_v1 y3.length c_v1] 22 (0, 0)) :: pt pb4 (.cells #[.slice a_y4_0 y4.length c_y4_0] 22 (0, 0)) :: pt pb5 (.cells #[.slice a_y5_0 y5.length c_y5_0] 22 (0, 0)) :: pt pb6 (.cells #[.func (.func 65) #[] #[.pointer (some ⟨pb0, 0, none⟩), .pointer (some ⟨pb1, 0, none⟩), .pointer (some ⟨pb2, 0, none⟩), .pointer (some ⟨pb3, 0, none⟩), .pointer (some ⟨pb4, 0, none⟩), .pointer (some ⟨pb5, 0, none⟩), .pointer (some ⟨pb6, 0, none⟩)]] 103 (0, 0)) :: vecC 3 1 a_v0 c_v0 y2.length cs_v0 :: vecC 3 1 a_v1 c_v1 y3.length cs_v1 :: R)) ?_ ?_
    · refine W.gen fun K105 hK105 => ?_
      refine W.region ?_
      refine WL.vS hS hE (runs_plain rfl) (Gives.loadB hE 1 rfl rfl rfl ty3) rfl ?_; clear hE a; intro a hE
      refine WL.vS hS hE (runs_plain rfl) (Gives.p hE rfl) rfl ?_; clear hE a; intro a hE
      refine WL.vS hS hE (runs_plain rfl) (Gives.p hE rfl) rfl ?_; clear hE a; intro a hE
      rcases Bool.eq_false_or_eq_true (decide (y1 ≥ 0)) with hg106 | hg106
      · replace hq100 := iteT hg106 hq100
        refine WL.vS hS hE (runs_if hE rfl rfl rfl hg106) (Gives.p hE rfl) rfl ?_; clear hE a; intro a hE
        refine WL.vS hS hE (runs_if hE rfl rfl rfl hg106) (Gives.loadB hE 1 rfl rfl rfl ty3) rfl ?_; clear hE a; intro a hE
        refine WL.vS hS hE (runs_if hE rfl rfl rfl hg106) (Gives.p hE rfl) rfl ?_; clear hE a; intro a hE
        refine WL.vS hS hE (runs_plain rfl) (Gives.pickT hE rfl hg106 rfl) rfl ?_; clear hE a; intro a hE
        refine WL.nil ?_
        subst hK105
        exact ⟨decide (q98 ≥ y1), hq100, hE.pick _ ⟨rfl, rfl, rfl, rfl, rfl, rfl, rfl, rfl, rfl, rfl, rfl, trivial⟩, hS⟩
      · replace hq100 := iteF hg106 hq100
        refine WL.no hE (runs_not hE rfl rfl rfl (by rw [hg106]; decide)) rfl ?_; clear hE a; intro a hE
        refine WL.no hE (runs_not hE rfl rfl rfl (by rw [hg106]; decide)) rfl ?_; clear hE a; intro a hE
        refine WL.no hE (runs_not hE rfl rfl rfl (by rw [hg106]; decide)) rfl ?_; clear hE a; intro a hE
        refine WL.vS hS hE (runs_plain rfl) (Gives.pickF hE rfl hg106 rfl) rfl ?_; clear hE a; intro a hE
        refine WL.nil ?_
        subst hK105
        exact ⟨false, hq100, hE.pick _ ⟨rfl, rfl, rfl, rfl, rfl, rfl, rfl, rfl, rfl, rfl, rfl, trivial⟩, hS⟩
    · clear hE hS a w; rintro a w ⟨q104, rfl, hE, hS⟩
      refine W.cond hE rfl (fun hc107 => ?_) (fun hc107 => ?_)
      · replace hr := iteT hc107 hr
        refine W.ret ?_
        refine finG (fn := Try.f65) (rs := []) (vs := []) hE rfl trivial ?_
        obtain rfl := Option.some.inj hr
        exact ⟨cs_v1, a_y4_0, c_y4_0, a_y5_0, c_y5_0, s, rfl, (Sg.Le.refl _), h_v1, (rfl), h_y4_0, h_y5_0, hS⟩
      · replace hr := iteF hc107 hr
        refine W.skip ?_
        refine W.seq ?_
        refine W.seq ?_
        refine W.region ?_
        refine WL.vS hS hE (runs_plain rfl) (Gives.p hE rfl) rfl ?_; clear hE a; intro a hE
        refine WL.vS hS hE (runs_plain rfl) (Gives.loadB hE 2 rfl rfl rfl ty22) rfl ?_; clear hE a; intro a hE
        refine WL.vS hS hE (runs_plain rfl) (Gives.len hE rfl sl22) rfl ?_; clear hE a; intro a hE
        refine WL.vS hS hE (runs_plain rfl) (Gives.p hE rfl) rfl ?_; clear hE a; intro a hE
        refine WL.nil ?_
        refine W.cond hE rfl (fun hc108 => ?_) (fun hc108 => ?_)
        · replace hr := iteT hc108 hr
          refine W.seq ?_
          refine W.gen fun K109 hK109 => ?_
          refine W.regionE (sel (fun w => St w s (pt pb0 (.cells #[.slice a_y0_0 y0.Ready.length c_y0_0, .slice a_y0_1 y0.Last.length c_y0_1, .slice a_y0_2 y0.Due.length c_y0_2, .slice a_y0_3 y0.Arcs.length c_y0_3, .slice a_y0_4 y0.Choices.length c_y0_4] 50 (0, 0)) :: pt pb1 (.cells #[.int .i64 y1] 3 (0, 0)) :: pt pb2 (.cells #[.slice a_v0 y2.length c_v0] 22 (0, 0)) :: pt pb3 (.cells #[.slice a_v1 y3.length c_v1] 22 (0, 0)) :: pt pb4 (.cells #[.slice a_y4_0 y4.length c_y4_0] 22 (0, 0)) :: pt pb5 (.cells #[.slice a_y5_0 y5.length c_y5_0] 22 (0, 0)) :: pt pb6 (.cells #[.func (.func 65) #[] #[.pointer (some ⟨pb0, 0, none⟩), .pointer (some ⟨pb1, 0, none⟩), .pointer (some ⟨pb2, 0, none⟩), .pointer (some ⟨pb3, 0, none⟩), .pointer (some ⟨pb4, 0, none⟩), .pointer (some ⟨pb5, 0, none⟩), .pointer (some ⟨pb6, 0, none⟩)]] 103 (0, 0)) :: vecC 3 1 a_v0 c_v0 y2.length cs_v0 :: vecC 3 1 a_v1 c_v1 y3.length cs_v1 :: R)) (fun w => St w s (pt pb0 (.cells #[.slice a_y0_0 y0.Ready.length c_y0_0, .slice a_y0_1 y0.Last.length c_y0_1, .slice a_y0_2 y0.Due.length c_y0_2, .slice a_y0_3 y0.Arcs.length c_y0_3, .slice a_y0_4 y0.Choices.length c_y0_4] 50 (0, 0)) :: pt pb2 (.cells #[.slice a_v0 y2.length c_v0] 22 (0, 0)) :: pt pb3 (.cells #[.slice a_v1 y3.length c_v1] 22 (0, 0)) :: pt pb6 (.cells #[.func (.func 65) #[] #[.pointer (some ⟨pb0, 0, none⟩), .pointer (some ⟨pb1, 0, none⟩), .pointer (some ⟨pb2, 0, none⟩), .pointer (some ⟨pb3, 0, none⟩), .pointer (some ⟨pb4, 0, none⟩), .pointer (some ⟨pb5, 0, none⟩), .pointer (some ⟨pb6, 0, none⟩)]] 103 (0, 0)) :: vecC 3 1 a_v0 c_v0 y2.length cs_v0 :: vecC 3 1 a_v1 c_v1 y3.length cs_v1 :: R))) (fun b i => cond b ([0, 1, 2, 3, 4, 5, 6].contains i) ([0, 1, 2, 3, 4, 5, 6, 7, 8, 9].contains i)) mixed ?_
          replace hS := hS.drew
          have hT := tw_sel (A := fun w => St w s (pt pb0 (.cells #[.slice a_y0_0 y0.Ready.length c_y0_0, .slice a_y0_1 y0.Last.length c_y0_1, .slice a_y0_2 y0.Due.length c_y0_2, .slice a_y0_3 y0.Arcs.length c_y0_3, .slice a_y0_4 y0.Choices.length c_y0_4] 50 (0, 0)) :: pt pb1 (.cells #[.int .i64 y1] 3 (0, 0)) :: pt pb2 (.cells #[.slice a_v0 y2.length c_v0] 22 (0, 0)) :: pt pb3 (.cells #[.slice a_v1 y3.length c_v1] 22 (0, 0)) :: pt pb4 (.cells #[.slice a_y4_0 y4.length c_y4_0] 22 (0, 0)) :: pt pb5 (.cells #[.slice a_y5_0 y5.length c_y5_0] 22 (0, 0)) :: pt pb6 (.cells #[.func (.func 65) #[] #[.pointer (some ⟨pb0, 0, none⟩), .pointer (some ⟨pb1, 0, none⟩), .pointer (some ⟨pb2, 0, none⟩), .pointer (some ⟨pb3, 0, none⟩), .pointer (some ⟨pb4, 0, none⟩), .pointer (some ⟨pb5, 0, none⟩), .pointer (some ⟨pb6, 0, none⟩)]] 103 (0, 0)) :: vecC 3 1 a_v0 c_v0 y2.length cs_v0 :: vecC 3 1 a_v1 c_v1 y3.length cs_v1 :: R)) (B := fun w => St w s (pt pb0 (.cells #[.slice a_y0_0 y0.Ready.length c_y0_0, .slice a_y0_1 y0.Last.length c_y0_1, .slice a_y0_2 y0.Due.length c_y0_2, .slice a_y0_3 y0.Arcs.length c_y0_3, .slice a_y0_4 y0.Choices.length c_y0_4] 50 (0, 0)) :: pt pb2 (.cells #[.slice a_v0 y2.length c_v0] 22 (0, 0)) :: pt pb3 (.cells #[.slice a_v1 y3.length c_v1] 22 (0, 0)) :: pt pb6 (.cells #[.func (.func 65) #[] #[.pointer (some ⟨pb0, 0, none⟩), .pointer (some ⟨pb1, 0, none⟩), .pointer (some ⟨pb2, 0, none⟩), .pointer (some ⟨pb3, 0, none⟩), .pointer (some ⟨pb4, 0, none⟩), .pointer (some ⟨pb5, 0, none⟩), .pointer (some ⟨pb6, 0, none⟩)]] 103 (0, 0)) :: vecC 3 1 a_v0 c_v0 y2.length cs_v0 :: vecC 3 1 a_v1 c_v1 y3.length cs_v1 :: R)) (w := _) (x := true) (y := true) (fun _ => hS) (fun _ => (((hS.dropAt 1).dropAt 3).dropAt 3))
          have hF := hS; replace hS := hS
          refine Rg.take (i := 0) true rfl hE rfl (by kernel_rfl) (runs_plain rfl) (Gives.loadB hE 3 rfl rfl rfl ty22) rfl hT ?_; clear hE a; intro a hE
          replace hS := hF; clear hF hT
          refine Rg.takeP (i := 2) hE rfl (by kernel_rfl) (runs_plain rfl) (Gives.p hE rfl) rfl (tw_sel (fun _ => hS) (fun _ => (((hS.dropAt 1).dropAt 3).dropAt 3))) ?_; clear hE a; intro a hE
          have hT := tw_sel (A := fun w => St w s (pt pb0 (.cells #[.slice a_y0_0 y0.Ready.length c_y0_0, .slice a_y0_1 y0.Last.length c_y0_1, .slice a_y0_2 y0.Due.length c_y0_2, .slice a_y0_3 y0.Arcs.length c_y0_3, .slice a_y0_4 y0.Choices.length c_y0_4] 50 (0, 0)) :: pt pb1 (.cells #[.int .i64 y1] 3 (0, 0)) :: pt pb2 (.cells #[.slice a_v0 y2.length c_v0] 22 (0, 0)) :: pt pb3 (.cells #[.slice a_v1 y3.length c_v1] 22 (0, 0)) :: pt pb4 (.cells #[.slice a_y4_0 y4.length c_y4_0] 22 (0, 0)) :: pt pb5 (.cells #[.slice a_y5_0 y5.length c_y5_0] 22 (0, 0)) :: pt pb6 (.cells #[.func (.func 65) #[] #[.pointer (some ⟨pb0, 0, none⟩), .pointer (some ⟨pb1, 0, none⟩), .pointer (some ⟨pb2, 0, none⟩), .pointer (some ⟨pb3, 0, none⟩), .pointer (some ⟨pb4, 0, none⟩), .pointer (some ⟨pb5, 0, none⟩), .pointer (some ⟨pb6, 0, none⟩)]] 103 (0, 0)) :: vecC 3 1 a_v0 c_v0 y2.length cs_v0 :: vecC 3 1 a_v1 c_v1 y3.length cs_v1 :: R)) (B := fun w => St w s (pt pb0 (.cells #[.slice a_y0_0 y0.Ready.length c_y0_0, .slice a_y0_1 y0.Last.length c_y0_1, .slice a_y0_2 y0.Due.length c_y0_2, .slice a_y0_3 y0.Arcs.length c_y0_3, .slice a_y0_4 y0.Choices.length c_y0_4] 50 (0, 0)) :: pt pb2 (.cells #[.slice a_v0 y2.length c_v0] 22 (0, 0)) :: pt pb3 (.cells #[.slice a_v1 y3.length c_v1] 22 (0, 0)) :: pt pb6 (.cells #[.func (.func 65) #[] #[.pointer (some ⟨pb0, 0, none⟩), .pointer (some ⟨pb1, 0, none⟩), .pointer (some ⟨pb2, 0, none⟩), .pointer (some ⟨pb3, 0, none⟩), .pointer (some ⟨pb4, 0, none⟩), .pointer (some ⟨pb5, 0, none⟩), .pointer (some ⟨pb6, 0, none⟩)]] 103 (0, 0)) :: vecC 3 1 a_v0 c_v0 y2.length cs_v0 :: vecC 3 1 a_v1 c_v1 y3.length cs_v1 :: R)) (w := _) (x := true) (y := true) (fun _ => hS) (fun _ => (((hS.dropAt 1).dropAt 3).dropAt 3))
          have hF := hS; replace hS := (((hS.dropAt 1).dropAt 3).dropAt 3)
          refine Rg.take (i := 3) false rfl hE rfl (by kernel_rfl) (runs_plain rfl) (Gives.nilOk hE rfl) rfl hT ?_; clear hE a; intro a hE
          replace hS := hF; clear hF hT
          refine Rg.takeP (i := 4) hE rfl (by kernel_rfl) (runs_plain rfl) (Gives.fld hE rfl fl105_0) rfl (tw_sel (fun _ => hS) (fun _ => (((hS.dropAt 1).dropAt 3).dropAt 3))) ?_; clear hE a; intro a hE
          have hT := tw_sel (A := fun w => St w s (pt pb0 (.cells #[.slice a_y0_0 y0.Ready.length c_y0_0, .slice a_y0_1 y0.Last.length c_y0_1, .slice a_y0_2 y0.Due.length c_y0_2, .slice a_y0_3 y0.Arcs.length c_y0_3, .slice a_y0_4 y0.Choices.length c_y0_4] 50 (0, 0)) :: pt pb1 (.cells #[.int .i64 y1] 3 (0, 0)) :: pt pb2 (.cells #[.slice a_v0 y2.length c_v0] 22 (0, 0)) :: pt pb3 (.cells #[.slice a_v1 y3.length c_v1] 22 (0, 0)) :: pt pb4 (.cells #[.slice a_y4_0 y4.length c_y4_0] 22 (0, 0)) :: pt pb5 (.cells #[.slice a_y5_0 y5.length c_y5_0] 22 (0, 0)) :: pt pb6 (.cells #[.func (.func 65) #[] #[.pointer (some ⟨pb0, 0, none⟩), .pointer (some ⟨pb1, 0, none⟩), .pointer (some ⟨pb2, 0, none⟩), .pointer (some ⟨pb3, 0, none⟩), .pointer (some ⟨pb4, 0, none⟩), .pointer (some ⟨pb5, 0, none⟩), .pointer (some ⟨pb6, 0, none⟩)]] 103 (0, 0)) :: vecC 3 1 a_v0 c_v0 y2.length cs_v0 :: vecC 3 1 a_v1 c_v1 y3.length cs_v1 :: R)) (B := fun w => St w s (pt pb0 (.cells #[.slice a_y0_0 y0.Ready.length c_y0_0, .slice a_y0_1 y0.Last.length c_y0_1, .slice a_y0_2 y0.Due.length c_y0_2, .slice a_y0_3 y0.Arcs.length c_y0_3, .slice a_y0_4 y0.Choices.length c_y0_4] 50 (0, 0)) :: pt pb2 (.cells #[.slice a_v0 y2.length c_v0] 22 (0, 0)) :: pt pb3 (.cells #[.slice a_v1 y3.length c_v1] 22 (0, 0)) :: pt pb6 (.cells #[.func (.func 65) #[] #[.pointer (some ⟨pb0, 0, none⟩), .pointer (some ⟨pb1, 0, none⟩), .pointer (some ⟨pb2, 0, none⟩), .pointer (some ⟨pb3, 0, none⟩), .pointer (some ⟨pb4, 0, none⟩), .pointer (some ⟨pb5, 0, none⟩), .pointer (some ⟨pb6, 0, none⟩)]] 103 (0, 0)) :: vecC 3 1 a_v0 c_v0 y2.length cs_v0 :: vecC 3 1 a_v1 c_v1 y3.length cs_v1 :: R)) (w := _) (x := true) (y := true) (fun _ => hS) (fun _ => (((hS.dropAt 1).dropAt 3).dropAt 3))
          have hF := hS; replace hS := (((hS.dropAt 1).dropAt 3).dropAt 3)
          refine Rg.take (i := 5) false rfl hE rfl (by kernel_rfl) (runs_plain rfl) (Gives.load1 hE rfl (fun w h => (hat88 w _ h).one rfl) ty22) rfl hT ?_; clear hE a; intro a hE
          replace hS := hF; clear hF hT
          refine Rg.takeP (i := 6) hE rfl (by kernel_rfl) (runs_plain rfl) (Gives.p hE rfl) rfl (tw_sel (fun _ => hS) (fun _ => (((hS.dropAt 1).dropAt 3).dropAt 3))) ?_; clear hE a; intro a hE
          refine Rg.one (i := 1) true true rfl (by kernel_rfl) (by kernel_rfl) (by kernel_rfl) ?_
          obtain ⟨q110, hq111, hr⟩ := bindS hr
          have hF := hS.lendV RI.mono 8 rfl h_v1 (rfl); clear hS; obtain ⟨t118, hle119, hS, hs120, bk121⟩ := hF
          have hc_ := SlicesCloneLint_ok hS hs120 hq111
          refine WL.fnq hE (hc_) (runs_plain rfl) bd67 rfl rfl rfl ?_
          clear hE hS hc_; rintro e w ⟨a112, c113, n114, cs115, rfl, h116, rfl, hS⟩; refine ⟨_, rfl, ?_⟩; clear a; intro a hE
          replace hS := bk121 _ _ hS
          replace h116 := Ev.flat (s2 := s) (fun _ _ _ _ h => h) h116
          refine WL.nil ?_
          refine ⟨⟨fun _ => (St.front (St.front (St.front (St.front (St.front (St.front (St.front (St.front (hS.dropAt 1) 8 rfl) 8 rfl) 8 rfl) 8 rfl) 8 rfl) 8 rfl) 8 rfl) 8 rfl), fun _ => (St.front (St.front (St.front (St.front (St.front ((((hS.dropAt 1).dropAt 2).dropAt 4).dropAt 4) 5 rfl) 5 rfl) 5 rfl) 5 rfl) 5 rfl)⟩, ?_⟩
          refine Rg.one (i := 7) false true rfl (by kernel_rfl) (by kernel_rfl) (by kernel_rfl) ?_
          refine WL.storeI hE hS 6 rfl [.slice a112 q110.length c113] (runs_plain rfl) rfl rfl rfl ty22 rfl rfl rfl rfl ?_; clear hE hS a w; intro a w hE hS
          refine WL.nil ?_
          refine ⟨⟨fun h => absurd h (by decide), fun _ => (St.front (St.front (St.front (St.front (St.front ((((hS.dropAt 1).dropAt 2).dropAt 4).dropAt 4) 5 rfl) 5 rfl) 5 rfl) 5 rfl) 5 rfl)⟩, ?_⟩
          refine Rg.one (i := 8) false true rfl (by kernel_rfl) (by kernel_rfl) (by kernel_rfl) ?_
          refine WL.storeI hE hS 7 rfl [.slice a89 x81.times.length c90] (runs_plain rfl) rfl rfl rfl ty22 rfl rfl rfl rfl ?_; clear hE hS a w; intro a w hE hS
          refine WL.nil ?_
          refine ⟨⟨fun h => absurd h (by decide), fun _ => (St.front (St.front (St.front (St.front (St.front ((((hS.dropAt 1).dropAt 2).dropAt 4).dropAt 4) 5 rfl) 5 rfl) 5 rfl) 5 rfl) 5 rfl)⟩, ?_⟩
          refine Rg.one (i := 9) false true rfl (by kernel_rfl) (by kernel_rfl) (by kernel_rfl) ?_
          refine WL.storeI hE hS 3 rfl [.int .i64 q98] (runs_plain rfl) rfl rfl rfl ty3 rfl rfl rfl rfl ?_; clear hE hS a w; intro a w hE hS
          refine WL.nil ?_
          refine ⟨⟨fun h => absurd h (by decide), fun _ => (St.front (St.front (St.front (St.front (St.front ((((hS.dropAt 1).dropAt 2).dropAt 4).dropAt 4) 5 rfl) 5 rfl) 5 rfl) 5 rfl) 5 rfl)⟩, ?_⟩
          refine Rg.done (by kernel_rfl) ?_
          subst hK109
          refine W.ret ?_
          have hF := hS.fixD RI.mono 1 rfl h116 rfl; clear hS; obtain ⟨s122, hle123, hS, h124⟩ := hF
          replace h1 := Pt.mono RMendSolver.mono hle123 h1
          replace h91 := Sl.mono RI.mono hle123 h91
          replace h_v1 := Ev.mono RI.mono hle123 h_v1
          replace h_y0_0 := Sl.mono RI.mono hle123 h_y0_0
          replace h_y0_1 := Sl.mono RI.mono hle123 h_y0_1
          replace h_y0_2 := Sl.mono RI.mono hle123 h_y0_2
          replace h_y0_3 := Sl.mono RMendArc.mono hle123 h_y0_3
          replace h_y0_4 := Sl.mono RMendChoice.mono hle123 h_y0_4
          replace h_v0 := Ev.mono RI.mono hle123 h_v0
          refine finG (fn := Try.f65) (rs := []) (vs := []) hE rfl trivial ?_
          obtain rfl := Option.some.inj hr
          replace hS := hS.front 8 rfl
          replace hS := hS.front 8 rfl
          replace hS := hS.front 8 rfl
          replace hS := hS.front 8 rfl
          replace hS := hS.front 8 rfl
          replace hS := hS.front 8 rfl
          replace hS := hS.front 8 rfl
          replace hS := hS.front 8 rfl
          exact ⟨cs_v1, a112, c113, a89, c90, s122, rfl, hle123, h_v1, (rfl), h124, h91, hS⟩
        · replace hr := iteF hc108 hr
          refine W.skip ?_
          refine W.seq ?_
          refine W.region ?_
          refine WL.vS hS hE (runs_plain rfl) (Gives.loadB hE 2 rfl rfl rfl ty22) rfl ?_; clear hE a; intro a hE
          refine WL.vS hS hE (runs_plain rfl) (Gives.p hE rfl) rfl ?_; clear hE a; intro a hE
          obtain ⟨x125, hx126, hr⟩ := bindS hr
          obtain ⟨hi127, hlt128, hy129⟩ := gx_some hx126
          obtain ⟨vs130, hl131, hR132, hd133, hget134⟩ := h_v0.at hy129
          subst hR132
          refine WL.vS hS hE (runs_plain rfl) (Gives.idx hE ((x0).toNat) rfl rfl sl22 hi127 (by omega) (hS.vecAok 7 rfl (by omega : (x0).toNat < y2.length))) rfl ?_; clear hE a; intro a hE
          refine WL.vS hS hE (runs_plain rfl) (Gives.load1 hE rfl (fun w h => St.vecSees h 7 rfl ((x0).toNat * 1) _ hget134) ty3) rfl ?_; clear hE a; intro a hE
          refine WL.vS hS hE (runs_plain rfl) (Gives.p hE rfl) rfl ?_; clear hE a; intro a hE
          refine WL.nil ?_
          refine W.seq ?_
          refine W.seq ?_
          refine W.region ?_
          refine WL.vS hS hE (runs_plain rfl) (Gives.fld hE rfl fl50_4) rfl ?_; clear hE a; intro a hE
          refine WL.vS hS hE (runs_plain rfl) (Gives.loadB hE 0 rfl rfl rfl ty48) rfl ?_; clear hE a; intro a hE
          refine WL.vS hS hE (runs_plain rfl) (Gives.p hE rfl) rfl ?_; clear hE a; intro a hE
          obtain ⟨x135, hx136, hr⟩ := bindS hr
          obtain ⟨hi137, hlt138, hy139⟩ := gx_some hx136
          obtain ⟨cs140, hl141, hR142, hat143⟩ := h_y0_4.at hy139
          obtain ⟨a144, c145, rfl, h146⟩ := hR142
          refine WL.vS hS hE (runs_plain rfl) (Gives.idx hE (x125).toNat rfl rfl sl48 hi137 hlt138 (h_y0_4.aok hlt138)) rfl ?_; clear hE a; intro a hE
          refine WL.vS hS hE (runs_plain rfl) (Gives.fld hE rfl fl97_0) rfl ?_; clear hE a; intro a hE
          refine WL.vS hS hE (runs_plain rfl) (Gives.load1 hE rfl (fun w h => hat143 w _ h) ty95) rfl ?_; clear hE a; intro a hE
          refine WL.vS hS hE (runs_plain rfl) (Gives.len hE rfl sl95) rfl ?_; clear hE a; intro a hE
          refine WL.vS hS hE (runs_plain rfl) (Gives.p hE rfl) rfl ?_; clear hE a; intro a hE
          refine WL.nil ?_
          obtain ⟨q148, hq147, hr⟩ := bindS hr
          refine W.cut (fun a w => ∃ (q158 : List Int), ∃ (q164 : Int), ∃ (q165 : List Int), ∃ (q169 : List Int), ∃ (cs162 : List Value), ∃ (a166 : Option Addr), ∃ (c167 : Nat), ∃ (a170 : Option Addr), ∃ (c171 : Nat), ∃ (s156 : Sg), s.Le s156 ∧ (q158, q164, q165, q169) = q148 ∧ Ev 1 (RI .i64) s156 cs162 q158 ∧ q158.length = y3.length ∧ Sl 1 (RI .i64) s156 a166 c167 q165 ∧ Sl 1 (RI .i64) s156 a170 c171 q169 ∧ Rep a 78 [(5, .pointer (some ⟨pb3, 0, none⟩)), (12, .int .i64 x125)] ∧ St w s156 (pt pb0 (.cells #[.slice a_y0_0 y0.Ready.length c_y0_0, .slice a_y0_1 y0.Last.length c_y0_1, .slice a_y0_2 y0.Due.length c_y0_2, .slice a_y0_3 y0.Arcs.length c_y0_3, .slice a_y0_4 y0.Choices.length c_y0_4] 50 (0, 0)) :: pt pb1 (.cells #[.int .i64 q164] 3 (0, 0)) :: pt pb2 (.cells #[.slice a_v0 y2.length c_v0] 22 (0, 0)) :: pt pb3 (.cells #[.slice a_v1 y3.length c_v1] 22 (0, 0)) :: pt pb4 (.cells #[.slice a166 q165.length c167] 22 (0, 0)) :: pt pb5 (.cells #[.slice a170 q169.length c171] 22 (0, 0)) :: pt pb6 (.cells #[.func (.func 65) #[] #[.pointer (some ⟨pb0, 0, none⟩), .pointer (some ⟨pb1, 0, none⟩), .pointer (some ⟨pb2, 0, none⟩), .pointer (some ⟨pb3, 0, none⟩), .pointer (some ⟨pb4, 0, none⟩), .pointer (some ⟨pb5, 0, none⟩), .pointer (some ⟨pb6, 0, none⟩)]] 103 (0, 0)) :: vecC 3 1 a_v0 c_v0 y2.length cs_v0 :: vecC 3 1 a_v1 c_v1 y3.length cs162 :: R)) ?_ ?_
          · refine W.block ?_
            refine W.loop (fun m a w => ∃ (rest151 : List (List MendArc)) (k149 : Nat), ∃ (q158 : List Int), ∃ (q164 : Int), ∃ (q165 : List Int), ∃ (q169 : List Int), ∃ (cs162 : List Value), ∃ (a166 : Option Addr), ∃ (c167 : Nat), ∃ (a170 : Option Addr), ∃ (c171 : Nat), ∃ (s156 : Sg), rest151.length = m ∧ x135.Ways.drop k149 = rest151 ∧ s.Le s156 ∧ MendBest_1_v1.loop1 x0 x1 y0 y2 fu self_MendBest_1_v1 x125 rest151 k149 q158 q164 q165 q169 = some q148 ∧ Ev 1 (RI .i64) s156 cs162 q158 ∧ q158.length = y3.length ∧ Sl 1 (RI .i64) s156 a166 c167 q165 ∧ Sl 1 (RI .i64) s156 a170 c171 q169 ∧ Rep a 78 [(0, .int .i64 x0), (1, .pointer (some ⟨b83, o84, none⟩)), (5, .pointer (some ⟨pb3, 0, none⟩)), (8, .pointer (some ⟨pb6, 0, none⟩)), (12, .int .i64 x125), (50, .slice a144 x135.Ways.length c145), (51, .int .i64 ((x135.Ways).length : Int)), (52, .int .i64 ((k149 : Nat) : Int))] ∧ St w s156 (pt pb0 (.cells #[.slice a_y0_0 y0.Ready.length c_y0_0, .slice a_y0_1 y0.Last.length c_y0_1, .slice a_y0_2 y0.Due.length c_y0_2, .slice a_y0_3 y0.Arcs.length c_y0_3, .slice a_y0_4 y0.Choices.length c_y0_4] 50 (0, 0)) :: pt pb1 (.cells #[.int .i64 q164] 3 (0, 0)) :: pt pb2 (.cells #[.slice a_v0 y2.length c_v0] 22 (0, 0)) :: pt pb3 (.cells #[.slice a_v1 y3.length c_v1] 22 (0, 0)) :: pt pb4 (.cells #[.slice a166 q165.length c167] 22 (0, 0)) :: pt pb5 (.cells #[.slice a170 q169.length c171] 22 (0, 0)) :: pt pb6 (.cells #[.func (.func 65) #[] #[.pointer (some ⟨pb0, 0, none⟩), .pointer (some ⟨pb1, 0, none⟩), .pointer (some ⟨pb2, 0, none⟩), .pointer (some ⟨pb3, 0, none⟩), .pointer (some ⟨pb4, 0, none⟩), .pointer (some ⟨pb5, 0, none⟩), .pointer (some ⟨pb6, 0, none⟩)]] 103 (0, 0)) :: vecC 3 1 a_v0 c_v0 y2.length cs_v0 :: vecC 3 1 a_v1 c_v1 y3.length cs162 :: R)) (m := x135.Ways.length) ⟨x135.Ways, 0, y3, y1, y4, y5, cs_v1, a_y4_0, c_y4_0, a_y5_0, c_y5_0, s, rfl, rfl, (Sg.Le.refl _), hq147, h_v1, (rfl), h_y4_0, h_y5_0, hE.pick _ ⟨rfl, rfl, rfl, rfl, rfl, rfl, rfl, rfl, trivial⟩, hS⟩ ?_
            clear hE hS a w hq147; rintro m155 a w ⟨rest151, k149, q158, q164, q165, q169, cs162, a166, c167, a170, c171, s156, rfl, hd152, hle157, hq147, h161, hn163, h168, h172, hE, hS⟩
            refine W.gen fun K173 hK173 => ?_
            replace h1 := Pt.mono RMendSolver.mono hle157 h1
            replace h_y0_4 := Sl.mono RMendChoice.mono hle157 h_y0_4
            replace h146 := Sl.mono (RL.mono RMendArc.mono) hle157 h146
            replace h_y0_0 := Sl.mono RI.mono hle157 h_y0_0
            replace h_y0_1 := Sl.mono RI.mono hle157 h_y0_1
            replace h_y0_2 := Sl.mono RI.mono hle157 h_y0_2
            replace h_y0_3 := Sl.mono RMendArc.mono hle157 h_y0_3
            replace h_y4_0 := Sl.mono RI.mono hle157 h_y4_0
            replace h_y5_0 := Sl.mono RI.mono hle157 h_y5_0
            replace h_v0 := Ev.mono RI.mono hle157 h_v0
            replace h_v1 := Ev.mono RI.mono hle157 h_v1
            rcases rest151 with _ | ⟨x150, rest151⟩
            · have hlt153 := drop_nil hd152
              refine W.seq ?_
              refine W.region ?_
              refine WL.vS hS hE (runs_plain rfl) (Gives.p hE rfl) rfl ?_; clear hE a; intro a hE
              refine WL.nil ?_
              refine W.seq ?_
              refine W.condF hE rfl (decide_eq_false (by omega)) ?_
              subst hK173
              refine W.exit rfl ?_
              exact ⟨q158, q164, q165, q169, cs162, a166, c167, a170, c171, s156, hle157, Option.some.inj hq147, h161, hn163, h168, h172, hE.pick _ ⟨rfl, rfl, trivial⟩, hS⟩
            · obtain ⟨hlt153, hx154, hd152⟩ := drop_cons hd152
              rw [MendBest_1_v1.loop1] at hq147
              refine W.seq ?_
              refine W.region ?_
              refine WL.vS hS hE (runs_plain rfl) (Gives.p hE rfl) rfl ?_; clear hE a; intro a hE
              refine WL.nil ?_
              refine W.seq ?_
              refine W.condT hE rfl (decide_eq_true (by omega)) ?_
              refine W.skip ?_
              refine W.seq ?_
              refine W.block ?_
              refine W.seq ?_
              refine W.region ?_
              refine WL.vS hS hE (runs_plain rfl) (Gives.p hE rfl) rfl ?_; clear hE a; intro a hE
              obtain ⟨cs174, hl175, hR176, hat177⟩ := h146.at hx154
              obtain ⟨a178, c179, rfl, h180⟩ := hR176
              refine WL.vS hS hE (runs_plain rfl) (Gives.idx hE k149 rfl rfl sl95 rfl hlt153 (h146.aok hlt153)) rfl ?_; clear hE a; intro a hE
              refine WL.vS hS hE (runs_plain rfl) (Gives.load1 hE rfl (fun w h => hat177 w _ h) ty47) rfl ?_; clear hE a; intro a hE
              refine WL.vS hS hE (runs_plain rfl) (Gives.p hE rfl) rfl ?_; clear hE a; intro a hE
              refine WL.vS hS hE (runs_plain rfl) (Gives.p hE rfl) rfl ?_; clear hE a; intro a hE
              refine WL.nil ?_
              refine W.seq ?_
              refine W.region ?_
              refine WL.vS hS hE (runs_plain rfl) (Gives.p hE rfl) rfl ?_; clear hE a; intro a hE
              refine WL.vS hS hE (runs_plain rfl) (Gives.p hE rfl) rfl ?_; clear hE a; intro a hE
              obtain ⟨q181, hq182, hq147⟩ := bindS hq147
              have hc_ := MendSolverwith_ok hS h1 h180 hq182
              refine WL.fnq hE (hc_) (runs_plain rfl) bd68 rfl rfl rfl ?_
              clear hE hS hc_; rintro e w ⟨a183, s185, rfl, hle186, h184, hS⟩; refine ⟨_, rfl, ?_⟩; clear a; intro a hE
              replace h1 := Pt.mono RMendSolver.mono hle186 h1
              replace h146 := Sl.mono (RL.mono RMendArc.mono) hle186 h146
              replace h180 := Sl.mono RMendArc.mono hle186 h180
              replace h_y0_0 := Sl.mono RI.mono hle186 h_y0_0
              replace h_y0_1 := Sl.mono RI.mono hle186 h_y0_1
              replace h_y0_2 := Sl.mono RI.mono hle186 h_y0_2
              replace h_y0_3 := Sl.mono RMendArc.mono hle186 h_y0_3
              replace h_y0_4 := Sl.mono RMendChoice.mono hle186 h_y0_4
              replace h168 := Sl.mono RI.mono hle186 h168
              replace h172 := Sl.mono RI.mono hle186 h172
              replace h_v0 := Ev.mono RI.mono hle186 h_v0
              replace h161 := Ev.mono RI.mono hle186 h161
              refine WL.vS hS hE (runs_plain rfl) (Gives.p hE rfl) rfl ?_; clear hE a; intro a hE
              refine WL.vS hS hE (runs_plain rfl) (Gives.p hE rfl) rfl ?_; clear hE a; intro a hE
              refine WL.vS hS hE (runs_plain rfl) (Gives.p hE rfl) rfl ?_; clear hE a; intro a hE
              refine WL.vS hS hE (runs_plain rfl) (Gives.p hE rfl) rfl ?_; clear hE a; intro a hE
              refine WL.vS hS hE (runs_plain rfl) (Gives.p hE rfl) rfl ?_; clear hE a; intro a hE
              refine WL.nil ?_
              refine W.seq ?_
              refine W.region ?_
              refine WL.vS hS hE (runs_plain rfl) (Gives.p hE rfl) rfl ?_; clear hE a; intro a hE
              refine WL.nil ?_
              obtain ⟨q188, hq187, hq147⟩ := bindS hq147
              refine W.cut (fun a w => ∃ (q191 : List Int), ∃ (q197 : Int), ∃ (q198 : List Int), ∃ (q202 : List Int), ∃ (cs195 : List Value), ∃ (a199 : Option Addr), ∃ (c200 : Nat), ∃ (a203 : Option Addr), ∃ (c204 : Nat), ∃ (s189 : Sg), s185.Le s189 ∧ (q191, q197, q198, q202) = q188 ∧ Ev 1 (RI .i64) s189 cs195 q191 ∧ q191.length = y3.length ∧ Sl 1 (RI .i64) s189 a199 c200 q198 ∧ Sl 1 (RI .i64) s189 a203 c204 q202 ∧ Rep a 78 [(0, .int .i64 x0), (1, .pointer (some ⟨b83, o84, none⟩)), (5, .pointer (some ⟨pb3, 0, none⟩)), (8, .pointer (some ⟨pb6, 0, none⟩)), (12, .int .i64 x125), (50, .slice a144 x135.Ways.length c145), (51, .int .i64 ((x135.Ways).length : Int)), (52, .int .i64 ((k149 : Nat) : Int))] ∧ St w s189 (pt pb0 (.cells #[.slice a_y0_0 y0.Ready.length c_y0_0, .slice a_y0_1 y0.Last.length c_y0_1, .slice a_y0_2 y0.Due.length c_y0_2, .slice a_y0_3 y0.Arcs.length c_y0_3, .slice a_y0_4 y0.Choices.length c_y0_4] 50 (0, 0)) :: pt pb1 (.cells #[.int .i64 q197] 3 (0, 0)) :: pt pb2 (.cells #[.slice a_v0 y2.length c_v0] 22 (0, 0)) :: pt pb3 (.cells #[.slice a_v1 y3.length c_v1] 22 (0, 0)) :: pt pb4 (.cells #[.slice a199 q198.length c200] 22 (0, 0)) :: pt pb5 (.cells #[.slice a203 q202.length c204] 22 (0, 0)) :: pt pb6 (.cells #[.func (.func 65) #[] #[.pointer (some ⟨pb0, 0, none⟩), .pointer (some ⟨pb1, 0, none⟩), .pointer (some ⟨pb2, 0, none⟩), .pointer (some ⟨pb3, 0, none⟩), .pointer (some ⟨pb4, 0, none⟩), .pointer (some ⟨pb5, 0, none⟩), .pointer (some ⟨pb6, 0, none⟩)]] 103 (0, 0)) :: vecC 3 1 a_v0 c_v0 y2.length cs_v0 :: vecC 3 1 a_v1 c_v1 y3.length cs195 :: R)) ?_ ?_
              · refine W.gen fun K206 hK206 => ?_
                refine W.cond hE rfl (fun hc207 => ?_) (fun hc207 => ?_)
                · replace hq187 := iteT hc207 hq187
                  refine W.seq ?_
                  refine W.region ?_
                  refine WL.vS hS hE (runs_plain rfl) (Gives.loadB hE 3 rfl rfl rfl ty22) rfl ?_; clear hE a; intro a hE
                  refine WL.vS hS hE (runs_plain rfl) (Gives.p hE rfl) rfl ?_; clear hE a; intro a hE
                  refine WL.vS hS hE (runs_plain rfl) (Gives.p hE rfl) rfl ?_; clear hE a; intro a hE
                  refine WL.vS hS hE (runs_plain rfl) (Gives.inc hE rfl (by have := h146.small; omega)) rfl ?_; clear hE a; intro a hE
                  obtain ⟨_, hx209, hq187⟩ := bindS hq187
                  obtain ⟨h210, h211⟩ := ix_some hx209
                  refine WL.vS hS hE (runs_plain rfl) (Gives.idx hE ((x125).toNat) rfl rfl sl22 h210 (by have := hn163; omega) (hS.vecAok 8 rfl (by have := hn163; omega : (x125).toNat < y3.length))) rfl ?_; clear hE a; intro a hE
                  obtain ⟨x213, hx214, hq187⟩ := bindS hq187
                  refine WL.setD hE hS 8 rfl (runs_plain rfl) rfl rfl (vs := [.int .i64 ((k149 + 1 : Nat) : Int)]) rfl ty3 rfl rfl rfl h161 hn163 (sx_some hx214).1 hx214 rfl rfl ?_; clear hE hS a w; intro cs215 a w h216 hn217 hE hS
                  refine WL.nil ?_
                  refine W.region ?_
                  refine WL.vS hS hE (runs_plain rfl) (Gives.loadB hE 6 rfl rfl rfl ty103) rfl ?_; clear hE a; intro a hE
                  refine WL.vS hS hE (runs_plain rfl) (Gives.p hE rfl) rfl ?_; clear hE a; intro a hE
                  refine WL.vS hS hE (runs_plain rfl) (Gives.p hE rfl) rfl ?_; clear hE a; intro a hE
                  refine WL.vS hS hE (runs_plain rfl) (Gives.p hE rfl) rfl ?_; clear hE a; intro a hE
                  obtain ⟨q218, hq219, hq187⟩ := bindS hq187
                  have hc_ := ih_MendBest_1_v1 (y0 := y0) hS h184 h_y0_0 h_y0_1 h_y0_2 h_y0_3 h_y0_4 h_v0 (rfl) h216 hn217 h168 h172 hq219
                  refine WL.fnw hE (hc_) rfl (runs_plain rfl) bd65 rfl rfl rfl ?_
                  clear hE hS hc_; rintro e w ⟨cs220, a223, c224, a226, c227, s229, rfl, hle230, h221, hn222, h225, h228, hS⟩; refine ⟨_, rfl, ?_⟩; clear a; intro a hE
                  replace h1 := Pt.mono RMendSolver.mono hle230 h1
                  replace h146 := Sl.mono (RL.mono RMendArc.mono) hle230 h146
                  replace h180 := Sl.mono RMendArc.mono hle230 h180
                  replace h184 := Pt.mono RMendSolver.mono hle230 h184
                  replace h_y0_0 := Sl.mono RI.mono hle230 h_y0_0
                  replace h_y0_1 := Sl.mono RI.mono hle230 h_y0_1
                  replace h_y0_2 := Sl.mono RI.mono hle230 h_y0_2
                  replace h_y0_3 := Sl.mono RMendArc.mono hle230 h_y0_3
                  replace h_y0_4 := Sl.mono RMendChoice.mono hle230 h_y0_4
                  replace h168 := Sl.mono RI.mono hle230 h168
                  replace h172 := Sl.mono RI.mono hle230 h172
                  replace h_v0 := Ev.mono RI.mono hle230 h_v0
                  replace h216 := Ev.mono RI.mono hle230 h216
                  refine WL.nil ?_
                  subst hK206
                  exact ⟨q218.1, q218.2.1, q218.2.2.1, q218.2.2.2, cs220, a223, c224, a226, c227, s229, hle230, Option.some.inj hq187, h221, hn222, h225, h228, hE.pick _ ⟨rfl, rfl, rfl, rfl, rfl, rfl, rfl, rfl, trivial⟩, hS⟩
                · replace hq187 := iteF hc207 hq187
                  refine W.skip ?_
                  subst hK206
                  exact ⟨q158, q164, q165, q169, cs162, a166, c167, a170, c171, s185, (Sg.Le.refl _), Option.some.inj hq187, h161, hn163, h168, h172, hE.pick _ ⟨rfl, rfl, rfl, rfl, rfl, rfl, rfl, rfl, trivial⟩, hS⟩
              · clear hE hS a w; rintro a w ⟨q191, q197, q198, q202, cs195, a199, c200, a203, c204, s189, hle190, rfl, h194, hn196, h201, h205, hE, hS⟩
                dsimp only at hq147
                replace h1 := Pt.mono RMendSolver.mono hle190 h1
                replace h146 := Sl.mono (RL.mono RMendArc.mono) hle190 h146
                replace h_y0_0 := Sl.mono RI.mono hle190 h_y0_0
                replace h_y0_1 := Sl.mono RI.mono hle190 h_y0_1
                replace h_y0_2 := Sl.mono RI.mono hle190 h_y0_2
                replace h_y0_3 := Sl.mono RMendArc.mono hle190 h_y0_3
                replace h_y0_4 := Sl.mono RMendChoice.mono hle190 h_y0_4
                replace h168 := Sl.mono RI.mono hle190 h168
                replace h172 := Sl.mono RI.mono hle190 h172
                replace h_v0 := Ev.mono RI.mono hle190 h_v0
                replace h161 := Ev.mono RI.mono hle190 h161
                refine W.region ?_
                refine WL.vS hS hE (runs_plain rfl) (Gives.inc hE rfl (by have := h146.small; omega)) rfl ?_; clear hE a; intro a hE
                refine WL.vS hS hE (runs_plain rfl) (Gives.p hE rfl) rfl ?_; clear hE a; intro a hE
                refine WL.nil ?_
                subst hK173
                exact ⟨rest151.length, Nat.lt_succ_self _, rest151, k149 + 1, q191, q197, q198, q202, cs195, a199, c200, a203, c204, s189, rfl, hd152, (Sg.Le.trans (Sg.Le.trans hle157 hle186) hle190), hq147, h194, hn196, h201, h205, hE.pick _ ⟨rfl, rfl, rfl, rfl, rfl, rfl, rfl, rfl, trivial⟩, hS⟩
          · clear hE hS a w; rintro a w ⟨q158, q164, q165, q169, cs162, a166, c167, a170, c171, s156, hle157, rfl, h161, hn163, h168, h172, hE, hS⟩
            dsimp only at hr
            replace h1 := Pt.mono RMendSolver.mono hle157 h1
            replace h_y0_4 := Sl.mono RMendChoice.mono hle157 h_y0_4
            replace h146 := Sl.mono (RL.mono RMendArc.mono) hle157 h146
            replace h_y0_0 := Sl.mono RI.mono hle157 h_y0_0
            replace h_y0_1 := Sl.mono RI.mono hle157 h_y0_1
            replace h_y0_2 := Sl.mono RI.mono hle157 h_y0_2
            replace h_y0_3 := Sl.mono RMendArc.mono hle157 h_y0_3
            replace h_y4_0 := Sl.mono RI.mono hle157 h_y4_0
            replace h_y5_0 := Sl.mono RI.mono hle157 h_y5_0
            replace h_v0 := Ev.mono RI.mono hle157 h_v0
            replace h_v1 := Ev.mono RI.mono hle157 h_v1
            refine W.region ?_
            refine WL.vS hS hE (runs_plain rfl) (Gives.loadB hE 3 rfl rfl rfl ty22) rfl ?_; clear hE a; intro a hE
            refine WL.vS hS hE (runs_plain rfl) (Gives.p hE rfl) rfl ?_; clear hE a; intro a hE
            obtain ⟨_, hx232, hr⟩ := bindS hr
            obtain ⟨h233, h234⟩ := ix_some hx232
            refine WL.vS hS hE (runs_plain rfl) (Gives.idx hE ((x125).toNat) rfl rfl sl22 h233 (by have := hn163; omega) (hS.vecAok 8 rfl (by have := hn163; omega : (x125).toNat < y3.length))) rfl ?_; clear hE a; intro a hE
            obtain ⟨x236, hx237, hr⟩ := bindS hr
            refine WL.setD hE hS 8 rfl (runs_plain rfl) rfl rfl (vs := [.int .i64 0]) rfl ty3 rfl rfl rfl h161 hn163 (sx_some hx237).1 hx237 rfl rfl ?_; clear hE hS a w; intro cs238 a w h239 hn240 hE hS
            refine WL.nil ?_
            refine finG (fn := Try.f65) (rs := []) (vs := []) hE rfl trivial ?_
            obtain rfl := Option.some.inj hr
            exact ⟨cs238, a166, c167, a170, c171, s156, rfl, hle157, h239, hn240, h168, h172, hS⟩
set_option maxHeartbeats 8000000 in
theorem MendBest_ok {fu : Nat}  {w : World} {s : Sg} {R : List HP} {x0 : MendGraph} {a0_0 : Option Addr} {c0_0 : Nat} {a0_1 : Option Addr} {c0_1 : Nat} {a0_2 : Option Addr} {c0_2 : Nat} {a0_3 : Option Addr} {c0_3 : Nat} {a0_4 : Option Addr} {c0_4 : Nat} (hS : St w s (R)) (h0_0 : Sl 1 (RI .i64) s a0_0 c0_0 x0.Ready) (h0_1 : Sl 1 (RI .i64) s a0_1 c0_1 x0.Last) (h0_2 : Sl 1 (RI .i64) s a0_2 c0_2 x0.Due) (h0_3 : Sl 3 RMendArc s a0_3 c0_3 x0.Arcs) (h0_4 : Sl 1 RMendChoice s a0_4 c0_4 x0.Choices) {r : (List Int) × (List Int) × Int} (hr : MendBest fu x0 = some r) :
    Calls Try.prog 26 [.agg [.slice a0_0 x0.Ready.length c0_0, .slice a0_1 x0.Last.length c0_1, .slice a0_2 x0.Due.length c0_2, .slice a0_3 x0.Arcs.length c0_3, .slice a0_4 x0.Choices.length c0_4].toArray].toArray w (fun e w => ∃ (a0 : Option Addr) (c0 : Nat) (a1 : Option Addr) (c1 : Nat) (t : Sg), e = .returned (.tuple #[.slice a0 r.1.length c0, .slice a1 r.2.1.length c1, .int .i64 r.2.2]) ∧ s.Le t ∧ Sl 1 (RI .i64) t a0 c0 r.1 ∧ Sl 1 (RI .i64) t a1 c1 r.2.1 ∧ St w t (R)) := by
  refine enter Try.func26 rfl rfl rfl fun a hE => ?_
  rw [MendBest] at hr
  refine W.seq ?_
  refine W.region ?_
  refine WL.box hE hS (runs_plain rfl) rfl rfl rfl ?_; clear hE hS a w; intro b51 a w hE hS
  refine WL.vS hS hE (runs_plain rfl) (Gives.p hE rfl) rfl ?_; clear hE a; intro a hE
  refine WL.vS hS hE (runs_plain rfl) (Gives.p hE rfl) rfl ?_; clear hE a; intro a hE
  refine WL.vS hS hE (runs_plain rfl) (Gives.p hE rfl) rfl ?_; clear hE a; intro a hE
  refine WL.nil ?_
  refine W.seq ?_
  refine W.seq ?_
  refine W.region ?_
  refine WL.vS hS hE (runs_plain rfl) (Gives.loadBA hE 0 rfl rfl ty50) rfl ?_; clear hE a; intro a hE
  obtain ⟨q52, hq53, hr⟩ := bindS hr
  have hc_ := MendCheckGraph_ok hS h0_0 h0_1 h0_2 h0_3 h0_4 hq53
  refine WL.fnq hE (hc_) (runs_plain rfl) bd24 rfl rfl rfl ?_
  clear hE hS hc_; rintro e w ⟨rfl, hS⟩; refine ⟨_, rfl, ?_⟩; clear a; intro a hE
  refine WL.vS hS hE (runs_plain rfl) (Gives.p hE rfl) rfl ?_; clear hE a; intro a hE
  refine WL.nil ?_
  refine W.seq ?_
  refine W.region ?_
  refine WL.vS hS hE (runs_plain rfl) (Gives.p hE rfl) rfl ?_; clear hE a; intro a hE
  refine WL.vS hS hE (runs_plain rfl) (Gives.p hE rfl) rfl ?_; clear hE a; intro a hE
  refine WL.nil ?_
  refine W.cond hE rfl (fun hc54 => ?_) (fun hc54 => ?_)
  · replace hr := iteT hc54 hr
    refine W.seq ?_
    refine W.region ?_
    refine WL.vS hS hE (runs_plain rfl) (Gives.p hE rfl) rfl ?_; clear hE a; intro a hE
    refine WL.vS hS hE (runs_plain rfl) (Gives.p hE rfl) rfl ?_; clear hE a; intro a hE
    refine WL.vS hS hE (runs_plain rfl) (Gives.p hE rfl) rfl ?_; clear hE a; intro a hE
    refine WL.vS hS hE (runs_plain rfl) (Gives.p hE rfl) rfl ?_; clear hE a; intro a hE
    refine WL.nil ?_
    refine W.ret ?_
    refine finG (fn := Try.f26) (rs := [.tmp 2, .tmp 3, .tmp 4]) (vs := [_, _, _]) hE rfl ⟨rfl, rfl, rfl, trivial⟩ ?_
    obtain rfl := Option.some.inj hr
    replace hS := hS.tail
    exact ⟨none, 0, none, 0, s, rfl, (Sg.Le.refl _), Sl.nil, Sl.nil, hS⟩
  · replace hr := iteF hc54 hr
    refine W.skip ?_
    refine W.seq ?_
    refine W.gen fun K55 hK55 => ?_
    refine W.regionE (sel (fun w => St w s (pt b51 (.cells #[.slice a0_0 x0.Ready.length c0_0, .slice a0_1 x0.Last.length c0_1, .slice a0_2 x0.Due.length c0_2, .slice a0_3 x0.Arcs.length c0_3, .slice a0_4 x0.Choices.length c0_4] 50 (0, 0)) :: R)) (fun w => St w s (pt b51 (.cells #[.slice a0_0 x0.Ready.length c0_0, .slice a0_1 x0.Last.length c0_1, .slice a0_2 x0.Due.length c0_2, .slice a0_3 x0.Arcs.length c0_3, .slice a0_4 x0.Choices.length c0_4] 50 (0, 0)) :: R))) (fun b i => cond b ([0, 1, 2, 3, 4, 5, 6, 7, 8, 9, 10, 11, 12, 13].contains i) ([0, 1, 2, 3, 4, 5, 6, 7, 8, 9, 10, 11, 12, 13].contains i)) mixed ?_
    replace hS := hS.drew
    have hT := tw_sel (A := fun w => St w s (pt b51 (.cells #[.slice a0_0 x0.Ready.length c0_0, .slice a0_1 x0.Last.length c0_1, .slice a0_2 x0.Due.length c0_2, .slice a0_3 x0.Arcs.length c0_3, .slice a0_4 x0.Choices.length c0_4] 50 (0, 0)) :: R)) (B := fun w => St w s (pt b51 (.cells #[.slice a0_0 x0.Ready.length c0_0, .slice a0_1 x0.Last.length c0_1, .slice a0_2 x0.Due.length c0_2, .slice a0_3 x0.Arcs.length c0_3, .slice a0_4 x0.Choices.length c0_4] 50 (0, 0)) :: R)) (w := _) (x := true) (y := true) (fun _ => hS) (fun _ => hS)
    have hF := hS; replace hS := hS
    refine Rg.take (i := 0) true rfl hE rfl (by kernel_rfl) (runs_plain rfl) (Gives.loadBA hE 0 rfl rfl ty50) rfl hT ?_; clear hE a; intro a hE
    replace hS := hF; clear hF hT
    refine Rg.takeP (i := 1) hE rfl (by kernel_rfl) (runs_plain rfl) (Gives.fld hE rfl fl50_4) rfl (tw_sel (fun _ => hS) (fun _ => hS)) ?_; clear hE a; intro a hE
    have hT := tw_sel (A := fun w => St w s (pt b51 (.cells #[.slice a0_0 x0.Ready.length c0_0, .slice a0_1 x0.Last.length c0_1, .slice a0_2 x0.Due.length c0_2, .slice a0_3 x0.Arcs.length c0_3, .slice a0_4 x0.Choices.length c0_4] 50 (0, 0)) :: R)) (B := fun w => St w s (pt b51 (.cells #[.slice a0_0 x0.Ready.length c0_0, .slice a0_1 x0.Last.length c0_1, .slice a0_2 x0.Due.length c0_2, .slice a0_3 x0.Arcs.length c0_3, .slice a0_4 x0.Choices.length c0_4] 50 (0, 0)) :: R)) (w := _) (x := true) (y := true) (fun _ => hS) (fun _ => hS)
    have hF := hS; replace hS := hS
    refine Rg.take (i := 2) true rfl hE rfl (by kernel_rfl) (runs_plain rfl) (Gives.loadB hE 0 rfl rfl rfl ty48) rfl hT ?_; clear hE a; intro a hE
    replace hS := hF; clear hF hT
    refine Rg.takeP (i := 3) hE rfl (by kernel_rfl) (runs_plain rfl) (Gives.len hE rfl sl48) rfl (tw_sel (fun _ => hS) (fun _ => hS)) ?_; clear hE a; intro a hE
    obtain ⟨x56, hx57, hr⟩ := bindS hr
    obtain ⟨q65, hq66, hr⟩ := bindS hr
    suffices key : ∀ s75 a73 cs70 b77 a67 c68 (a : Act) (w : World), s.Le s75 → Pt 3 RMendSolver s75 a73 q65.2.1 → Ev 1 (RI .i64) s75 cs70 q65.1 → Sl 1 (RI .i64) s75 a0_0 c0_0 x0.Ready → Sl 1 (RI .i64) s75 a0_1 c0_1 x0.Last → Sl 1 (RI .i64) s75 a0_2 c0_2 x0.Due → Sl 3 RMendArc s75 a0_3 c0_3 x0.Arcs → Sl 1 RMendChoice s75 a0_4 c0_4 x0.Choices → Rep a 58 [(1, .pointer (some ⟨b51, 0, none⟩)), (6, .pointer (some ⟨b77, 0, none⟩)), (7, .pointer a73), (8, .bool q65.2.2)] → St w s75 (pt b77 (.cells #[.slice a67 q65.1.length c68] 22 (0, 0)) :: vecC 3 1 a67 c68 q65.1.length cs70 :: pt b51 (.cells #[.slice a0_0 x0.Ready.length c0_0, .slice a0_1 x0.Last.length c0_1, .slice a0_2 x0.Due.length c0_2, .slice a0_3 x0.Arcs.length c0_3, .slice a0_4 x0.Choices.length c0_4] 50 (0, 0)) :: R) → K55.nor a w by
      refine Rg.many 4 [10] (by kernel_rfl) ⟨?_, ?_, trivial⟩
      · refine Br.mk (i := 4) true true rfl (by kernel_rfl) (by kernel_rfl) ?_
        refine WL.mkD (Rr := RI .i64) hE hS (runs_plain rfl) rfl rfl ap22 zr3 rfl hx57 rfl ?_; clear hE hS a w; intro b58 cs59 a w h60 hE hS
        refine WL.nil ?_
        refine ⟨⟨fun _ => (hS.tail), fun _ => (hS.tail)⟩, ?_⟩
        refine Rg.many 5 [10] (by kernel_rfl) ⟨?_, ?_, trivial⟩
        · refine Br.mk (i := 5) true true rfl (by kernel_rfl) (by kernel_rfl) ?_
          have hF := hS.fixD RI.mono 0 rfl h60 (rfl); clear hS; obtain ⟨s62, hle63, hS, h64⟩ := hF
          replace h0_0 := Sl.mono RI.mono hle63 h0_0
          replace h0_1 := Sl.mono RI.mono hle63 h0_1
          replace h0_2 := Sl.mono RI.mono hle63 h0_2
          replace h0_3 := Sl.mono RMendArc.mono hle63 h0_3
          replace h0_4 := Sl.mono RMendChoice.mono hle63 h0_4
          have hc_ := Mendforced_ok hS h0_0 h0_1 h0_2 h0_3 h0_4 h64 hq66
          refine WL.fnq hE (hc_) (runs_plain rfl) bd64 rfl rfl rfl ?_
          clear hE hS hc_; rintro e w ⟨a67, c68, n69, cs70, a73, s75, rfl, hle76, h71, rfl, h74, hS⟩; refine ⟨_, rfl, ?_⟩; clear a; intro a hE
          replace h0_0 := Sl.mono RI.mono hle76 h0_0
          replace h0_1 := Sl.mono RI.mono hle76 h0_1
          replace h0_2 := Sl.mono RI.mono hle76 h0_2
          replace h0_3 := Sl.mono RMendArc.mono hle76 h0_3
          replace h0_4 := Sl.mono RMendChoice.mono hle76 h0_4
          replace h64 := Sl.mono RI.mono hle76 h64
          refine WL.nil ?_
          refine ⟨⟨fun _ => (St.down (Sg.Le.trans hle63 hle76) (hS.tail)), fun _ => (St.down (Sg.Le.trans hle63 hle76) (hS.tail))⟩, ?_⟩
          refine Rg.takeP (i := 6) hE rfl (by kernel_rfl) (runs_plain rfl) (Gives.p hE rfl) rfl (tw_sel (fun _ => (St.down (Sg.Le.trans hle63 hle76) (hS.tail))) (fun _ => (St.down (Sg.Le.trans hle63 hle76) (hS.tail)))) ?_; clear hE a; intro a hE
          refine Rg.takeP (i := 7) hE rfl (by kernel_rfl) (runs_plain rfl) (Gives.p hE rfl) rfl (tw_sel (fun _ => (St.down (Sg.Le.trans hle63 hle76) (hS.tail))) (fun _ => (St.down (Sg.Le.trans hle63 hle76) (hS.tail)))) ?_; clear hE a; intro a hE
          refine Rg.takeP (i := 8) hE rfl (by kernel_rfl) (runs_plain rfl) (Gives.p hE rfl) rfl (tw_sel (fun _ => (St.down (Sg.Le.trans hle63 hle76) (hS.tail))) (fun _ => (St.down (Sg.Le.trans hle63 hle76) (hS.tail)))) ?_; clear hE a; intro a hE
          refine Rg.takeP (i := 9) hE rfl (by kernel_rfl) (runs_plain rfl) (Gives.p hE rfl) rfl (tw_sel (fun _ => (St.down (Sg.Le.trans hle63 hle76) (hS.tail))) (fun _ => (St.down (Sg.Le.trans hle63 hle76) (hS.tail)))) ?_; clear hE a; intro a hE
          refine Rg.one (i := 10) true true rfl (by kernel_rfl) (by kernel_rfl) (by kernel_rfl) ?_
          refine WL.alloc hE hS (runs_plain rfl) zr22 rfl ?_; clear hE hS a w; intro b77 a w hE hS
          refine WL.nil ?_
          refine ⟨⟨fun _ => (St.down (Sg.Le.trans hle63 hle76) ((hS.tail).tail)), fun _ => (St.down (Sg.Le.trans hle63 hle76) ((hS.tail).tail))⟩, ?_⟩
          refine Rg.one (i := 11) true true rfl (by kernel_rfl) (by kernel_rfl) (by kernel_rfl) ?_
          refine WL.storeI hE hS 0 rfl [.slice a67 q65.1.length c68] (runs_plain rfl) rfl rfl rfl ty22 rfl rfl rfl rfl ?_; clear hE hS a w; intro a w hE hS
          refine WL.nil ?_
          refine ⟨⟨fun _ => (St.down (Sg.Le.trans hle63 hle76) ((hS.tail).tail)), fun _ => (St.down (Sg.Le.trans hle63 hle76) ((hS.tail).tail))⟩, ?_⟩
          refine Rg.takeP (i := 12) hE rfl (by kernel_rfl) (runs_plain rfl) (Gives.p hE rfl) rfl (tw_sel (fun _ => (St.down (Sg.Le.trans hle63 hle76) ((hS.tail).tail))) (fun _ => (St.down (Sg.Le.trans hle63 hle76) ((hS.tail).tail)))) ?_; clear hE a; intro a hE
          refine Rg.takeP (i := 13) hE rfl (by kernel_rfl) (runs_plain rfl) (Gives.p hE rfl) rfl (tw_sel (fun _ => (St.down (Sg.Le.trans hle63 hle76) ((hS.tail).tail))) (fun _ => (St.down (Sg.Le.trans hle63 hle76) ((hS.tail).tail)))) ?_; clear hE a; intro a hE
          refine Rg.done (by kernel_rfl) ?_
          exact key _ _ _ _ _ _ _ _ (Sg.Le.trans hle63 hle76) h74 h71 h0_0 h0_1 h0_2 h0_3 h0_4 (hE.pick _ ⟨rfl, rfl, rfl, rfl, trivial⟩) hS
        · refine Br.mk (i := 10) true true rfl (by kernel_rfl) (by kernel_rfl) ?_
          refine WL.alloc hE hS (runs_plain rfl) zr22 rfl ?_; clear hE hS a w; intro b77 a w hE hS
          refine WL.nil ?_
          refine ⟨⟨fun _ => ((hS.tail).tail), fun _ => ((hS.tail).tail)⟩, ?_⟩
          refine Rg.one (i := 5) true true rfl (by kernel_rfl) (by kernel_rfl) (by kernel_rfl) ?_
          have hF := hS.fixD RI.mono 1 rfl h60 (rfl); clear hS; obtain ⟨s62, hle63, hS, h64⟩ := hF
          replace h0_0 := Sl.mono RI.mono hle63 h0_0
          replace h0_1 := Sl.mono RI.mono hle63 h0_1
          replace h0_2 := Sl.mono RI.mono hle63 h0_2
          replace h0_3 := Sl.mono RMendArc.mono hle63 h0_3
          replace h0_4 := Sl.mono RMendChoice.mono hle63 h0_4
          have hc_ := Mendforced_ok hS h0_0 h0_1 h0_2 h0_3 h0_4 h64 hq66
          refine WL.fnq hE (hc_) (runs_plain rfl) bd64 rfl rfl rfl ?_
          clear hE hS hc_; rintro e w ⟨a67, c68, n69, cs70, a73, s75, rfl, hle76, h71, rfl, h74, hS⟩; refine ⟨_, rfl, ?_⟩; clear a; intro a hE
          replace h0_0 := Sl.mono RI.mono hle76 h0_0
          replace h0_1 := Sl.mono RI.mono hle76 h0_1
          replace h0_2 := Sl.mono RI.mono hle76 h0_2
          replace h0_3 := Sl.mono RMendArc.mono hle76 h0_3
          replace h0_4 := Sl.mono RMendChoice.mono hle76 h0_4
          replace h64 := Sl.mono RI.mono hle76 h64
          refine WL.nil ?_
          refine ⟨⟨fun _ => (St.down (Sg.Le.trans hle63 hle76) ((hS.tail).tail)), fun _ => (St.down (Sg.Le.trans hle63 hle76) ((hS.tail).tail))⟩, ?_⟩
          refine Rg.takeP (i := 6) hE rfl (by kernel_rfl) (runs_plain rfl) (Gives.p hE rfl) rfl (tw_sel (fun _ => (St.down (Sg.Le.trans hle63 hle76) ((hS.tail).tail))) (fun _ => (St.down (Sg.Le.trans hle63 hle76) ((hS.tail).tail)))) ?_; clear hE a; intro a hE
          refine Rg.takeP (i := 7) hE rfl (by kernel_rfl) (runs_plain rfl) (Gives.p hE rfl) rfl (tw_sel (fun _ => (St.down (Sg.Le.trans hle63 hle76) ((hS.tail).tail))) (fun _ => (St.down (Sg.Le.trans hle63 hle76) ((hS.tail).tail)))) ?_; clear hE a; intro a hE
          refine Rg.takeP (i := 8) hE rfl (by kernel_rfl) (runs_plain rfl) (Gives.p hE rfl) rfl (tw_sel (fun _ => (St.down (Sg.Le.trans hle63 hle76) ((hS.tail).tail))) (fun _ => (St.down (Sg.Le.trans hle63 hle76) ((hS.tail).tail)))) ?_; clear hE a; intro a hE
          refine Rg.takeP (i := 9) hE rfl (by kernel_rfl) (runs_plain rfl) (Gives.p hE rfl) rfl (tw_sel (fun _ => (St.down (Sg.Le.trans hle63 hle76) ((hS.tail).tail))) (fun _ => (St.down (Sg.Le.trans hle63 hle76) ((hS.tail).tail)))) ?_; clear hE a; intro a hE
          refine Rg.one (i := 11) true true rfl (by kernel_rfl) (by kernel_rfl) (by kernel_rfl) ?_
          refine WL.storeI hE hS 1 rfl [.slice a67 q65.1.length c68] (runs_plain rfl) rfl rfl rfl ty22 rfl rfl rfl rfl ?_; clear hE hS a w; intro a w hE hS
          refine WL.nil ?_
          refine ⟨⟨fun _ => (St.down (Sg.Le.trans hle63 hle76) ((hS.tail).tail)), fun _ => (St.down (Sg.Le.trans hle63 hle76) ((hS.tail).tail))⟩, ?_⟩
          refine Rg.takeP (i := 12) hE rfl (by kernel_rfl) (runs_plain rfl) (Gives.p hE rfl) rfl (tw_sel (fun _ => (St.down (Sg.Le.trans hle63 hle76) ((hS.tail).tail))) (fun _ => (St.down (Sg.Le.trans hle63 hle76) ((hS.tail).tail)))) ?_; clear hE a; intro a hE
          refine Rg.takeP (i := 13) hE rfl (by kernel_rfl) (runs_plain rfl) (Gives.p hE rfl) rfl (tw_sel (fun _ => (St.down (Sg.Le.trans hle63 hle76) ((hS.tail).tail))) (fun _ => (St.down (Sg.Le.trans hle63 hle76) ((hS.tail).tail)))) ?_; clear hE a; intro a hE
          refine Rg.done (by kernel_rfl) ?_
          replace hS := hS.front 2 rfl
          replace hS := hS.front 1 rfl
          replace hS := hS.front 2 rfl
          exact key _ _ _ _ _ _ _ _ (Sg.Le.trans hle63 hle76) h74 h71 h0_0 h0_1 h0_2 h0_3 h0_4 (hE.pick _ ⟨rfl, rfl, rfl, rfl, trivial⟩) hS
      · refine Br.mk (i := 10) true true rfl (by kernel_rfl) (by kernel_rfl) ?_
        refine WL.alloc hE hS (runs_plain rfl) zr22 rfl ?_; clear hE hS a w; intro b77 a w hE hS
        refine WL.nil ?_
        refine ⟨⟨fun _ => (hS.tail), fun _ => (hS.tail)⟩, ?_⟩
        refine Rg.one (i := 4) true true rfl (by kernel_rfl) (by kernel_rfl) (by kernel_rfl) ?_
        refine WL.mkD (Rr := RI .i64) hE hS (runs_plain rfl) rfl rfl ap22 zr3 rfl hx57 rfl ?_; clear hE hS a w; intro b58 cs59 a w h60 hE hS
        refine WL.nil ?_
        refine ⟨⟨fun _ => ((hS.tail).tail), fun _ => ((hS.tail).tail)⟩, ?_⟩
        refine Rg.one (i := 5) true true rfl (by kernel_rfl) (by kernel_rfl) (by kernel_rfl) ?_
        have hF := hS.fixD RI.mono 0 rfl h60 (rfl); clear hS; obtain ⟨s62, hle63, hS, h64⟩ := hF
        replace h0_0 := Sl.mono RI.mono hle63 h0_0
        replace h0_1 := Sl.mono RI.mono hle63 h0_1
        replace h0_2 := Sl.mono RI.mono hle63 h0_2
        replace h0_3 := Sl.mono RMendArc.mono hle63 h0_3
        replace h0_4 := Sl.mono RMendChoice.mono hle63 h0_4
        have hc_ := Mendforced_ok hS h0_0 h0_1 h0_2 h0_3 h0_4 h64 hq66
        refine WL.fnq hE (hc_) (runs_plain rfl) bd64 rfl rfl rfl ?_
        clear hE hS hc_; rintro e w ⟨a67, c68, n69, cs70, a73, s75, rfl, hle76, h71, rfl, h74, hS⟩; refine ⟨_, rfl, ?_⟩; clear a; intro a hE
        replace h0_0 := Sl.mono RI.mono hle76 h0_0
        replace h0_1 := Sl.mono RI.mono hle76 h0_1
        replace h0_2 := Sl.mono RI.mono hle76 h0_2
        replace h0_3 := Sl.mono RMendArc.mono hle76 h0_3
        replace h0_4 := Sl.mono RMendChoice.mono hle76 h0_4
        replace h64 := Sl.mono RI.mono hle76 h64
        refine WL.nil ?_
        refine ⟨⟨fun _ => (St.down (Sg.Le.trans hle63 hle76) ((hS.tail).tail)), fun _ => (St.down (Sg.Le.trans hle63 hle76) ((hS.tail).tail))⟩, ?_⟩
        refine Rg.takeP (i := 6) hE rfl (by kernel_rfl) (runs_plain rfl) (Gives.p hE rfl) rfl (tw_sel (fun _ => (St.down (Sg.Le.trans hle63 hle76) ((hS.tail).tail))) (fun _ => (St.down (Sg.Le.trans hle63 hle76) ((hS.tail).tail)))) ?_; clear hE a; intro a hE
        refine Rg.takeP (i := 7) hE rfl (by kernel_rfl) (runs_plain rfl) (Gives.p hE rfl) rfl (tw_sel (fun _ => (St.down (Sg.Le.trans hle63 hle76) ((hS.tail).tail))) (fun _ => (St.down (Sg.Le.trans hle63 hle76) ((hS.tail).tail)))) ?_; clear hE a; intro a hE
        refine Rg.takeP (i := 8) hE rfl (by kernel_rfl) (runs_plain rfl) (Gives.p hE rfl) rfl (tw_sel (fun _ => (St.down (Sg.Le.trans hle63 hle76) ((hS.tail).tail))) (fun _ => (St.down (Sg.Le.trans hle63 hle76) ((hS.tail).tail)))) ?_; clear hE a; intro a hE
        refine Rg.takeP (i := 9) hE rfl (by kernel_rfl) (runs_plain rfl) (Gives.p hE rfl) rfl (tw_sel (fun _ => (St.down (Sg.Le.trans hle63 hle76) ((hS.tail).tail))) (fun _ => (St.down (Sg.Le.trans hle63 hle76) ((hS.tail).tail)))) ?_; clear hE a; intro a hE
        refine Rg.one (i := 11) true true rfl (by kernel_rfl) (by kernel_rfl) (by kernel_rfl) ?_
        refine WL.storeI hE hS 1 rfl [.slice a67 q65.1.length c68] (runs_plain rfl) rfl rfl rfl ty22 rfl rfl rfl rfl ?_; clear hE hS a w; intro a w hE hS
        refine WL.nil ?_
        refine ⟨⟨fun _ => (St.down (Sg.Le.trans hle63 hle76) ((hS.tail).tail)), fun _ => (St.down (Sg.Le.trans hle63 hle76) ((hS.tail).tail))⟩, ?_⟩
        refine Rg.takeP (i := 12) hE rfl (by kernel_rfl) (runs_plain rfl) (Gives.p hE rfl) rfl (tw_sel (fun _ => (St.down (Sg.Le.trans hle63 hle76) ((hS.tail).tail))) (fun _ => (St.down (Sg.Le.trans hle63 hle76) ((hS.tail).tail)))) ?_; clear hE a; intro a hE
        refine Rg.takeP (i := 13) hE rfl (by kernel_rfl) (runs_plain rfl) (Gives.p hE rfl) rfl (tw_sel (fun _ => (St.down (Sg.Le.trans hle63 hle76) ((hS.tail).tail))) (fun _ => (St.down (Sg.Le.trans hle63 hle76) ((hS.tail).tail)))) ?_; clear hE a; intro a hE
        refine Rg.done (by kernel_rfl) ?_
        replace hS := hS.front 2 rfl
        replace hS := hS.front 1 rfl
        replace hS := hS.front 2 rfl
        exact key _ _ _ _ _ _ _ _ (Sg.Le.trans hle63 hle76) h74 h71 h0_0 h0_1 h0_2 h0_3 h0_4 (hE.pick _ ⟨rfl, rfl, rfl, rfl, trivial⟩) hS
    clear hE hS a w; intro s75 a73 cs70 b77 a67 c68 a w hle78 h74 h71 h0_0 h0_1 h0_2 h0_3 h0_4 hE hS
    subst hK55
    refine W.seq ?_
    refine W.seq ?_
    refine W.region ?_
    refine WL.vS hS hE (runs_plain rfl) (Gives.p hE rfl) rfl ?_; clear hE a; intro a hE
    refine WL.vS hS hE (runs_plain rfl) (Gives.p hE rfl) rfl ?_; clear hE a; intro a hE
    refine WL.nil ?_
    refine W.cond hE rfl (fun hc79 => ?_) (fun hc79 => ?_)
    · replace hr := iteT hc79 hr
      refine W.seq ?_
      refine W.region ?_
      refine WL.vS hS hE (runs_plain rfl) (Gives.p hE rfl) rfl ?_; clear hE a; intro a hE
      refine WL.vS hS hE (runs_plain rfl) (Gives.p hE rfl) rfl ?_; clear hE a; intro a hE
      refine WL.vS hS hE (runs_plain rfl) (Gives.p hE rfl) rfl ?_; clear hE a; intro a hE
      refine WL.nil ?_
      refine W.ret ?_
      refine finG (fn := Try.f26) (rs := [.tmp 2, .tmp 3, .tmp 4]) (vs := [_, _, _]) hE rfl ⟨rfl, rfl, rfl, trivial⟩ ?_
      obtain rfl := Option.some.inj hr
      replace hS := hS.tail
      replace hS := hS.tail
      replace hS := hS.tail
      exact ⟨none, 0, none, 0, s75, rfl, hle78, Sl.nil, Sl.nil, hS⟩
    · replace hr := iteF hc79 hr
      refine W.skip ?_
      refine W.seq ?_
      refine W.region ?_
      refine WL.alloc hE hS (runs_plain rfl) zr22 rfl ?_; clear hE hS a w; intro b80 a w hE hS
      refine WL.nil ?_
      refine W.seq ?_
      refine W.seq ?_
      refine W.region ?_
      refine WL.vS hS hE (runs_plain rfl) (Gives.loadB hE 1 rfl rfl rfl ty22) rfl ?_; clear hE a; intro a hE
      refine WL.vS hS hE (runs_plain rfl) (Gives.len hE rfl sl22) rfl ?_; clear hE a; intro a hE
      refine WL.vS hS hE (runs_plain rfl) (Gives.p hE rfl) rfl ?_; clear hE a; intro a hE
      refine WL.nil ?_
      replace hS := hS.vecNil 3 1
      have hb93 : q65.1.length ≤ 9223372036854775807 := by have := hS.vecCap 3 rfl; unfold maxLen at this; omega
      obtain ⟨q83, hq82, hr⟩ := bindS hr
      refine W.cut (fun a w => ∃ (q94 : List Int), ∃ (a95 : Option Addr), ∃ (c96 : Nat), ∃ (n98 : Nat), ∃ (cs99 : List Value), q94 = q83 ∧ Ev 1 (RI .i64) s75 cs99 q94 ∧ q94.length = n98 ∧ Rep a 58 [(1, .pointer (some ⟨b51, 0, none⟩)), (6, .pointer (some ⟨b77, 0, none⟩)), (7, .pointer a73), (9, .pointer (some ⟨b80, 0, none⟩))] ∧ St w s75 (vecC 3 1 a95 c96 n98 cs99 :: pt b80 (.cells #[.slice a95 n98 c96] 22 (0, 0)) :: pt b77 (.cells #[.slice a67 q65.1.length c68] 22 (0, 0)) :: vecC 3 1 a67 c68 q65.1.length cs70 :: pt b51 (.cells #[.slice a0_0 x0.Ready.length c0_0, .slice a0_1 x0.Last.length c0_1, .slice a0_2 x0.Due.length c0_2, .slice a0_3 x0.Arcs.length c0_3, .slice a0_4 x0.Choices.length c0_4] 50 (0, 0)) :: R)) ?_ ?_
      · refine W.block ?_
        refine W.loop (fun m a w => ∃ (rest86 : Nat) (k84 : Nat), ∃ (q94 : List Int), ∃ (a95 : Option Addr), ∃ (c96 : Nat), ∃ (n98 : Nat), ∃ (cs99 : List Value), rest86 = m ∧ k84 + rest86 = q65.1.length ∧ MendBest.loop1 q65 rest86 k84 q94 = some q83 ∧ Ev 1 (RI .i64) s75 cs99 q94 ∧ q94.length = n98 ∧ Rep a 58 [(1, .pointer (some ⟨b51, 0, none⟩)), (6, .pointer (some ⟨b77, 0, none⟩)), (7, .pointer a73), (9, .pointer (some ⟨b80, 0, none⟩)), (33, .slice a67 q65.1.length c68), (34, .int .i64 ((q65.1.length : Nat) : Int)), (35, .int .i64 ((k84 : Nat) : Int))] ∧ St w s75 (vecC 3 1 a95 c96 n98 cs99 :: pt b80 (.cells #[.slice a95 n98 c96] 22 (0, 0)) :: pt b77 (.cells #[.slice a67 q65.1.length c68] 22 (0, 0)) :: vecC 3 1 a67 c68 q65.1.length cs70 :: pt b51 (.cells #[.slice a0_0 x0.Ready.length c0_0, .slice a0_1 x0.Last.length c0_1, .slice a0_2 x0.Due.length c0_2, .slice a0_3 x0.Arcs.length c0_3, .slice a0_4 x0.Choices.length c0_4] 50 (0, 0)) :: R)) (m := q65.1.length) ⟨q65.1.length, 0, [], none, 0, 0, [], rfl, by omega, hq82, (Ev.nil), (rfl), hE.pick _ ⟨rfl, rfl, rfl, rfl, rfl, rfl, rfl, trivial⟩, hS⟩ ?_
        clear hE hS a w hq82; rintro m90 a w ⟨rest86, k84, q94, a95, c96, n98, cs99, rfl, hd87, hq82, h97, rfl, hE, hS⟩
        refine W.gen fun K101 hK101 => ?_
        rcases rest86 with _ | rest86
        · skip
          refine W.seq ?_
          refine W.region ?_
          refine WL.vS hS hE (runs_plain rfl) (Gives.p hE rfl) rfl ?_; clear hE a; intro a hE
          refine WL.nil ?_
          refine W.seq ?_
          refine W.condF hE rfl (decide_eq_false (by omega)) ?_
          subst hK101
          refine W.exit rfl ?_
          exact ⟨q94, a95, c96, q94.length, cs99, Option.some.inj hq82, h97, rfl, hE.pick _ ⟨rfl, rfl, rfl, rfl, trivial⟩, hS⟩
        · have hlt88 : k84 < q65.1.length := by omega
          rw [MendBest.loop1] at hq82
          refine W.seq ?_
          refine W.region ?_
          refine WL.vS hS hE (runs_plain rfl) (Gives.p hE rfl) rfl ?_; clear hE a; intro a hE
          refine WL.nil ?_
          refine W.seq ?_
          refine W.condT hE rfl (decide_eq_true (by omega)) ?_
          refine W.skip ?_
          refine W.seq ?_
          refine W.block ?_
          refine W.seq ?_
          refine W.region ?_
          refine WL.vS hS hE (runs_plain rfl) (Gives.p hE rfl) rfl ?_; clear hE a; intro a hE
          obtain ⟨x102, hx103, hq82⟩ := bindS hq82
          obtain ⟨hi104, hlt105, hy106⟩ := gx_some hx103
          obtain ⟨vs107, hl108, hR109, hd110, hget111⟩ := h71.at hy106
          subst hR109
          refine WL.vS hS hE (runs_plain rfl) (Gives.idx hE ((((k84 : Nat) : Int)).toNat) rfl rfl sl22 hi104 (by omega) (hS.vecAok 3 rfl (by omega : (((k84 : Nat) : Int)).toNat < q65.1.length))) rfl ?_; clear hE a; intro a hE
          refine WL.vS hS hE (runs_plain rfl) (Gives.load1 hE rfl (fun w h => St.vecSees h 3 rfl ((((k84 : Nat) : Int)).toNat * 1) _ hget111) ty3) rfl ?_; clear hE a; intro a hE
          refine WL.vS hS hE (runs_plain rfl) (Gives.p hE rfl) rfl ?_; clear hE a; intro a hE
          refine WL.vS hS hE (runs_plain rfl) (Gives.p hE rfl) rfl ?_; clear hE a; intro a hE
          refine WL.nil ?_
          refine W.seq ?_
          refine W.region ?_
          refine WL.vS hS hE (runs_plain rfl) (Gives.p hE rfl) rfl ?_; clear hE a; intro a hE
          refine WL.vS hS hE (runs_plain rfl) (Gives.p hE rfl) rfl ?_; clear hE a; intro a hE
          refine WL.nil ?_
          obtain ⟨q113, hq112, hq82⟩ := bindS hq82
          refine W.cut (fun a w => ∃ (q116 : List Int), ∃ (a117 : Option Addr), ∃ (c118 : Nat), ∃ (n120 : Nat), ∃ (cs121 : List Value), q116 = q113 ∧ Ev 1 (RI .i64) s75 cs121 q116 ∧ q116.length = n120 ∧ Rep a 58 [(1, .pointer (some ⟨b51, 0, none⟩)), (6, .pointer (some ⟨b77, 0, none⟩)), (7, .pointer a73), (9, .pointer (some ⟨b80, 0, none⟩)), (33, .slice a67 q65.1.length c68), (34, .int .i64 ((q65.1.length : Nat) : Int)), (35, .int .i64 ((k84 : Nat) : Int))] ∧ St w s75 (vecC 3 1 a117 c118 n120 cs121 :: pt b80 (.cells #[.slice a117 n120 c118] 22 (0, 0)) :: pt b77 (.cells #[.slice a67 q65.1.length c68] 22 (0, 0)) :: vecC 3 1 a67 c68 q65.1.length cs70 :: pt b51 (.cells #[.slice a0_0 x0.Ready.length c0_0, .slice a0_1 x0.Last.length c0_1, .slice a0_2 x0.Due.length c0_2, .slice a0_3 x0.Arcs.length c0_3, .slice a0_4 x0.Choices.length c0_4] 50 (0, 0)) :: R)) ?_ ?_
          · refine W.gen fun K123 hK123 => ?_
            refine W.cond hE rfl (fun hc124 => ?_) (fun hc124 => ?_)
            · replace hq112 := iteT hc124 hq112
              refine W.region ?_
              refine WL.vS hS hE (runs_plain rfl) (Gives.loadB hE 1 rfl rfl rfl ty22) rfl ?_; clear hE a; intro a hE
              refine WL.vS hS hE (runs_plain rfl) (Gives.p hE rfl) rfl ?_; clear hE a; intro a hE
              refine WL.lit hE hS (e := 3) (es := 1) (vs := [(0, .int .i64 ((k84 : Nat) : Int))]) (cs := [.int .i64 ((k84 : Nat) : Int)]) (runs_plain rfl) rfl (by kernel_rfl) rfl ?_; clear hE hS a w; intro b125 a w hE hS
              obtain ⟨x126, hx127, hq112⟩ := bindS hq112
              refine WL.appD hE hS 0 (m := 1) (runs_plain rfl) rfl rfl rfl ap22 rfl h97 rfl (xs := [((k84 : Nat) : Int)]) (Ev.cons (c1 := [.int .i64 ((k84 : Nat) : Int)]) rfl rfl (Ev.nil)) rfl rfl hx127 rfl ?_; clear hE hS a w; intro a128 c129 cs130 a w h131 hE hS
              refine WL.storeI hE hS 1 rfl [.slice a128 x126.length c129] (runs_plain rfl) rfl rfl rfl ty22 rfl rfl rfl rfl ?_; clear hE hS a w; intro a w hE hS
              refine WL.nil ?_
              subst hK123
              exact ⟨x126, a128, c129, x126.length, cs130, Option.some.inj hq112, h131, (rfl), hE.pick _ ⟨rfl, rfl, rfl, rfl, rfl, rfl, rfl, trivial⟩, hS⟩
            · replace hq112 := iteF hc124 hq112
              refine W.skip ?_
              subst hK123
              exact ⟨q94, a95, c96, q94.length, cs99, Option.some.inj hq112, h97, rfl, hE.pick _ ⟨rfl, rfl, rfl, rfl, rfl, rfl, rfl, trivial⟩, hS⟩
          · clear hE hS a w; rintro a w ⟨q116, a117, c118, n120, cs121, rfl, h119, rfl, hE, hS⟩
            refine W.region ?_
            refine WL.vS hS hE (runs_plain rfl) (Gives.inc hE rfl (by omega)) rfl ?_; clear hE a; intro a hE
            refine WL.vS hS hE (runs_plain rfl) (Gives.p hE rfl) rfl ?_; clear hE a; intro a hE
            refine WL.nil ?_
            subst hK101
            exact ⟨rest86, Nat.lt_succ_self _, rest86, k84 + 1, q116, a117, c118, q116.length, cs121, rfl, (by omega), hq82, h119, rfl, hE.pick _ ⟨rfl, rfl, rfl, rfl, rfl, rfl, rfl, trivial⟩, hS⟩
      · clear hE hS a w; rintro a w ⟨q94, a95, c96, n98, cs99, rfl, h97, rfl, hE, hS⟩
        refine W.seq ?_
        refine W.seq ?_
        refine W.region ?_
        refine WL.vS hS hE (runs_plain rfl) (Gives.loadB hE 1 rfl rfl rfl ty22) rfl ?_; clear hE a; intro a hE
        refine WL.vS hS hE (runs_plain rfl) (Gives.len hE rfl sl22) rfl ?_; clear hE a; intro a hE
        refine WL.vS hS hE (runs_plain rfl) (Gives.p hE rfl) rfl ?_; clear hE a; intro a hE
        refine WL.nil ?_
        refine W.cond hE rfl (fun hc132 => ?_) (fun hc132 => ?_)
        · replace hr := iteT hc132 hr
          refine W.seq ?_
          refine W.region ?_
          refine WL.vS hS hE (runs_plain rfl) (Gives.p hE rfl) rfl ?_; clear hE a; intro a hE
          refine WL.vS hS hE (runs_plain rfl) (Gives.p hE rfl) rfl ?_; clear hE a; intro a hE
          refine WL.vS hS hE (runs_plain rfl) (Gives.p hE rfl) rfl ?_; clear hE a; intro a hE
          refine WL.nil ?_
          refine W.ret ?_
          refine finG (fn := Try.f26) (rs := [.tmp 2, .tmp 3, .tmp 4]) (vs := [_, _, _]) hE rfl ⟨rfl, rfl, rfl, trivial⟩ ?_
          obtain rfl := Option.some.inj hr
          replace hS := hS.tail
          replace hS := hS.tail
          replace hS := hS.tail
          replace hS := hS.tail
          replace hS := hS.tail
          exact ⟨none, 0, none, 0, s75, rfl, hle78, Sl.nil, Sl.nil, hS⟩
        · replace hr := iteF hc132 hr
          refine W.skip ?_
          refine W.seq ?_
          refine W.region ?_
          refine WL.alloc hE hS (runs_plain rfl) zr22 rfl ?_; clear hE hS a w; intro b133 a w hE hS
          refine WL.alloc hE hS (runs_plain rfl) zr22 rfl ?_; clear hE hS a w; intro b134 a w hE hS
          refine WL.nil ?_
          refine W.seq ?_
          refine W.region ?_
          refine WL.alloc hE hS (runs_plain rfl) zr3 rfl ?_; clear hE hS a w; intro b135 a w hE hS
          refine WL.storeI hE hS 0 rfl [.int .i64 (-1)] (runs_plain rfl) rfl rfl rfl ty3 rfl rfl rfl rfl ?_; clear hE hS a w; intro a w hE hS
          refine WL.nil ?_
          refine W.seq ?_
          refine W.region ?_
          refine WL.alloc hE hS (runs_plain rfl) zr103 rfl ?_; clear hE hS a w; intro b136 a w hE hS
          refine WL.nil ?_
          refine W.seq ?_
          refine W.region ?_
          refine WL.vS hS hE (runs_plain rfl) (Gives.mkfn hE (vs := [.pointer (some ⟨b51, 0, none⟩), .pointer (some ⟨b135, 0, none⟩), .pointer (some ⟨b80, 0, none⟩), .pointer (some ⟨b77, 0, none⟩), .pointer (some ⟨b133, 0, none⟩), .pointer (some ⟨b134, 0, none⟩), .pointer (some ⟨b136, 0, none⟩)]) rfl) rfl ?_; clear hE a; intro a hE
          refine WL.storeI hE hS 0 rfl [.func (.func 65) #[] #[.pointer (some ⟨b51, 0, none⟩), .pointer (some ⟨b135, 0, none⟩), .pointer (some ⟨b80, 0, none⟩), .pointer (some ⟨b77, 0, none⟩), .pointer (some ⟨b133, 0, none⟩), .pointer (some ⟨b134, 0, none⟩), .pointer (some ⟨b136, 0, none⟩)]] (runs_plain rfl) rfl rfl rfl ty103 rfl rfl rfl rfl ?_; clear hE hS a w; intro a w hE hS
          refine WL.nil ?_
          refine W.seq ?_
          refine W.region ?_
          refine WL.vS hS hE (runs_plain rfl) (Gives.loadB hE 0 rfl rfl rfl ty103) rfl ?_; clear hE a; intro a hE
          refine WL.vS hS hE (runs_plain rfl) (Gives.p hE rfl) rfl ?_; clear hE a; intro a hE
          obtain ⟨q137, hq138, hr⟩ := bindS hr
          replace hS := hS.front 7 rfl
          replace hS := hS.front 5 rfl
          replace hS := hS.front 2 rfl
          replace hS := hS.front 4 rfl
          replace hS := hS.front 5 rfl
          replace hS := hS.front 7 rfl
          replace hS := hS.front 7 rfl
          replace hS := hS.front 7 rfl
          replace hS := hS.front 8 rfl
          have hc_ := MendBest_1_v1_ok (y0 := x0) hS h74 h0_0 h0_1 h0_2 h0_3 h0_4 h97 rfl h71 rfl Sl.nil Sl.nil hq138
          refine WL.fnw hE (hc_) rfl (runs_plain rfl) bd65 rfl rfl rfl ?_
          clear hE hS hc_; rintro e w ⟨cs139, a142, c143, a145, c146, s148, rfl, hle149, h140, hn141, h144, h147, hS⟩; refine ⟨_, rfl, ?_⟩; clear a; intro a hE
          replace h74 := Pt.mono RMendSolver.mono hle149 h74
          replace h0_0 := Sl.mono RI.mono hle149 h0_0
          replace h0_1 := Sl.mono RI.mono hle149 h0_1
          replace h0_2 := Sl.mono RI.mono hle149 h0_2
          replace h0_3 := Sl.mono RMendArc.mono hle149 h0_3
          replace h0_4 := Sl.mono RMendChoice.mono hle149 h0_4
          replace h97 := Ev.mono RI.mono hle149 h97
          replace h71 := Ev.mono RI.mono hle149 h71
          refine WL.nil ?_
          refine W.seq ?_
          refine W.seq ?_
          refine W.region ?_
          refine WL.vS hS hE (runs_plain rfl) (Gives.loadB hE 1 rfl rfl rfl ty3) rfl ?_; clear hE a; intro a hE
          refine WL.vS hS hE (runs_plain rfl) (Gives.p hE rfl) rfl ?_; clear hE a; intro a hE
          refine WL.nil ?_
          refine W.cond hE rfl (fun hc150 => ?_) (fun hc150 => ?_)
          · replace hr := iteT hc150 hr
            refine W.seq ?_
            refine W.region ?_
            refine WL.vS hS hE (runs_plain rfl) (Gives.p hE rfl) rfl ?_; clear hE a; intro a hE
            refine WL.vS hS hE (runs_plain rfl) (Gives.p hE rfl) rfl ?_; clear hE a; intro a hE
            refine WL.vS hS hE (runs_plain rfl) (Gives.p hE rfl) rfl ?_; clear hE a; intro a hE
            refine WL.nil ?_
            refine W.ret ?_
            refine finG (fn := Try.f26) (rs := [.tmp 2, .tmp 3, .tmp 4]) (vs := [_, _, _]) hE rfl ⟨rfl, rfl, rfl, trivial⟩ ?_
            obtain rfl := Option.some.inj hr
            replace hS := hS.tail
            replace hS := hS.tail
            replace hS := hS.tail
            replace hS := hS.tail
            replace hS := hS.tail
            replace hS := hS.tail
            replace hS := hS.tail
            replace hS := hS.tail
            replace hS := hS.tail
            exact ⟨none, 0, none, 0, s148, rfl, (Sg.Le.trans hle78 hle149), Sl.nil, Sl.nil, hS⟩
          · replace hr := iteF hc150 hr
            refine W.skip ?_
            refine W.seq ?_
            refine W.regionQ (C := fun w => St w s148 (pt b51 (.cells #[.slice a0_0 x0.Ready.length c0_0, .slice a0_1 x0.Last.length c0_1, .slice a0_2 x0.Due.length c0_2, .slice a0_3 x0.Arcs.length c0_3, .slice a0_4 x0.Choices.length c0_4] 50 (0, 0)) :: pt b135 (.cells #[.int .i64 q137.2.1] 3 (0, 0)) :: pt b80 (.cells #[.slice a95 q94.length c96] 22 (0, 0)) :: pt b77 (.cells #[.slice a67 q65.1.length c68] 22 (0, 0)) :: pt b133 (.cells #[.slice a142 q137.2.2.1.length c143] 22 (0, 0)) :: pt b134 (.cells #[.slice a145 q137.2.2.2.length c146] 22 (0, 0)) :: pt b136 (.cells #[.func (.func 65) #[] #[.pointer (some ⟨b51, 0, none⟩), .pointer (some ⟨b135, 0, none⟩), .pointer (some ⟨b80, 0, none⟩), .pointer (some ⟨b77, 0, none⟩), .pointer (some ⟨b133, 0, none⟩), .pointer (some ⟨b134, 0, none⟩), .pointer (some ⟨b136, 0, none⟩)]] 103 (0, 0)) :: vecC 3 1 a95 c96 q94.length cs99 :: vecC 3 1 a67 c68 q65.1.length cs139 :: R)) mixed (by kernel_rfl) hS.drew ?_
            refine QL.v hE (runs_plain rfl) (Gives.loadB hE 4 rfl rfl rfl ty22) rfl ?_; clear hE a; intro a hE
            refine QL.v hE (runs_plain rfl) (Gives.loadB hE 5 rfl rfl rfl ty22) rfl ?_; clear hE a; intro a hE
            refine QL.v hE (runs_plain rfl) (Gives.p hE rfl) rfl ?_; clear hE a; intro a hE
            refine QL.v hE (runs_plain rfl) (Gives.p hE rfl) rfl ?_; clear hE a; intro a hE
            refine QL.v hE (runs_plain rfl) (Gives.p hE rfl) rfl ?_; clear hE a; intro a hE
            refine QL.nil ?_; clear hS w; intro w hS
            refine W.ret ?_
            refine finG (fn := Try.f26) (rs := [.tmp 2, .tmp 3, .tmp 4]) (vs := [_, _, _]) hE rfl ⟨rfl, rfl, rfl, trivial⟩ ?_
            obtain rfl := Option.some.inj hr
            replace hS := hS.tail
            replace hS := hS.tail
            replace hS := hS.tail
            replace hS := hS.tail
            replace hS := hS.tail
            replace hS := hS.tail
            replace hS := hS.tail
            replace hS := hS.tail
            replace hS := hS.tail
            exact ⟨a142, c143, a145, c146, s148, rfl, (Sg.Le.trans hle78 hle149), h144, h147, hS⟩
set_option maxHeartbeats 8000000 in
theorem SlicesEqualLint_ok  {w : World} {s : Sg} {R : List HP} {x0 : List Int} {a0 : Option Addr} {c0 : Nat} {x1 : List Int} {a1 : Option Addr} {c1 : Nat} (hS : St w s (R)) (h0 : Sl 1 (RI .i64) s a0 c0 x0) (h1 : Sl 1 (RI .i64) s a1 c1 x1) {r : Bool} (hr : SlicesEqualLint x0 x1 = some r) :
    Calls Try.prog 28 [.slice a0 x0.length c0, .slice a1 x1.length c1].toArray w (fun e w => e = .returned (.bool r) ∧ St w s (R)) := by
  refine enter Try.func28 rfl rfl rfl fun a hE => ?_
  rw [SlicesEqualLint] at hr
  refine W.seq ?_
  refine W.region ?_
  refine WL.vS hS hE (runs_plain rfl) (Gives.p hE rfl) rfl ?_; clear hE a; intro a hE
  refine WL.nil ?_
  refine W.seq ?_
  refine W.seq ?_
  refine W.region ?_
  refine WL.vS hS hE (runs_plain rfl) (Gives.p hE rfl) rfl ?_; clear hE a; intro a hE
  refine WL.vS hS hE (runs_plain rfl) (Gives.len hE rfl sl22) rfl ?_; clear hE a; intro a hE
  refine WL.vS hS hE (runs_plain rfl) (Gives.p hE rfl) rfl ?_; clear hE a; intro a hE
  refine WL.vS hS hE (runs_plain rfl) (Gives.len hE rfl sl22) rfl ?_; clear hE a; intro a hE
  refine WL.vS hS hE (runs_plain rfl) (Gives.p hE rfl) rfl ?_; clear hE a; intro a hE
  refine WL.nil ?_
  refine W.cond hE rfl (fun hc51 => ?_) (fun hc51 => ?_)
  · replace hr := iteT hc51 hr
    refine W.seq ?_
    refine W.region ?_
    refine WL.vS hS hE (runs_plain rfl) (Gives.p hE rfl) rfl ?_; clear hE a; intro a hE
    refine WL.nil ?_
    refine W.ret ?_
    refine finG (fn := Try.f28) (rs := [.tmp 4]) (vs := [_]) hE rfl ⟨rfl, trivial⟩ ?_
    obtain rfl := Option.some.inj hr
    exact ⟨rfl, hS⟩
  · replace hr := iteF hc51 hr
    refine W.skip ?_
    refine W.seq ?_
    refine W.seq ?_
    refine W.region ?_
    refine WL.vS hS hE (runs_plain rfl) (Gives.p hE rfl) rfl ?_; clear hE a; intro a hE
    refine WL.vS hS hE (runs_plain rfl) (Gives.len hE rfl sl22) rfl ?_; clear hE a; intro a hE
    refine WL.vS hS hE (runs_plain rfl) (Gives.p hE rfl) rfl ?_; clear hE a; intro a hE
    refine WL.nil ?_
    obtain ⟨q53, hq52, hr⟩ := bindS hr
    refine W.cut (fun a w => (.next ()) = q53 ∧ Rep a 26 [] ∧ St w s (R)) ?_ ?_
    · refine W.block ?_
      refine W.loop (fun m a w => ∃ (rest56 : List Int) (k54 : Nat), rest56.length = m ∧ x0.drop k54 = rest56 ∧ SlicesEqualLint.loop1 x1 rest56 k54 = some q53 ∧ Rep a 26 [(0, .slice a0 x0.length c0), (1, .slice a1 x1.length c1), (12, .int .i64 ((x0).length : Int)), (13, .int .i64 ((k54 : Nat) : Int))] ∧ St w s (R)) (m := x0.length) ⟨x0, 0, rfl, rfl, hq52, hE.pick _ ⟨rfl, rfl, rfl, rfl, trivial⟩, hS⟩ ?_
      clear hE hS a w hq52; rintro m60 a w ⟨rest56, k54, rfl, hd57, hq52, hE, hS⟩
      refine W.gen fun K63 hK63 => ?_
      rcases rest56 with _ | ⟨x55, rest56⟩
      · have hlt58 := drop_nil hd57
        refine W.seq ?_
        refine W.region ?_
        refine WL.vS hS hE (runs_plain rfl) (Gives.p hE rfl) rfl ?_; clear hE a; intro a hE
        refine WL.nil ?_
        refine W.seq ?_
        refine W.condF hE rfl (decide_eq_false (by omega)) ?_
        subst hK63
        refine W.exit rfl ?_
        exact ⟨Option.some.inj hq52, hE.pick _ trivial, hS⟩
      · obtain ⟨hlt58, hx59, hd57⟩ := drop_cons hd57
        rw [SlicesEqualLint.loop1] at hq52
        refine W.seq ?_
        refine W.region ?_
        refine WL.vS hS hE (runs_plain rfl) (Gives.p hE rfl) rfl ?_; clear hE a; intro a hE
        refine WL.nil ?_
        refine W.seq ?_
        refine W.condT hE rfl (decide_eq_true (by omega)) ?_
        refine W.skip ?_
        refine W.seq ?_
        refine W.block ?_
        refine W.seq ?_
        refine W.region ?_
        refine WL.vS hS hE (runs_plain rfl) (Gives.p hE rfl) rfl ?_; clear hE a; intro a hE
        refine WL.vS hS hE (runs_plain rfl) (Gives.p hE rfl) rfl ?_; clear hE a; intro a hE
        refine WL.nil ?_
        refine W.seq ?_
        refine W.regionQ (C := fun w => St w s (R)) mixed (by kernel_rfl) hS.drew ?_
        refine QL.v hE (runs_plain rfl) (Gives.p hE rfl) rfl ?_; clear hE a; intro a hE
        refine QL.v hE (runs_plain rfl) (Gives.p hE rfl) rfl ?_; clear hE a; intro a hE
        obtain ⟨cs64, hl65, hR66, hat67⟩ := h0.at hx59
        subst hR66
        refine QL.v hE (runs_plain rfl) (Gives.idx hE k54 rfl rfl sl22 rfl hlt58 (h0.aok hlt58)) rfl ?_; clear hE a; intro a hE
        refine QL.v hE (runs_plain rfl) (Gives.load1 hE rfl (fun w h => hat67 w _ h) ty3) rfl ?_; clear hE a; intro a hE
        refine QL.v hE (runs_plain rfl) (Gives.p hE rfl) rfl ?_; clear hE a; intro a hE
        refine QL.v hE (runs_plain rfl) (Gives.p hE rfl) rfl ?_; clear hE a; intro a hE
        obtain ⟨x68, hx69, hq52⟩ := bindS hq52
        obtain ⟨hi70, hlt71, hy72⟩ := gx_some hx69
        obtain ⟨cs73, hl74, hR75, hat76⟩ := h1.at hy72
        subst hR75
        refine QL.v hE (runs_plain rfl) (Gives.idx hE (((k54 : Nat) : Int)).toNat rfl rfl sl22 hi70 hlt71 (h1.aok hlt71)) rfl ?_; clear hE a; intro a hE
        refine QL.v hE (runs_plain rfl) (Gives.load1 hE rfl (fun w h => hat76 w _ h) ty3) rfl ?_; clear hE a; intro a hE
        refine QL.v hE (runs_plain rfl) (Gives.p hE rfl) rfl ?_; clear hE a; intro a hE
        refine QL.nil ?_; clear hS w; intro w hS
        refine W.cond hE rfl (fun hc77 => ?_) (fun hc77 => ?_)
        · replace hq52 := iteT hc77 hq52
          refine W.seq ?_
          refine W.region ?_
          refine WL.vS hS hE (runs_plain rfl) (Gives.p hE rfl) rfl ?_; clear hE a; intro a hE
          refine WL.nil ?_
          refine W.ret ?_
          subst hK63
          rw [← Option.some.inj hq52] at hr
          dsimp only at hr
          refine finG (fn := Try.f28) (rs := [.tmp 4]) (vs := [_]) hE rfl ⟨rfl, trivial⟩ ?_
          obtain rfl := Option.some.inj hr
          exact ⟨rfl, hS⟩
        · replace hq52 := iteF hc77 hq52
          refine W.skip ?_
          refine W.region ?_
          refine WL.vS hS hE (runs_plain rfl) (Gives.inc hE rfl (by have := h0.small; omega)) rfl ?_; clear hE a; intro a hE
          refine WL.vS hS hE (runs_plain rfl) (Gives.p hE rfl) rfl ?_; clear hE a; intro a hE
          refine WL.nil ?_
          subst hK63
          exact ⟨rest56.length, Nat.lt_succ_self _, rest56, k54 + 1, rfl, hd57, hq52, hE.pick _ ⟨rfl, rfl, rfl, rfl, trivial⟩, hS⟩
    · clear hE hS a w; rintro a w ⟨rfl, hE, hS⟩
      dsimp only at hr
      refine W.seq ?_
      refine W.region ?_
      refine WL.vS hS hE (runs_plain rfl) (Gives.p hE rfl) rfl ?_; clear hE a; intro a hE
      refine WL.nil ?_
      refine W.ret ?_
      refine finG (fn := Try.f28) (rs := [.tmp 4]) (vs := [_]) hE rfl ⟨rfl, trivial⟩ ?_
      obtain rfl := Option.some.inj hr
      exact ⟨rfl, hS⟩
set_option maxHeartbeats 8000000 in
theorem Fishlaw2graphs_ok {fu : Nat}  {w : World} {s : Sg} {R : List HP}  (hS : St w s (R))  {r : Bool} (hr : Fishlaw2graphs fu = some r) :
    Calls Try.prog 23 [].toArray w (fun e w => e = .returned (.bool r) ∧ St w s (R)) := by
  refine enter Try.func23 rfl rfl rfl fun a hE => ?_
  rw [Fishlaw2graphs] at hr
  refine W.seq ?_
  refine W.region ?_
  refine WL.vS hS hE (runs_plain rfl) (Gives.p hE rfl) rfl ?_; clear hE a; intro a hE
  refine WL.nil ?_
  refine W.seq ?_
  refine W.region ?_
  refine WL.lit hE hS (e := 3) (es := 1) (vs := [(0, .int .i64 0), (1, .int .i64 10)]) (cs := [.int .i64 0, .int .i64 10]) (runs_plain rfl) rfl (by kernel_rfl) rfl ?_; clear hE hS a w; intro b51 a w hE hS
  replace hS := hS.ptVec (es := 1) (m := 2) rfl (by decide)
  have h53 : Ev 1 (RI .i64) s [.int .i64 0, .int .i64 10] [0, 10] := (Ev.cons (c1 := [.int .i64 0]) rfl rfl (Ev.cons (c1 := [.int .i64 10]) rfl rfl (Ev.nil)))
  have hF := hS.fixD RI.mono 0 rfl h53 (rfl); clear hS; obtain ⟨s54, hle55, hS, h56⟩ := hF
  refine WL.lit hE hS (e := 3) (es := 1) (vs := [(0, .int .i64 (-1)), (1, .int .i64 (-1))]) (cs := [.int .i64 (-1), .int .i64 (-1)]) (runs_plain rfl) rfl (by kernel_rfl) rfl ?_; clear hE hS a w; intro b57 a w hE hS
  replace hS := hS.ptVec (es := 1) (m := 2) rfl (by decide)
  have h59 : Ev 1 (RI .i64) s54 [.int .i64 (-1), .int .i64 (-1)] [(-1), (-1)] := (Ev.cons (c1 := [.int .i64 (-1)]) rfl rfl (Ev.cons (c1 := [.int .i64 (-1)]) rfl rfl (Ev.nil)))
  have hF := hS.fixD RI.mono 0 rfl h59 (rfl); clear hS; obtain ⟨s60, hle61, hS, h62⟩ := hF
  replace h56 := Sl.mono RI.mono hle61 h56
  refine WL.lit hE hS (e := 3) (es := 1) (vs := [(0, .int .i64 0), (1, .int .i64 10)]) (cs := [.int .i64 0, .int .i64 10]) (runs_plain rfl) rfl (by kernel_rfl) rfl ?_; clear hE hS a w; intro b63 a w hE hS
  replace hS := hS.ptVec (es := 1) (m := 2) rfl (by decide)
  have h65 : Ev 1 (RI .i64) s60 [.int .i64 0, .int .i64 10] [0, 10] := (Ev.cons (c1 := [.int .i64 0]) rfl rfl (Ev.cons (c1 := [.int .i64 10]) rfl rfl (Ev.nil)))
  have hF := hS.fixD RI.mono 0 rfl h65 (rfl); clear hS; obtain ⟨s66, hle67, hS, h68⟩ := hF
  replace h56 := Sl.mono RI.mono hle67 h56
  replace h62 := Sl.mono RI.mono hle67 h62
  refine WL.vS hS hE (runs_plain rfl) (Gives.build hE (vs := [(0, .int .i64 0), (1, .int .i64 1), (2, .int .i64 20)]) [.int .i64 0, .int .i64 1, .int .i64 20] rfl (by kernel_rfl)) rfl ?_; clear hE a; intro a hE
  refine WL.lit hE hS (e := 94) (es := 3) (vs := [(0, .agg [.int .i64 0, .int .i64 1, .int .i64 20].toArray)]) (cs := [.int .i64 0, .int .i64 1, .int .i64 20]) (runs_plain rfl) rfl (by kernel_rfl) rfl ?_; clear hE hS a w; intro b69 a w hE hS
  replace hS := hS.ptVec (es := 3) (m := 1) rfl (by decide)
  have h71 : Ev 3 RMendArc s66 [.int .i64 0, .int .i64 1, .int .i64 20] [(MendArc.mk 0 1 20)] := (Ev.cons (c1 := [.int .i64 0, .int .i64 1, .int .i64 20]) rfl rfl (Ev.nil))
  have hF := hS.fixD RMendArc.mono 0 rfl h71 (rfl); clear hS; obtain ⟨s72, hle73, hS, h74⟩ := hF
  replace h56 := Sl.mono RI.mono hle73 h56
  replace h62 := Sl.mono RI.mono hle73 h62
  replace h68 := Sl.mono RI.mono hle73 h68
  refine WL.vS hS hE (runs_plain rfl) (Gives.build hE (vs := [(0, .int .i64 1), (1, .int .i64 0), (2, .int .i64 5)]) [.int .i64 1, .int .i64 0, .int .i64 5] rfl (by kernel_rfl)) rfl ?_; clear hE a; intro a hE
  refine WL.lit hE hS (e := 94) (es := 3) (vs := [(0, .agg [.int .i64 1, .int .i64 0, .int .i64 5].toArray)]) (cs := [.int .i64 1, .int .i64 0, .int .i64 5]) (runs_plain rfl) rfl (by kernel_rfl) rfl ?_; clear hE hS a w; intro b75 a w hE hS
  replace hS := hS.ptVec (es := 3) (m := 1) rfl (by decide)
  have h77 : Ev 3 RMendArc s72 [.int .i64 1, .int .i64 0, .int .i64 5] [(MendArc.mk 1 0 5)] := (Ev.cons (c1 := [.int .i64 1, .int .i64 0, .int .i64 5]) rfl rfl (Ev.nil))
  have hF := hS.fixD RMendArc.mono 0 rfl h77 (rfl); clear hS; obtain ⟨s78, hle79, hS, h80⟩ := hF
  replace h56 := Sl.mono RI.mono hle79 h56
  replace h62 := Sl.mono RI.mono hle79 h62
  replace h68 := Sl.mono RI.mono hle79 h68
  replace h74 := Sl.mono RMendArc.mono hle79 h74
  refine WL.lit hE hS (e := 47) (es := 1) (vs := [(0, .slice (some ⟨b69, 0, none⟩) 1 1), (1, .slice (some ⟨b75, 0, none⟩) 1 1)]) (cs := [.slice (some ⟨b69, 0, none⟩) 1 1, .slice (some ⟨b75, 0, none⟩) 1 1]) (runs_plain rfl) rfl (by kernel_rfl) rfl ?_; clear hE hS a w; intro b81 a w hE hS
  replace hS := hS.ptVec (es := 1) (m := 2) rfl (by decide)
  have h83 : Ev 1 (RL 3 RMendArc) s78 [.slice (some ⟨b69, 0, none⟩) 1 1, .slice (some ⟨b75, 0, none⟩) 1 1] [[(MendArc.mk 0 1 20)], [(MendArc.mk 1 0 5)]] := (Ev.cons (c1 := [.slice (some ⟨b69, 0, none⟩) 1 1]) ⟨_, _, rfl, h74⟩ rfl (Ev.cons (c1 := [.slice (some ⟨b75, 0, none⟩) 1 1]) ⟨_, _, rfl, h80⟩ rfl (Ev.nil)))
  have hF := hS.fixD (RL.mono RMendArc.mono) 0 rfl h83 (rfl); clear hS; obtain ⟨s84, hle85, hS, h86⟩ := hF
  replace h56 := Sl.mono RI.mono hle85 h56
  replace h62 := Sl.mono RI.mono hle85 h62
  replace h68 := Sl.mono RI.mono hle85 h68
  replace h74 := Sl.mono RMendArc.mono hle85 h74
  replace h80 := Sl.mono RMendArc.mono hle85 h80
  refine WL.vS hS hE (runs_plain rfl) (Gives.build hE (vs := [(0, .slice (some ⟨b81, 0, none⟩) 2 2)]) [.slice (some ⟨b81, 0, none⟩) 2 2] rfl (by kernel_rfl)) rfl ?_; clear hE a; intro a hE
  refine WL.lit hE hS (e := 97) (es := 1) (vs := [(0, .agg [.slice (some ⟨b81, 0, none⟩) 2 2].toArray)]) (cs := [.slice (some ⟨b81, 0, none⟩) 2 2]) (runs_plain rfl) rfl (by kernel_rfl) rfl ?_; clear hE hS a w; intro b87 a w hE hS
  replace hS := hS.ptVec (es := 1) (m := 1) rfl (by decide)
  have h89 : Ev 1 RMendChoice s84 [.slice (some ⟨b81, 0, none⟩) 2 2] [(MendChoice.mk [[(MendArc.mk 0 1 20)], [(MendArc.mk 1 0 5)]])] := (Ev.cons (c1 := [.slice (some ⟨b81, 0, none⟩) 2 2]) ⟨_, _, rfl, h86⟩ rfl (Ev.nil))
  have hF := hS.fixD RMendChoice.mono 0 rfl h89 (rfl); clear hS; obtain ⟨s90, hle91, hS, h92⟩ := hF
  replace h56 := Sl.mono RI.mono hle91 h56
  replace h62 := Sl.mono RI.mono hle91 h62
  replace h68 := Sl.mono RI.mono hle91 h68
  replace h74 := Sl.mono RMendArc.mono hle91 h74
  replace h80 := Sl.mono RMendArc.mono hle91 h80
  replace h86 := Sl.mono (RL.mono RMendArc.mono) hle91 h86
  refine WL.vS hS hE (runs_plain rfl) (Gives.build hE (vs := [(0, .slice (some ⟨b51, 0, none⟩) 2 2), (1, .slice (some ⟨b57, 0, none⟩) 2 2), (2, .slice (some ⟨b63, 0, none⟩) 2 2), (4, .slice (some ⟨b87, 0, none⟩) 1 1)]) [.slice (some ⟨b51, 0, none⟩) 2 2, .slice (some ⟨b57, 0, none⟩) 2 2, .slice (some ⟨b63, 0, none⟩) 2 2, .slice none 0 0, .slice (some ⟨b87, 0, none⟩) 1 1] rfl (by kernel_rfl)) rfl ?_; clear hE a; intro a hE
  refine WL.alloc hE hS (runs_plain rfl) zr50 rfl ?_; clear hE hS a w; intro b93 a w hE hS
  refine WL.storeI hE hS 0 rfl [.slice (some ⟨b51, 0, none⟩) 2 2, .slice (some ⟨b57, 0, none⟩) 2 2, .slice (some ⟨b63, 0, none⟩) 2 2, .slice none 0 0, .slice (some ⟨b87, 0, none⟩) 1 1] (runs_plain rfl) rfl rfl rfl ty50 rfl rfl rfl rfl ?_; clear hE hS a w; intro a w hE hS
  refine WL.nil ?_
  refine W.seq ?_
  refine W.region ?_
  refine WL.vS hS hE (runs_plain rfl) (Gives.loadBA hE 0 rfl rfl ty50) rfl ?_; clear hE a; intro a hE
  obtain ⟨q94, hq95, hr⟩ := bindS hr
  have hc_ := MendBest_ok hS h56 h62 h68 Sl.nil h92 hq95
  refine WL.fnq hE (hc_) (runs_plain rfl) bd26 rfl rfl rfl ?_
  clear hE hS hc_; rintro e w ⟨a96, c97, a99, c100, s102, rfl, hle103, h98, h101, hS⟩; refine ⟨_, rfl, ?_⟩; clear a; intro a hE
  replace h56 := Sl.mono RI.mono hle103 h56
  replace h62 := Sl.mono RI.mono hle103 h62
  replace h68 := Sl.mono RI.mono hle103 h68
  replace h74 := Sl.mono RMendArc.mono hle103 h74
  replace h80 := Sl.mono RMendArc.mono hle103 h80
  replace h86 := Sl.mono (RL.mono RMendArc.mono) hle103 h86
  replace h92 := Sl.mono RMendChoice.mono hle103 h92
  refine WL.vS hS hE (runs_plain rfl) (Gives.p hE rfl) rfl ?_; clear hE a; intro a hE
  refine WL.vS hS hE (runs_plain rfl) (Gives.p hE rfl) rfl ?_; clear hE a; intro a hE
  refine WL.vS hS hE (runs_plain rfl) (Gives.p hE rfl) rfl ?_; clear hE a; intro a hE
  refine WL.vS hS hE (runs_plain rfl) (Gives.p hE rfl) rfl ?_; clear hE a; intro a hE
  refine WL.vS hS hE (runs_plain rfl) (Gives.p hE rfl) rfl ?_; clear hE a; intro a hE
  refine WL.vS hS hE (runs_plain rfl) (Gives.p hE rfl) rfl ?_; clear hE a; intro a hE
  refine WL.vS hS hE (runs_plain rfl) (Gives.p hE rfl) rfl ?_; clear hE a; intro a hE
  refine WL.nil ?_
  refine W.seq ?_
  obtain ⟨q105, hq104, hr⟩ := bindS hr
  refine W.cut (fun a w => ∃ (q108 : Bool), ∃ (s106 : Sg), s102.Le s106 ∧ q108 = q105 ∧ Rep a 34 [(0, .bool q108)] ∧ St w s106 (pt b93 (.cells #[.slice (some ⟨b51, 0, none⟩) 2 2, .slice (some ⟨b57, 0, none⟩) 2 2, .slice (some ⟨b63, 0, none⟩) 2 2, .slice none 0 0, .slice (some ⟨b87, 0, none⟩) 1 1] 50 (0, 0)) :: R)) ?_ ?_
  · refine W.gen fun K109 hK109 => ?_
    refine W.region ?_
    refine WL.vS hS hE (runs_plain rfl) (Gives.p hE rfl) rfl ?_; clear hE a; intro a hE
    refine WL.vS hS hE (runs_plain rfl) (Gives.p hE rfl) rfl ?_; clear hE a; intro a hE
    refine WL.vS hS hE (runs_plain rfl) (Gives.p hE rfl) rfl ?_; clear hE a; intro a hE
    rcases Bool.eq_false_or_eq_true (q94.2.2 == 0) with hg110 | hg110
    · replace hq104 := iteT hg110 hq104
      refine WL.vS hS hE (runs_if hE rfl rfl rfl hg110) (Gives.p hE rfl) rfl ?_; clear hE a; intro a hE
      refine WL.lit hE hS (e := 3) (es := 1) (vs := [(0, .int .i64 1)]) (cs := [.int .i64 1]) (runs_if hE rfl rfl rfl hg110) rfl (by kernel_rfl) rfl ?_; clear hE hS a w; intro b111 a w hE hS
      replace hS := hS.ptVec (es := 1) (m := 1) rfl (by decide)
      have h113 : Ev 1 (RI .i64) s102 [.int .i64 1] [1] := (Ev.cons (c1 := [.int .i64 1]) rfl rfl (Ev.nil))
      have hF := hS.fixD RI.mono 0 rfl h113 (rfl); clear hS; obtain ⟨s114, hle115, hS, h116⟩ := hF
      replace h56 := Sl.mono RI.mono hle115 h56
      replace h62 := Sl.mono RI.mono hle115 h62
      replace h68 := Sl.mono RI.mono hle115 h68
      replace h74 := Sl.mono RMendArc.mono hle115 h74
      replace h80 := Sl.mono RMendArc.mono hle115 h80
      replace h86 := Sl.mono (RL.mono RMendArc.mono) hle115 h86
      replace h92 := Sl.mono RMendChoice.mono hle115 h92
      replace h98 := Sl.mono RI.mono hle115 h98
      replace h101 := Sl.mono RI.mono hle115 h101
      obtain ⟨q117, hq118, hq104⟩ := bindS hq104
      have hc_ := SlicesEqualLint_ok hS h98 h116 hq118
      refine WL.fnq hE (hc_) (runs_if hE rfl rfl rfl hg110) bd28 rfl rfl rfl ?_
      clear hE hS hc_; rintro e w ⟨rfl, hS⟩; refine ⟨_, rfl, ?_⟩; clear a; intro a hE
      refine WL.vS hS hE (runs_plain rfl) (Gives.pickT hE rfl hg110 rfl) rfl ?_; clear hE a; intro a hE
      refine WL.vS hS hE (runs_plain rfl) (Gives.p hE rfl) rfl ?_; clear hE a; intro a hE
      rcases Bool.eq_false_or_eq_true q117 with hg119 | hg119
      · replace hq104 := iteT hg119 hq104
        refine WL.vS hS hE (runs_if hE rfl rfl rfl hg119) (Gives.p hE rfl) rfl ?_; clear hE a; intro a hE
        refine WL.lit hE hS (e := 3) (es := 1) (vs := [(0, .int .i64 0), (1, .int .i64 20)]) (cs := [.int .i64 0, .int .i64 20]) (runs_if hE rfl rfl rfl hg119) rfl (by kernel_rfl) rfl ?_; clear hE hS a w; intro b120 a w hE hS
        replace hS := hS.ptVec (es := 1) (m := 2) rfl (by decide)
        have h122 : Ev 1 (RI .i64) s114 [.int .i64 0, .int .i64 20] [0, 20] := (Ev.cons (c1 := [.int .i64 0]) rfl rfl (Ev.cons (c1 := [.int .i64 20]) rfl rfl (Ev.nil)))
        have hF := hS.fixD RI.mono 0 rfl h122 (rfl); clear hS; obtain ⟨s123, hle124, hS, h125⟩ := hF
        replace h56 := Sl.mono RI.mono hle124 h56
        replace h62 := Sl.mono RI.mono hle124 h62
        replace h68 := Sl.mono RI.mono hle124 h68
        replace h74 := Sl.mono RMendArc.mono hle124 h74
        replace h80 := Sl.mono RMendArc.mono hle124 h80
        replace h86 := Sl.mono (RL.mono RMendArc.mono) hle124 h86
        replace h92 := Sl.mono RMendChoice.mono hle124 h92
        replace h98 := Sl.mono RI.mono hle124 h98
        replace h101 := Sl.mono RI.mono hle124 h101
        replace h116 := Sl.mono RI.mono hle124 h116
        obtain ⟨q126, hq127, hq104⟩ := bindS hq104
        have hc_ := SlicesEqualLint_ok hS h101 h125 hq127
        refine WL.fnq hE (hc_) (runs_if hE rfl rfl rfl hg119) bd28 rfl rfl rfl ?_
        clear hE hS hc_; rintro e w ⟨rfl, hS⟩; refine ⟨_, rfl, ?_⟩; clear a; intro a hE
        refine WL.vS hS hE (runs_plain rfl) (Gives.pickT hE rfl hg119 rfl) rfl ?_; clear hE a; intro a hE
        refine WL.vS hS hE (runs_plain rfl) (Gives.p hE rfl) rfl ?_; clear hE a; intro a hE
        refine WL.nil ?_
        subst hK109
        exact ⟨q126, s123, (Sg.Le.trans hle115 hle124), Option.some.inj hq104, hE.pick _ ⟨rfl, trivial⟩, hS⟩
      · replace hq104 := iteF hg119 hq104
        refine WL.no hE (runs_not hE rfl rfl rfl (by rw [hg119]; decide)) rfl ?_; clear hE a; intro a hE
        refine WL.no hE (runs_not hE rfl rfl rfl (by rw [hg119]; decide)) rfl ?_; clear hE a; intro a hE
        refine WL.no hE (runs_not hE rfl rfl rfl (by rw [hg119]; decide)) rfl ?_; clear hE a; intro a hE
        refine WL.vS hS hE (runs_plain rfl) (Gives.pickF hE rfl hg119 rfl) rfl ?_; clear hE a; intro a hE
        refine WL.vS hS hE (runs_plain rfl) (Gives.p hE rfl) rfl ?_; clear hE a; intro a hE
        refine WL.nil ?_
        subst hK109
        exact ⟨false, s114, hle115, Option.some.inj hq104, hE.pick _ ⟨rfl, trivial⟩, hS⟩
    · replace hq104 := iteF hg110 hq104
      refine WL.no hE (runs_not hE rfl rfl rfl (by rw [hg110]; decide)) rfl ?_; clear hE a; intro a hE
      refine WL.no hE (runs_not hE rfl rfl rfl (by rw [hg110]; decide)) rfl ?_; clear hE a; intro a hE
      refine WL.no hE (runs_not hE rfl rfl rfl (by rw [hg110]; decide)) rfl ?_; clear hE a; intro a hE
      refine WL.vS hS hE (runs_plain rfl) (Gives.pickF hE rfl hg110 rfl) rfl ?_; clear hE a; intro a hE
      refine WL.vS hS hE (runs_plain rfl) (Gives.p hE rfl) rfl ?_; clear hE a; intro a hE
      refine WL.no hE (runs_not hE rfl rfl rfl (by decide)) rfl ?_; clear hE a; intro a hE
      refine WL.no hE (runs_not hE rfl rfl rfl (by decide)) rfl ?_; clear hE a; intro a hE
      refine WL.no hE (runs_not hE rfl rfl rfl (by decide)) rfl ?_; clear hE a; intro a hE
      refine WL.vS hS hE (runs_plain rfl) (Gives.pickF hE rfl rfl rfl) rfl ?_; clear hE a; intro a hE
      refine WL.vS hS hE (runs_plain rfl) (Gives.p hE rfl) rfl ?_; clear hE a; intro a hE
      refine WL.nil ?_
      subst hK109
      exact ⟨false, s102, (Sg.Le.refl _), Option.some.inj hq104, hE.pick _ ⟨rfl, trivial⟩, hS⟩
  · clear hE hS a w; rintro a w ⟨q108, s106, hle107, rfl, hE, hS⟩
    replace h56 := Sl.mono RI.mono hle107 h56
    replace h62 := Sl.mono RI.mono hle107 h62
    replace h68 := Sl.mono RI.mono hle107 h68
    replace h92 := Sl.mono RMendChoice.mono hle107 h92
    refine W.ret ?_
    refine finG (fn := Try.f23) (rs := [.tmp 0]) (vs := [_]) hE rfl ⟨rfl, trivial⟩ ?_
    obtain rfl := Option.some.inj hr
    replace hS := hS.tail
    exact ⟨rfl, (hS.down (Sg.Le.trans (Sg.Le.trans (Sg.Le.trans (Sg.Le.trans (Sg.Le.trans (Sg.Le.trans (Sg.Le.trans (Sg.Le.trans hle55 hle61) hle67) hle73) hle79) hle85) hle91) hle103) hle107))⟩
set_option maxHeartbeats 8000000 in
theorem Fishref2TimesOf_ok {fu : Nat}  {w : World} {s : Sg} {R : List HP} {x0 : MendGraph} {a0_0 : Option Addr} {c0_0 : Nat} {a0_1 : Option Addr} {c0_1 : Nat} {a0_2 : Option Addr} {c0_2 : Nat} {a0_3 : Option Addr} {c0_3 : Nat} {a0_4 : Option Addr} {c0_4 : Nat} {x1 : List Int} {a1 : Option Addr} {c1 : Nat} (hS : St w s (R)) (h0_0 : Sl 1 (RI .i64) s a0_0 c0_0 x0.Ready) (h0_1 : Sl 1 (RI .i64) s a0_1 c0_1 x0.Last) (_h0_2 : Sl 1 (RI .i64) s a0_2 c0_2 x0.Due) (h0_3 : Sl 3 RMendArc s a0_3 c0_3 x0.Arcs) (h0_4 : Sl 1 RMendChoice s a0_4 c0_4 x0.Choices) (h1 : Sl 1 (RI .i64) s a1 c1 x1) {r : (List Int) × Bool} (hr : Fishref2TimesOf fu x0 x1 = some r) :
    Calls Try.prog 43 [.agg [.slice a0_0 x0.Ready.length c0_0, .slice a0_1 x0.Last.length c0_1, .slice a0_2 x0.Due.length c0_2, .slice a0_3 x0.Arcs.length c0_3, .slice a0_4 x0.Choices.length c0_4].toArray, .slice a1 x1.length c1].toArray w (fun e w => ∃ (a0 : Option Addr) (c0 n0 : Nat) (cs0 : List Value), e = .returned (.tuple #[.slice a0 n0 c0, .bool r.2]) ∧ Ev 1 (RI .i64) s cs0 r.1 ∧ r.1.length = n0 ∧ St w s (vecC 3 1 a0 c0 n0 cs0 :: R)) := by
  refine enter Try.func43 rfl rfl rfl fun a hE => ?_
  rw [Fishref2TimesOf] at hr
  refine W.seq ?_
  refine W.region ?_
  refine WL.box hE hS (runs_plain rfl) rfl rfl rfl ?_; clear hE hS a w; intro b51 a w hE hS
  refine WL.vS hS hE (runs_plain rfl) (Gives.p hE rfl) rfl ?_; clear hE a; intro a hE
  refine WL.vS hS hE (runs_plain rfl) (Gives.p hE rfl) rfl ?_; clear hE a; intro a hE
  refine WL.nil ?_
  refine W.seq ?_
  refine W.region ?_
  refine WL.vS hS hE (runs_plain rfl) (Gives.fld hE rfl fl50_3) rfl ?_; clear hE a; intro a hE
  refine WL.vS hS hE (runs_plain rfl) (Gives.loadB hE 0 rfl rfl rfl ty47) rfl ?_; clear hE a; intro a hE
  obtain ⟨q52, hq53, hr⟩ := bindS hr
  have hc_ := SlicesCloneLmendArc_ok hS h0_3 hq53
  refine WL.fnq hE (hc_) (runs_plain rfl) bd80 rfl rfl rfl ?_
  clear hE hS hc_; rintro e w ⟨a54, c55, n56, cs57, rfl, h58, rfl, hS⟩; refine ⟨_, rfl, ?_⟩; clear a; intro a hE
  refine WL.vS hS hE (runs_plain rfl) (Gives.p hE rfl) rfl ?_; clear hE a; intro a hE
  refine WL.nil ?_
  refine W.seq ?_
  refine W.seq ?_
  refine W.region ?_
  refine WL.vS hS hE (runs_plain rfl) (Gives.p hE rfl) rfl ?_; clear hE a; intro a hE
  refine WL.vS hS hE (runs_plain rfl) (Gives.len hE rfl sl22) rfl ?_; clear hE a; intro a hE
  refine WL.vS hS hE (runs_plain rfl) (Gives.p hE rfl) rfl ?_; clear hE a; intro a hE
  refine WL.nil ?_
  obtain ⟨q61, hq60, hr⟩ := bindS hr
  refine W.cut (fun a w => ∃ (q71 : List MendArc), ∃ (a72 : Option Addr), ∃ (c73 : Nat), ∃ (n75 : Nat), ∃ (cs76 : List Value), q71 = q61 ∧ Ev 3 RMendArc s cs76 q71 ∧ q71.length = n75 ∧ Rep a 104 [(2, .pointer (some ⟨b51, 0, none⟩)), (6, .slice a72 n75 c73)] ∧ St w s (vecC 94 3 a72 c73 n75 cs76 :: pt b51 (.cells #[.slice a0_0 x0.Ready.length c0_0, .slice a0_1 x0.Last.length c0_1, .slice a0_2 x0.Due.length c0_2, .slice a0_3 x0.Arcs.length c0_3, .slice a0_4 x0.Choices.length c0_4] 50 (0, 0)) :: R)) ?_ ?_
  · refine W.block ?_
    refine W.loop (fun m a w => ∃ (rest64 : List Int) (k62 : Nat), ∃ (q71 : List MendArc), ∃ (a72 : Option Addr), ∃ (c73 : Nat), ∃ (n75 : Nat), ∃ (cs76 : List Value), rest64.length = m ∧ x1.drop k62 = rest64 ∧ Fishref2TimesOf.loop1 x0 rest64 k62 q71 = some q61 ∧ Ev 3 RMendArc s cs76 q71 ∧ q71.length = n75 ∧ Rep a 104 [(2, .pointer (some ⟨b51, 0, none⟩)), (6, .slice a72 n75 c73), (20, .slice a1 x1.length c1), (21, .int .i64 ((x1).length : Int)), (22, .int .i64 ((k62 : Nat) : Int))] ∧ St w s (vecC 94 3 a72 c73 n75 cs76 :: pt b51 (.cells #[.slice a0_0 x0.Ready.length c0_0, .slice a0_1 x0.Last.length c0_1, .slice a0_2 x0.Due.length c0_2, .slice a0_3 x0.Arcs.length c0_3, .slice a0_4 x0.Choices.length c0_4] 50 (0, 0)) :: R)) (m := x1.length) ⟨x1, 0, q52, a54, c55, q52.length, cs57, rfl, rfl, hq60, h58, rfl, hE.pick _ ⟨rfl, rfl, rfl, rfl, rfl, trivial⟩, hS⟩ ?_
    clear hE hS a w hq60; rintro m68 a w ⟨rest64, k62, q71, a72, c73, n75, cs76, rfl, hd65, hq60, h74, rfl, hE, hS⟩
    refine W.gen fun K78 hK78 => ?_
    rcases rest64 with _ | ⟨x63, rest64⟩
    · have hlt66 := drop_nil hd65
      refine W.seq ?_
      refine W.region ?_
      refine WL.vS hS hE (runs_plain rfl) (Gives.p hE rfl) rfl ?_; clear hE a; intro a hE
      refine WL.nil ?_
      refine W.seq ?_
      refine W.condF hE rfl (decide_eq_false (by omega)) ?_
      subst hK78
      refine W.exit rfl ?_
      exact ⟨q71, a72, c73, q71.length, cs76, Option.some.inj hq60, h74, rfl, hE.pick _ ⟨rfl, rfl, trivial⟩, hS⟩
    · obtain ⟨hlt66, hx67, hd65⟩ := drop_cons hd65
      rw [Fishref2TimesOf.loop1] at hq60
      refine W.seq ?_
      refine W.region ?_
      refine WL.vS hS hE (runs_plain rfl) (Gives.p hE rfl) rfl ?_; clear hE a; intro a hE
      refine WL.nil ?_
      refine W.seq ?_
      refine W.condT hE rfl (decide_eq_true (by omega)) ?_
      refine W.skip ?_
      refine W.seq ?_
      refine W.block ?_
      refine W.seq ?_
      refine W.region ?_
      refine WL.vS hS hE (runs_plain rfl) (Gives.p hE rfl) rfl ?_; clear hE a; intro a hE
      obtain ⟨cs79, hl80, hR81, hat82⟩ := h1.at hx67
      subst hR81
      refine WL.vS hS hE (runs_plain rfl) (Gives.idx hE k62 rfl rfl sl22 rfl hlt66 (h1.aok hlt66)) rfl ?_; clear hE a; intro a hE
      refine WL.vS hS hE (runs_plain rfl) (Gives.load1 hE rfl (fun w h => hat82 w _ h) ty3) rfl ?_; clear hE a; intro a hE
      refine WL.vS hS hE (runs_plain rfl) (Gives.p hE rfl) rfl ?_; clear hE a; intro a hE
      refine WL.vS hS hE (runs_plain rfl) (Gives.p hE rfl) rfl ?_; clear hE a; intro a hE
      refine WL.nil ?_
      refine W.seq ?_
      refine W.region ?_
      refine WL.vS hS hE (runs_plain rfl) (Gives.p hE rfl) rfl ?_; clear hE a; intro a hE
      refine WL.vS hS hE (runs_plain rfl) (Gives.p hE rfl) rfl ?_; clear hE a; intro a hE
      refine WL.nil ?_
      obtain ⟨q84, hq83, hq60⟩ := bindS hq60
      refine W.cut (fun a w => ∃ (q87 : List MendArc), ∃ (a88 : Option Addr), ∃ (c89 : Nat), ∃ (n91 : Nat), ∃ (cs92 : List Value), q87 = q84 ∧ Ev 3 RMendArc s cs92 q87 ∧ q87.length = n91 ∧ Rep a 104 [(2, .pointer (some ⟨b51, 0, none⟩)), (6, .slice a88 n91 c89), (20, .slice a1 x1.length c1), (21, .int .i64 ((x1).length : Int)), (22, .int .i64 ((k62 : Nat) : Int))] ∧ St w s (vecC 94 3 a88 c89 n91 cs92 :: pt b51 (.cells #[.slice a0_0 x0.Ready.length c0_0, .slice a0_1 x0.Last.length c0_1, .slice a0_2 x0.Due.length c0_2, .slice a0_3 x0.Arcs.length c0_3, .slice a0_4 x0.Choices.length c0_4] 50 (0, 0)) :: R)) ?_ ?_
      · refine W.gen fun K94 hK94 => ?_
        refine W.cond hE rfl (fun hc95 => ?_) (fun hc95 => ?_)
        · replace hq83 := iteT hc95 hq83
          refine W.region ?_
          refine WL.vS hS hE (runs_plain rfl) (Gives.p hE rfl) rfl ?_; clear hE a; intro a hE
          refine WL.vS hS hE (runs_plain rfl) (Gives.fld hE rfl fl50_4) rfl ?_; clear hE a; intro a hE
          refine WL.vS hS hE (runs_plain rfl) (Gives.loadB hE 1 rfl rfl rfl ty48) rfl ?_; clear hE a; intro a hE
          refine WL.vS hS hE (runs_plain rfl) (Gives.p hE rfl) rfl ?_; clear hE a; intro a hE
          obtain ⟨x96, hx97, hq83⟩ := bindS hq83
          obtain ⟨hi98, hlt99, hy100⟩ := gx_some hx97
          obtain ⟨cs101, hl102, hR103, hat104⟩ := h0_4.at hy100
          obtain ⟨a105, c106, rfl, h107⟩ := hR103
          refine WL.vS hS hE (runs_plain rfl) (Gives.idx hE (((k62 : Nat) : Int)).toNat rfl rfl sl48 hi98 hlt99 (h0_4.aok hlt99)) rfl ?_; clear hE a; intro a hE
          refine WL.vS hS hE (runs_plain rfl) (Gives.fld hE rfl fl97_0) rfl ?_; clear hE a; intro a hE
          refine WL.vS hS hE (runs_plain rfl) (Gives.load1 hE rfl (fun w h => hat104 w _ h) ty95) rfl ?_; clear hE a; intro a hE
          refine WL.vS hS hE (runs_plain rfl) (Gives.p hE rfl) rfl ?_; clear hE a; intro a hE
          refine WL.vS hS hE (runs_plain rfl) (Gives.p hE rfl) rfl ?_; clear hE a; intro a hE
          obtain ⟨x108, hx109, hq83⟩ := bindS hq83
          obtain ⟨hi110, hlt111, hy112⟩ := gx_some hx109
          obtain ⟨cs113, hl114, hR115, hat116⟩ := h107.at hy112
          obtain ⟨a117, c118, rfl, h119⟩ := hR115
          refine WL.vS hS hE (runs_plain rfl) (Gives.idx hE (w64 (x63 - 1)).toNat rfl rfl sl95 hi110 hlt111 (h107.aok hlt111)) rfl ?_; clear hE a; intro a hE
          refine WL.vS hS hE (runs_plain rfl) (Gives.load1 hE rfl (fun w h => hat116 w _ h) ty47) rfl ?_; clear hE a; intro a hE
          obtain ⟨x120, hx121, hq83⟩ := bindS hq83
          refine WL.appS hE hS 0 (runs_plain rfl) rfl rfl (xs := x108) rfl rfl ap47 RMendArc.one h74 rfl h119 hx121 rfl ?_; clear hE hS a w; intro a122 c123 cs124 a w h125 hE hS
          refine WL.vS hS hE (runs_plain rfl) (Gives.p hE rfl) rfl ?_; clear hE a; intro a hE
          refine WL.nil ?_
          subst hK94
          exact ⟨x120, a122, c123, x120.length, cs124, Option.some.inj hq83, h125, (rfl), hE.pick _ ⟨rfl, rfl, rfl, rfl, rfl, trivial⟩, hS⟩
        · replace hq83 := iteF hc95 hq83
          refine W.skip ?_
          subst hK94
          exact ⟨q71, a72, c73, q71.length, cs76, Option.some.inj hq83, h74, rfl, hE.pick _ ⟨rfl, rfl, rfl, rfl, rfl, trivial⟩, hS⟩
      · clear hE hS a w; rintro a w ⟨q87, a88, c89, n91, cs92, rfl, h90, rfl, hE, hS⟩
        refine W.region ?_
        refine WL.vS hS hE (runs_plain rfl) (Gives.inc hE rfl (by have := h1.small; omega)) rfl ?_; clear hE a; intro a hE
        refine WL.vS hS hE (runs_plain rfl) (Gives.p hE rfl) rfl ?_; clear hE a; intro a hE
        refine WL.nil ?_
        subst hK78
        exact ⟨rest64.length, Nat.lt_succ_self _, rest64, k62 + 1, q87, a88, c89, q87.length, cs92, rfl, hd65, hq60, h90, rfl, hE.pick _ ⟨rfl, rfl, rfl, rfl, rfl, trivial⟩, hS⟩
  · clear hE hS a w; rintro a w ⟨q71, a72, c73, n75, cs76, rfl, h74, rfl, hE, hS⟩
    refine W.seq ?_
    refine W.region ?_
    refine WL.vS hS hE (runs_plain rfl) (Gives.fld hE rfl fl50_0) rfl ?_; clear hE a; intro a hE
    refine WL.vS hS hE (runs_plain rfl) (Gives.loadB hE 1 rfl rfl rfl ty22) rfl ?_; clear hE a; intro a hE
    obtain ⟨q126, hq127, hr⟩ := bindS hr
    have hc_ := SlicesCloneLint_ok hS h0_0 hq127
    refine WL.fnq hE (hc_) (runs_plain rfl) bd67 rfl rfl rfl ?_
    clear hE hS hc_; rintro e w ⟨a128, c129, n130, cs131, rfl, h132, rfl, hS⟩; refine ⟨_, rfl, ?_⟩; clear a; intro a hE
    refine WL.vS hS hE (runs_plain rfl) (Gives.p hE rfl) rfl ?_; clear hE a; intro a hE
    refine WL.nil ?_
    refine W.seq ?_
    refine W.seq ?_
    refine W.region ?_
    refine WL.vS hS hE (runs_plain rfl) (Gives.p hE rfl) rfl ?_; clear hE a; intro a hE
    refine WL.nil ?_
    obtain ⟨q135, hq134, hr⟩ := bindS hr
    refine W.cut (fun a w => ∃ (q140 : Int), ∃ (q141 : List Int), ∃ (cs145 : List Value), (.next (q140, q141)) = q135 ∧ Ev 1 (RI .i64) s cs145 q141 ∧ q141.length = q126.length ∧ Rep a 104 [(2, .pointer (some ⟨b51, 0, none⟩)), (9, .slice a128 q126.length c129)] ∧ St w s (vecC 3 1 a128 c129 q126.length cs145 :: vecC 94 3 a72 c73 q71.length cs76 :: pt b51 (.cells #[.slice a0_0 x0.Ready.length c0_0, .slice a0_1 x0.Last.length c0_1, .slice a0_2 x0.Due.length c0_2, .slice a0_3 x0.Arcs.length c0_3, .slice a0_4 x0.Choices.length c0_4] 50 (0, 0)) :: R)) ?_ ?_
    · refine W.block ?_
      refine W.loop (fun m a w => ∃ (n136 : Nat), ∃ (q140 : Int), ∃ (q141 : List Int), ∃ (cs145 : List Value), n136 = m ∧ Fishref2TimesOf.loop2 q71 q126 n136 q140 q141 = some q135 ∧ Ev 1 (RI .i64) s cs145 q141 ∧ q141.length = q126.length ∧ Rep a 104 [(2, .pointer (some ⟨b51, 0, none⟩)), (6, .slice a72 q71.length c73), (9, .slice a128 q126.length c129), (10, .int .i64 q140)] ∧ St w s (vecC 3 1 a128 c129 q126.length cs145 :: vecC 94 3 a72 c73 q71.length cs76 :: pt b51 (.cells #[.slice a0_0 x0.Ready.length c0_0, .slice a0_1 x0.Last.length c0_1, .slice a0_2 x0.Due.length c0_2, .slice a0_3 x0.Arcs.length c0_3, .slice a0_4 x0.Choices.length c0_4] 50 (0, 0)) :: R)) (m := fu) ⟨fu, 0, q126, cs131, rfl, hq134, h132, rfl, hE.pick _ ⟨rfl, rfl, rfl, rfl, trivial⟩, hS⟩ ?_
      clear hE hS a w hq134; rintro m137 a w ⟨n136, q140, q141, cs145, rfl, hq134, h144, hn146, hE, hS⟩
      refine W.gen fun K147 hK147 => ?_
      rcases n136 with _ | n136
      · rw [Fishref2TimesOf.loop2] at hq134; exact absurd hq134 (by simp)
      rw [Fishref2TimesOf.loop2] at hq134
      refine W.seq ?_
      refine W.block ?_
      refine W.seq ?_
      refine W.region ?_
      refine WL.vS hS hE (runs_plain rfl) (Gives.p hE rfl) rfl ?_; clear hE a; intro a hE
      refine WL.nil ?_
      refine W.seq ?_
      refine W.seq ?_
      refine W.region ?_
      refine WL.vS hS hE (runs_plain rfl) (Gives.p hE rfl) rfl ?_; clear hE a; intro a hE
      refine WL.vS hS hE (runs_plain rfl) (Gives.len hE rfl sl47) rfl ?_; clear hE a; intro a hE
      refine WL.vS hS hE (runs_plain rfl) (Gives.p hE rfl) rfl ?_; clear hE a; intro a hE
      refine WL.nil ?_
      have hb159 : q71.length ≤ 9223372036854775807 := by have := hS.vecCap 1 rfl; unfold maxLen at this; omega
      obtain ⟨q149, hq148, hq134⟩ := bindS hq134
      refine W.cut (fun a w => ∃ (q160 : Bool), ∃ (q161 : List Int), ∃ (cs165 : List Value), (q160, q161) = q149 ∧ Ev 1 (RI .i64) s cs165 q161 ∧ q161.length = q126.length ∧ Rep a 104 [(2, .pointer (some ⟨b51, 0, none⟩)), (6, .slice a72 q71.length c73), (9, .slice a128 q126.length c129), (10, .int .i64 q140), (11, .bool q160)] ∧ St w s (vecC 3 1 a128 c129 q126.length cs165 :: vecC 94 3 a72 c73 q71.length cs76 :: pt b51 (.cells #[.slice a0_0 x0.Ready.length c0_0, .slice a0_1 x0.Last.length c0_1, .slice a0_2 x0.Due.length c0_2, .slice a0_3 x0.Arcs.length c0_3, .slice a0_4 x0.Choices.length c0_4] 50 (0, 0)) :: R)) ?_ ?_
      · refine W.block ?_
        refine W.loop (fun m a w => ∃ (rest152 : Nat) (k150 : Nat), ∃ (q160 : Bool), ∃ (q161 : List Int), ∃ (cs165 : List Value), rest152 = m ∧ k150 + rest152 = q71.length ∧ Fishref2TimesOf.loop3 q71 rest152 k150 q160 q161 = some q149 ∧ Ev 1 (RI .i64) s cs165 q161 ∧ q161.length = q126.length ∧ Rep a 104 [(2, .pointer (some ⟨b51, 0, none⟩)), (6, .slice a72 q71.length c73), (9, .slice a128 q126.length c129), (10, .int .i64 q140), (11, .bool q160), (47, .slice a72 q71.length c73), (48, .int .i64 ((q71.length : Nat) : Int)), (49, .int .i64 ((k150 : Nat) : Int))] ∧ St w s (vecC 3 1 a128 c129 q126.length cs165 :: vecC 94 3 a72 c73 q71.length cs76 :: pt b51 (.cells #[.slice a0_0 x0.Ready.length c0_0, .slice a0_1 x0.Last.length c0_1, .slice a0_2 x0.Due.length c0_2, .slice a0_3 x0.Arcs.length c0_3, .slice a0_4 x0.Choices.length c0_4] 50 (0, 0)) :: R)) (m := q71.length) ⟨q71.length, 0, false, q141, cs145, rfl, by omega, hq148, h144, hn146, hE.pick _ ⟨rfl, rfl, rfl, rfl, rfl, rfl, rfl, rfl, trivial⟩, hS⟩ ?_
        clear hE hS a w hq148; rintro m156 a w ⟨rest152, k150, q160, q161, cs165, rfl, hd153, hq148, h164, hn166, hE, hS⟩
        refine W.gen fun K167 hK167 => ?_
        rcases rest152 with _ | rest152
        · skip
          refine W.seq ?_
          refine W.region ?_
          refine WL.vS hS hE (runs_plain rfl) (Gives.p hE rfl) rfl ?_; clear hE a; intro a hE
          refine WL.nil ?_
          refine W.seq ?_
          refine W.condF hE rfl (decide_eq_false (by omega)) ?_
          subst hK167
          refine W.exit rfl ?_
          exact ⟨q160, q161, cs165, Option.some.inj hq148, h164, hn166, hE.pick _ ⟨rfl, rfl, rfl, rfl, rfl, trivial⟩, hS⟩
        · have hlt154 : k150 < q71.length := by omega
          rw [Fishref2TimesOf.loop3] at hq148
          refine W.seq ?_
          refine W.region ?_
          refine WL.vS hS hE (runs_plain rfl) (Gives.p hE rfl) rfl ?_; clear hE a; intro a hE
          refine WL.nil ?_
          refine W.seq ?_
          refine W.condT hE rfl (decide_eq_true (by omega)) ?_
          refine W.skip ?_
          refine W.seq ?_
          refine W.block ?_
          refine W.seq ?_
          refine W.region ?_
          obtain ⟨x168, hx169, hq148⟩ := bindS hq148
          obtain ⟨hi170, hlt171, hy172⟩ := gx_some hx169
          obtain ⟨vs173, hl174, hR175, hd176, hget177⟩ := h74.at hy172
          subst hR175
          refine WL.vS hS hE (runs_plain rfl) (Gives.idx hE ((((k150 : Nat) : Int)).toNat) rfl rfl sl47 hi170 (by omega) (hS.vecAok 1 rfl (by omega : (((k150 : Nat) : Int)).toNat < q71.length))) rfl ?_; clear hE a; intro a hE
          refine WL.vS hS hE (runs_plain rfl) (Gives.loadA hE rfl (fun w h => St.vecSees h 1 rfl ((((k150 : Nat) : Int)).toNat * 3) _ hget177) ty94) rfl ?_; clear hE a; intro a hE
          refine WL.alloc hE hS (runs_plain rfl) zr94 rfl ?_; clear hE hS a w; intro b178 a w hE hS
          refine WL.storeI hE hS 0 rfl (MendArc.cells x168) (runs_plain rfl) rfl rfl rfl ty94 rfl rfl rfl rfl ?_; clear hE hS a w; intro a w hE hS
          refine WL.nil ?_
          refine W.seq ?_
          refine W.regionQ (C := fun w => St w s (pt b178 (.cells (MendArc.cells x168).toArray 94 (0, 0)) :: vecC 3 1 a128 c129 q126.length cs165 :: vecC 94 3 a72 c73 q71.length cs76 :: pt b51 (.cells #[.slice a0_0 x0.Ready.length c0_0, .slice a0_1 x0.Last.length c0_1, .slice a0_2 x0.Due.length c0_2, .slice a0_3 x0.Arcs.length c0_3, .slice a0_4 x0.Choices.length c0_4] 50 (0, 0)) :: R)) mixed (by kernel_rfl) hS.drew ?_
          refine QL.v hE (runs_plain rfl) (Gives.p hE rfl) rfl ?_; clear hE a; intro a hE
          refine QL.v hE (runs_plain rfl) (Gives.fld hE rfl fl94_0) rfl ?_; clear hE a; intro a hE
          refine QL.v hE (runs_plain rfl) (Gives.loadB hE 0 rfl rfl rfl ty3) rfl ?_; clear hE a; intro a hE
          obtain ⟨x179, hx180, hq148⟩ := bindS hq148
          obtain ⟨hi181, hlt182, hy183⟩ := gx_some hx180
          obtain ⟨vs184, hl185, hR186, hd187, hget188⟩ := h164.at hy183
          subst hR186
          refine QL.v hE (runs_plain rfl) (Gives.idx hE ((x168.From).toNat) rfl rfl sl22 hi181 (by have := hn166; omega) (hS.vecAok 1 rfl (by have := hn166; omega : (x168.From).toNat < q126.length))) rfl ?_; clear hE a; intro a hE
          refine QL.v hE (runs_plain rfl) (Gives.load1 hE rfl (fun w h => St.vecSees h 1 rfl ((x168.From).toNat * 1) _ hget188) ty3) rfl ?_; clear hE a; intro a hE
          refine QL.v hE (runs_plain rfl) (Gives.fld hE rfl fl94_2) rfl ?_; clear hE a; intro a hE
          refine QL.v hE (runs_plain rfl) (Gives.loadB hE 0 rfl rfl rfl ty3) rfl ?_; clear hE a; intro a hE
          refine QL.v hE (runs_plain rfl) (Gives.p hE rfl) rfl ?_; clear hE a; intro a hE
          refine QL.v hE (runs_plain rfl) (Gives.p hE rfl) rfl ?_; clear hE a; intro a hE
          refine QL.nil ?_; clear hS w; intro w hS
          refine W.seq ?_
          refine W.region ?_
          refine WL.vS hS hE (runs_plain rfl) (Gives.p hE rfl) rfl ?_; clear hE a; intro a hE
          refine WL.vS hS hE (runs_plain rfl) (Gives.p hE rfl) rfl ?_; clear hE a; intro a hE
          refine WL.vS hS hE (runs_plain rfl) (Gives.fld hE rfl fl94_1) rfl ?_; clear hE a; intro a hE
          refine WL.vS hS hE (runs_plain rfl) (Gives.loadB hE 0 rfl rfl rfl ty3) rfl ?_; clear hE a; intro a hE
          obtain ⟨x189, hx190, hq148⟩ := bindS hq148
          obtain ⟨hi191, hlt192, hy193⟩ := gx_some hx190
          obtain ⟨vs194, hl195, hR196, hd197, hget198⟩ := h164.at hy193
          subst hR196
          refine WL.vS hS hE (runs_plain rfl) (Gives.idx hE ((x168.To).toNat) rfl rfl sl22 hi191 (by have := hn166; omega) (hS.vecAok 1 rfl (by have := hn166; omega : (x168.To).toNat < q126.length))) rfl ?_; clear hE a; intro a hE
          refine WL.vS hS hE (runs_plain rfl) (Gives.load1 hE rfl (fun w h => St.vecSees h 1 rfl ((x168.To).toNat * 1) _ hget198) ty3) rfl ?_; clear hE a; intro a hE
          refine WL.vS hS hE (runs_plain rfl) (Gives.p hE rfl) rfl ?_; clear hE a; intro a hE
          refine WL.nil ?_
          obtain ⟨q200, hq199, hq148⟩ := bindS hq148
          refine W.cut (fun a w => ∃ (q203 : Bool), ∃ (q204 : List Int), ∃ (cs208 : List Value), (q203, q204) = q200 ∧ Ev 1 (RI .i64) s cs208 q204 ∧ q204.length = q126.length ∧ Rep a 104 [(2, .pointer (some ⟨b51, 0, none⟩)), (6, .slice a72 q71.length c73), (9, .slice a128 q126.length c129), (10, .int .i64 q140), (11, .bool q203), (47, .slice a72 q71.length c73), (48, .int .i64 ((q71.length : Nat) : Int)), (49, .int .i64 ((k150 : Nat) : Int))] ∧ St w s (pt b178 (.cells (MendArc.cells x168).toArray 94 (0, 0)) :: vecC 3 1 a128 c129 q126.length cs208 :: vecC 94 3 a72 c73 q71.length cs76 :: pt b51 (.cells #[.slice a0_0 x0.Ready.length c0_0, .slice a0_1 x0.Last.length c0_1, .slice a0_2 x0.Due.length c0_2, .slice a0_3 x0.Arcs.length c0_3, .slice a0_4 x0.Choices.length c0_4] 50 (0, 0)) :: R)) ?_ ?_
          · refine W.gen fun K210 hK210 => ?_
            refine W.cond hE rfl (fun hc211 => ?_) (fun hc211 => ?_)
            · replace hq199 := iteT hc211 hq199
              refine W.region ?_
              refine WL.vS hS hE (runs_plain rfl) (Gives.p hE rfl) rfl ?_; clear hE a; intro a hE
              refine WL.vS hS hE (runs_plain rfl) (Gives.fld hE rfl fl94_1) rfl ?_; clear hE a; intro a hE
              refine WL.vS hS hE (runs_plain rfl) (Gives.loadB hE 0 rfl rfl rfl ty3) rfl ?_; clear hE a; intro a hE
              refine WL.vS hS hE (runs_plain rfl) (Gives.p hE rfl) rfl ?_; clear hE a; intro a hE
              obtain ⟨_, hx213, hq199⟩ := bindS hq199
              obtain ⟨h214, h215⟩ := ix_some hx213
              refine WL.vS hS hE (runs_plain rfl) (Gives.idx hE ((x168.To).toNat) rfl rfl sl22 h214 (by have := hn166; omega) (hS.vecAok 1 rfl (by have := hn166; omega : (x168.To).toNat < q126.length))) rfl ?_; clear hE a; intro a hE
              obtain ⟨x217, hx218, hq199⟩ := bindS hq199
              refine WL.setD hE hS 1 rfl (runs_plain rfl) rfl rfl (vs := [.int .i64 (w64 (x179 + x168.Len))]) rfl ty3 rfl rfl rfl h164 hn166 (sx_some hx218).1 hx218 rfl rfl ?_; clear hE hS a w; intro cs219 a w h220 hn221 hE hS
              refine WL.vS hS hE (runs_plain rfl) (Gives.p hE rfl) rfl ?_; clear hE a; intro a hE
              refine WL.nil ?_
              subst hK210
              exact ⟨true, x217, cs219, Option.some.inj hq199, h220, hn221, hE.pick _ ⟨rfl, rfl, rfl, rfl, rfl, rfl, rfl, rfl, trivial⟩, hS⟩
            · replace hq199 := iteF hc211 hq199
              refine W.skip ?_
              subst hK210
              exact ⟨q160, q161, cs165, Option.some.inj hq199, h164, hn166, hE.pick _ ⟨rfl, rfl, rfl, rfl, rfl, rfl, rfl, rfl, trivial⟩, hS⟩
          · clear hE hS a w; rintro a w ⟨q203, q204, cs208, rfl, h207, hn209, hE, hS⟩
            dsimp only at hq148
            refine W.region ?_
            refine WL.vS hS hE (runs_plain rfl) (Gives.inc hE rfl (by omega)) rfl ?_; clear hE a; intro a hE
            refine WL.vS hS hE (runs_plain rfl) (Gives.p hE rfl) rfl ?_; clear hE a; intro a hE
            refine WL.nil ?_
            replace hS := hS.tail
            subst hK167
            exact ⟨rest152, Nat.lt_succ_self _, rest152, k150 + 1, q203, q204, cs208, rfl, (by omega), hq148, h207, hn209, hE.pick _ ⟨rfl, rfl, rfl, rfl, rfl, rfl, rfl, rfl, trivial⟩, hS⟩
      · clear hE hS a w; rintro a w ⟨q160, q161, cs165, rfl, h164, hn166, hE, hS⟩
        dsimp only at hq134
        refine W.seq ?_
        refine W.seq ?_
        refine W.region ?_
        refine WL.vS hS hE (runs_plain rfl) (Gives.p hE rfl) rfl ?_; clear hE a; intro a hE
        refine WL.vS hS hE (runs_plain rfl) (Gives.p hE rfl) rfl ?_; clear hE a; intro a hE
        refine WL.nil ?_
        refine W.cond hE rfl (fun hc222 => ?_) (fun hc222 => ?_)
        · replace hq134 := iteT hc222 hq134
          subst hK147
          refine W.exit rfl ?_
          exact ⟨q140, q161, cs165, Option.some.inj hq134, h164, hn166, hE.pick _ ⟨rfl, rfl, trivial⟩, hS⟩
        · replace hq134 := iteF hc222 hq134
          refine W.skip ?_
          refine W.seq ?_
          refine W.region ?_
          refine WL.vS hS hE (runs_plain rfl) (Gives.p hE rfl) rfl ?_; clear hE a; intro a hE
          refine WL.vS hS hE (runs_plain rfl) (Gives.p hE rfl) rfl ?_; clear hE a; intro a hE
          refine WL.vS hS hE (runs_plain rfl) (Gives.len hE rfl sl22) rfl ?_; clear hE a; intro a hE
          refine WL.vS hS hE (runs_plain rfl) (Gives.p hE rfl) rfl ?_; clear hE a; intro a hE
          refine WL.nil ?_
          refine W.cond hE rfl (fun hc223 => ?_) (fun hc223 => ?_)
          · replace hq134 := iteT hc223 hq134
            refine W.seq ?_
            refine W.region ?_
            refine WL.vS hS hE (runs_plain rfl) (Gives.p hE rfl) rfl ?_; clear hE a; intro a hE
            refine WL.vS hS hE (runs_plain rfl) (Gives.p hE rfl) rfl ?_; clear hE a; intro a hE
            refine WL.nil ?_
            refine W.ret ?_
            subst hK147
            rw [← Option.some.inj hq134] at hr
            dsimp only at hr
            replace hS := hS.vecNil 3 1
            refine finG (fn := Try.f43) (rs := [.tmp 4, .tmp 5]) (vs := [_, _]) hE rfl ⟨rfl, rfl, trivial⟩ ?_
            obtain rfl := Option.some.inj hr
            replace hS := hS.dropAt 1
            replace hS := hS.dropAt 1
            replace hS := hS.dropAt 1
            exact ⟨none, 0, 0, [], rfl, (Ev.nil), (rfl), hS⟩
          · replace hq134 := iteF hc223 hq134
            refine W.skip ?_
            refine W.region ?_
            refine WL.vS hS hE (runs_plain rfl) (Gives.p hE rfl) rfl ?_; clear hE a; intro a hE
            refine WL.vS hS hE (runs_plain rfl) (Gives.p hE rfl) rfl ?_; clear hE a; intro a hE
            refine WL.vS hS hE (runs_plain rfl) (Gives.p hE rfl) rfl ?_; clear hE a; intro a hE
            refine WL.nil ?_
            subst hK147
            exact ⟨n136, Nat.lt_succ_self _, n136, (w64 (q140 + 1)), q161, cs165, rfl, hq134, h164, hn166, hE.pick _ ⟨rfl, rfl, rfl, rfl, trivial⟩, hS⟩
    · clear hE hS a w; rintro a w ⟨q140, q141, cs145, rfl, h144, hn146, hE, hS⟩
      dsimp only at hr
      refine W.seq ?_
      refine W.seq ?_
      refine W.region ?_
      refine WL.vS hS hE (runs_plain rfl) (Gives.p hE rfl) rfl ?_; clear hE a; intro a hE
      refine WL.vS hS hE (runs_plain rfl) (Gives.len hE rfl sl22) rfl ?_; clear hE a; intro a hE
      refine WL.vS hS hE (runs_plain rfl) (Gives.p hE rfl) rfl ?_; clear hE a; intro a hE
      refine WL.nil ?_
      replace hS := hS.dropAt 1
      have hb236 : q126.length ≤ 9223372036854775807 := by have := hS.vecCap 0 rfl; unfold maxLen at this; omega
      obtain ⟨q226, hq225, hr⟩ := bindS hr
      refine W.cut (fun a w => (.next ()) = q226 ∧ Rep a 104 [(9, .slice a128 q126.length c129)] ∧ St w s (vecC 3 1 a128 c129 q126.length cs145 :: pt b51 (.cells #[.slice a0_0 x0.Ready.length c0_0, .slice a0_1 x0.Last.length c0_1, .slice a0_2 x0.Due.length c0_2, .slice a0_3 x0.Arcs.length c0_3, .slice a0_4 x0.Choices.length c0_4] 50 (0, 0)) :: R)) ?_ ?_
      · refine W.block ?_
        refine W.loop (fun m a w => ∃ (rest229 : Nat) (k227 : Nat), rest229 = m ∧ k227 + rest229 = q126.length ∧ Fishref2TimesOf.loop4 x0 q141 rest229 k227 = some q226 ∧ Rep a 104 [(2, .pointer (some ⟨b51, 0, none⟩)), (9, .slice a128 q126.length c129), (80, .slice a128 q126.length c129), (81, .int .i64 ((q126.length : Nat) : Int)), (82, .int .i64 ((k227 : Nat) : Int))] ∧ St w s (vecC 3 1 a128 c129 q126.length cs145 :: pt b51 (.cells #[.slice a0_0 x0.Ready.length c0_0, .slice a0_1 x0.Last.length c0_1, .slice a0_2 x0.Due.length c0_2, .slice a0_3 x0.Arcs.length c0_3, .slice a0_4 x0.Choices.length c0_4] 50 (0, 0)) :: R)) (m := q126.length) ⟨q126.length, 0, rfl, by omega, hq225, hE.pick _ ⟨rfl, rfl, rfl, rfl, rfl, trivial⟩, hS⟩ ?_
        clear hE hS a w hq225; rintro m233 a w ⟨rest229, k227, rfl, hd230, hq225, hE, hS⟩
        refine W.gen fun K237 hK237 => ?_
        rcases rest229 with _ | rest229
        · skip
          refine W.seq ?_
          refine W.region ?_
          refine WL.vS hS hE (runs_plain rfl) (Gives.p hE rfl) rfl ?_; clear hE a; intro a hE
          refine WL.nil ?_
          refine W.seq ?_
          refine W.condF hE rfl (decide_eq_false (by omega)) ?_
          subst hK237
          refine W.exit rfl ?_
          exact ⟨Option.some.inj hq225, hE.pick _ ⟨rfl, trivial⟩, hS⟩
        · have hlt231 : k227 < q126.length := by omega
          rw [Fishref2TimesOf.loop4] at hq225
          refine W.seq ?_
          refine W.region ?_
          refine WL.vS hS hE (runs_plain rfl) (Gives.p hE rfl) rfl ?_; clear hE a; intro a hE
          refine WL.nil ?_
          refine W.seq ?_
          refine W.condT hE rfl (decide_eq_true (by omega)) ?_
          refine W.skip ?_
          refine W.seq ?_
          refine W.block ?_
          refine W.seq ?_
          refine W.region ?_
          refine WL.vS hS hE (runs_plain rfl) (Gives.p hE rfl) rfl ?_; clear hE a; intro a hE
          obtain ⟨x238, hx239, hq225⟩ := bindS hq225
          obtain ⟨hi240, hlt241, hy242⟩ := gx_some hx239
          obtain ⟨vs243, hl244, hR245, hd246, hget247⟩ := h144.at hy242
          subst hR245
          refine WL.vS hS hE (runs_plain rfl) (Gives.idx hE ((((k227 : Nat) : Int)).toNat) rfl rfl sl22 hi240 (by have := hn146; omega) (hS.vecAok 0 rfl (by have := hn146; omega : (((k227 : Nat) : Int)).toNat < q126.length))) rfl ?_; clear hE a; intro a hE
          refine WL.vS hS hE (runs_plain rfl) (Gives.load1 hE rfl (fun w h => St.vecSees h 0 rfl ((((k227 : Nat) : Int)).toNat * 1) _ hget247) ty3) rfl ?_; clear hE a; intro a hE
          refine WL.vS hS hE (runs_plain rfl) (Gives.p hE rfl) rfl ?_; clear hE a; intro a hE
          refine WL.vS hS hE (runs_plain rfl) (Gives.p hE rfl) rfl ?_; clear hE a; intro a hE
          refine WL.nil ?_
          refine W.seq ?_
          obtain ⟨q249, hq248, hq225⟩ := bindS hq225
          refine W.cut (fun a w => ∃ (q252 : Bool), q252 = q249 ∧ Rep a 104 [(2, .pointer (some ⟨b51, 0, none⟩)), (9, .slice a128 q126.length c129), (80, .slice a128 q126.length c129), (81, .int .i64 ((q126.length : Nat) : Int)), (82, .int .i64 ((k227 : Nat) : Int)), (101, .bool q252)] ∧ St w s (vecC 3 1 a128 c129 q126.length cs145 :: pt b51 (.cells #[.slice a0_0 x0.Ready.length c0_0, .slice a0_1 x0.Last.length c0_1, .slice a0_2 x0.Due.length c0_2, .slice a0_3 x0.Arcs.length c0_3, .slice a0_4 x0.Choices.length c0_4] 50 (0, 0)) :: R)) ?_ ?_
          · refine W.gen fun K253 hK253 => ?_
            refine W.region ?_
            refine WL.vS hS hE (runs_plain rfl) (Gives.fld hE rfl fl50_1) rfl ?_; clear hE a; intro a hE
            refine WL.vS hS hE (runs_plain rfl) (Gives.loadB hE 1 rfl rfl rfl ty22) rfl ?_; clear hE a; intro a hE
            refine WL.vS hS hE (runs_plain rfl) (Gives.p hE rfl) rfl ?_; clear hE a; intro a hE
            obtain ⟨x254, hx255, hq248⟩ := bindS hq248
            obtain ⟨hi256, hlt257, hy258⟩ := gx_some hx255
            obtain ⟨cs259, hl260, hR261, hat262⟩ := h0_1.at hy258
            subst hR261
            refine WL.vS hS hE (runs_plain rfl) (Gives.idx hE (((k227 : Nat) : Int)).toNat rfl rfl sl22 hi256 hlt257 (h0_1.aok hlt257)) rfl ?_; clear hE a; intro a hE
            refine WL.vS hS hE (runs_plain rfl) (Gives.load1 hE rfl (fun w h => hat262 w _ h) ty3) rfl ?_; clear hE a; intro a hE
            refine WL.vS hS hE (runs_plain rfl) (Gives.p hE rfl) rfl ?_; clear hE a; intro a hE
            refine WL.vS hS hE (runs_plain rfl) (Gives.p hE rfl) rfl ?_; clear hE a; intro a hE
            rcases Bool.eq_false_or_eq_true (decide (x254 ≥ 0)) with hg263 | hg263
            · replace hq248 := iteT hg263 hq248
              refine WL.vS hS hE (runs_if hE rfl rfl rfl hg263) (Gives.p hE rfl) rfl ?_; clear hE a; intro a hE
              refine WL.vS hS hE (runs_if hE rfl rfl rfl hg263) (Gives.fld hE rfl fl50_1) rfl ?_; clear hE a; intro a hE
              refine WL.vS hS hE (runs_if hE rfl rfl rfl hg263) (Gives.loadB hE 1 rfl rfl rfl ty22) rfl ?_; clear hE a; intro a hE
              refine WL.vS hS hE (runs_if hE rfl rfl rfl hg263) (Gives.p hE rfl) rfl ?_; clear hE a; intro a hE
              obtain ⟨x264, hx265, hq248⟩ := bindS hq248
              obtain ⟨hi266, hlt267, hy268⟩ := gx_some hx265
              obtain ⟨cs269, hl270, hR271, hat272⟩ := h0_1.at hy268
              subst hR271
              refine WL.vS hS hE (runs_if hE rfl rfl rfl hg263) (Gives.idx hE (((k227 : Nat) : Int)).toNat rfl rfl sl22 hi266 hlt267 (h0_1.aok hlt267)) rfl ?_; clear hE a; intro a hE
              refine WL.vS hS hE (runs_if hE rfl rfl rfl hg263) (Gives.load1 hE rfl (fun w h => hat272 w _ h) ty3) rfl ?_; clear hE a; intro a hE
              refine WL.vS hS hE (runs_if hE rfl rfl rfl hg263) (Gives.p hE rfl) rfl ?_; clear hE a; intro a hE
              refine WL.vS hS hE (runs_plain rfl) (Gives.pickT hE rfl hg263 rfl) rfl ?_; clear hE a; intro a hE
              refine WL.nil ?_
              subst hK253
              exact ⟨decide (x238 > x264), Option.some.inj hq248, hE.pick _ ⟨rfl, rfl, rfl, rfl, rfl, rfl, trivial⟩, hS⟩
            · replace hq248 := iteF hg263 hq248
              refine WL.no hE (runs_not hE rfl rfl rfl (by rw [hg263]; decide)) rfl ?_; clear hE a; intro a hE
              refine WL.no hE (runs_not hE rfl rfl rfl (by rw [hg263]; decide)) rfl ?_; clear hE a; intro a hE
              refine WL.no hE (runs_not hE rfl rfl rfl (by rw [hg263]; decide)) rfl ?_; clear hE a; intro a hE
              refine WL.no hE (runs_not hE rfl rfl rfl (by rw [hg263]; decide)) rfl ?_; clear hE a; intro a hE
              refine WL.no hE (runs_not hE rfl rfl rfl (by rw [hg263]; decide)) rfl ?_; clear hE a; intro a hE
              refine WL.no hE (runs_not hE rfl rfl rfl (by rw [hg263]; decide)) rfl ?_; clear hE a; intro a hE
              refine WL.no hE (runs_not hE rfl rfl rfl (by rw [hg263]; decide)) rfl ?_; clear hE a; intro a hE
              refine WL.vS hS hE (runs_plain rfl) (Gives.pickF hE rfl hg263 rfl) rfl ?_; clear hE a; intro a hE
              refine WL.nil ?_
              subst hK253
              exact ⟨false, Option.some.inj hq248, hE.pick _ ⟨rfl, rfl, rfl, rfl, rfl, rfl, trivial⟩, hS⟩
          · clear hE hS a w; rintro a w ⟨q252, rfl, hE, hS⟩
            refine W.cond hE rfl (fun hc273 => ?_) (fun hc273 => ?_)
            · replace hq225 := iteT hc273 hq225
              refine W.seq ?_
              refine W.region ?_
              refine WL.vS hS hE (runs_plain rfl) (Gives.p hE rfl) rfl ?_; clear hE a; intro a hE
              refine WL.vS hS hE (runs_plain rfl) (Gives.p hE rfl) rfl ?_; clear hE a; intro a hE
              refine WL.nil ?_
              refine W.ret ?_
              subst hK237
              rw [← Option.some.inj hq225] at hr
              dsimp only at hr
              replace hS := hS.vecNil 3 1
              refine finG (fn := Try.f43) (rs := [.tmp 4, .tmp 5]) (vs := [_, _]) hE rfl ⟨rfl, rfl, trivial⟩ ?_
              obtain rfl := Option.some.inj hr
              replace hS := hS.dropAt 1
              replace hS := hS.dropAt 1
              exact ⟨none, 0, 0, [], rfl, (Ev.nil), (rfl), hS⟩
            · replace hq225 := iteF hc273 hq225
              refine W.skip ?_
              refine W.region ?_
              refine WL.vS hS hE (runs_plain rfl) (Gives.inc hE rfl (by omega)) rfl ?_; clear hE a; intro a hE
              refine WL.vS hS hE (runs_plain rfl) (Gives.p hE rfl) rfl ?_; clear hE a; intro a hE
              refine WL.nil ?_
              subst hK237
              exact ⟨rest229, Nat.lt_succ_self _, rest229, k227 + 1, rfl, (by omega), hq225, hE.pick _ ⟨rfl, rfl, rfl, rfl, rfl, trivial⟩, hS⟩
      · clear hE hS a w; rintro a w ⟨rfl, hE, hS⟩
        dsimp only at hr
        refine W.seq ?_
        refine W.region ?_
        refine WL.vS hS hE (runs_plain rfl) (Gives.p hE rfl) rfl ?_; clear hE a; intro a hE
        refine WL.vS hS hE (runs_plain rfl) (Gives.p hE rfl) rfl ?_; clear hE a; intro a hE
        refine WL.vS hS hE (runs_plain rfl) (Gives.p hE rfl) rfl ?_; clear hE a; intro a hE
        refine WL.nil ?_
        refine W.ret ?_
        refine finG (fn := Try.f43) (rs := [.tmp 4, .tmp 5]) (vs := [_, _]) hE rfl ⟨rfl, rfl, trivial⟩ ?_
        obtain rfl := Option.some.inj hr
        replace hS := hS.dropAt 1
        exact ⟨a128, c129, q126.length, cs145, rfl, h144, hn146, hS⟩
set_option maxHeartbeats 8000000 in
theorem Fishref2ForcedOf_ok {fu : Nat}  {w : World} {s : Sg} {R : List HP} {x0 : MendGraph} {a0_0 : Option Addr} {c0_0 : Nat} {a0_1 : Option Addr} {c0_1 : Nat} {a0_2 : Option Addr} {c0_2 : Nat} {a0_3 : Option Addr} {c0_3 : Nat} {a0_4 : Option Addr} {c0_4 : Nat} {x1 : List Int} {a1 : Option Addr} {c1 : Nat} (hS : St w s (R)) (h0_0 : Sl 1 (RI .i64) s a0_0 c0_0 x0.Ready) (h0_1 : Sl 1 (RI .i64) s a0_1 c0_1 x0.Last) (h0_2 : Sl 1 (RI .i64) s a0_2 c0_2 x0.Due) (h0_3 : Sl 3 RMendArc s a0_3 c0_3 x0.Arcs) (h0_4 : Sl 1 RMendChoice s a0_4 c0_4 x0.Choices) (h1 : Sl 1 (RI .i64) s a1 c1 x1) {r : (List Int) × Bool} (hr : Fishref2ForcedOf fu x0 x1 = some r) :
    Calls Try.prog 42 [.agg [.slice a0_0 x0.Ready.length c0_0, .slice a0_1 x0.Last.length c0_1, .slice a0_2 x0.Due.length c0_2, .slice a0_3 x0.Arcs.length c0_3, .slice a0_4 x0.Choices.length c0_4].toArray, .slice a1 x1.length c1].toArray w (fun e w => ∃ (a0 : Option Addr) (c0 n0 : Nat) (cs0 : List Value), e = .returned (.tuple #[.slice a0 n0 c0, .bool r.2]) ∧ Ev 1 (RI .i64) s cs0 r.1 ∧ r.1.length = n0 ∧ St w s (vecC 3 1 a0 c0 n0 cs0 :: R)) := by
  refine enter Try.func42 rfl rfl rfl fun a hE => ?_
  rw [Fishref2ForcedOf] at hr
  refine W.seq ?_
  refine W.region ?_
  refine WL.box hE hS (runs_plain rfl) rfl rfl rfl ?_; clear hE hS a w; intro b51 a w hE hS
  refine WL.vS hS hE (runs_plain rfl) (Gives.p hE rfl) rfl ?_; clear hE a; intro a hE
  refine WL.vS hS hE (runs_plain rfl) (Gives.p hE rfl) rfl ?_; clear hE a; intro a hE
  refine WL.nil ?_
  refine W.seq ?_
  refine W.region ?_
  refine WL.vS hS hE (runs_plain rfl) (Gives.p hE rfl) rfl ?_; clear hE a; intro a hE
  obtain ⟨q52, hq53, hr⟩ := bindS hr
  have hc_ := SlicesCloneLint_ok hS h1 hq53
  refine WL.fnq hE (hc_) (runs_plain rfl) bd67 rfl rfl rfl ?_
  clear hE hS hc_; rintro e w ⟨a54, c55, n56, cs57, rfl, h58, rfl, hS⟩; refine ⟨_, rfl, ?_⟩; clear a; intro a hE
  refine WL.vS hS hE (runs_plain rfl) (Gives.p hE rfl) rfl ?_; clear hE a; intro a hE
  refine WL.nil ?_
  refine W.seq ?_
  refine W.seq ?_
  refine W.region ?_
  refine WL.vS hS hE (runs_plain rfl) (Gives.loadBA hE 1 rfl rfl ty50) rfl ?_; clear hE a; intro a hE
  refine WL.vS hS hE (runs_plain rfl) (Gives.p hE rfl) rfl ?_; clear hE a; intro a hE
  obtain ⟨q60, hq61, hr⟩ := bindS hr
  have hF := hS.lendV RI.mono 0 rfl h58 rfl; clear hS; obtain ⟨t68, hle69, hS, hs70, bk71⟩ := hF
  have hc_ := Fishref2TimesOf_ok hS (Sl.mono RI.mono hle69 h0_0) (Sl.mono RI.mono hle69 h0_1) (Sl.mono RI.mono hle69 h0_2) (Sl.mono RMendArc.mono hle69 h0_3) (Sl.mono RMendChoice.mono hle69 h0_4) hs70 hq61
  refine WL.fnq hE (hc_) (runs_plain rfl) bd43 rfl rfl rfl ?_
  clear hE hS hc_; rintro e w ⟨a62, c63, n64, cs65, rfl, h66, rfl, hS⟩; refine ⟨_, rfl, ?_⟩; clear a; intro a hE
  replace hS := bk71 _ _ hS
  replace h66 := Ev.flat (s2 := s) (fun _ _ _ _ h => h) h66
  refine WL.vS hS hE (runs_plain rfl) (Gives.p hE rfl) rfl ?_; clear hE a; intro a hE
  refine WL.vS hS hE (runs_plain rfl) (Gives.p hE rfl) rfl ?_; clear hE a; intro a hE
  refine WL.vS hS hE (runs_plain rfl) (Gives.p hE rfl) rfl ?_; clear hE a; intro a hE
  refine WL.vS hS hE (runs_plain rfl) (Gives.p hE rfl) rfl ?_; clear hE a; intro a hE
  refine WL.vS hS hE (runs_plain rfl) (Gives.p hE rfl) rfl ?_; clear hE a; intro a hE
  refine WL.nil ?_
  refine W.seq ?_
  refine W.region ?_
  refine WL.vS hS hE (runs_plain rfl) (Gives.p hE rfl) rfl ?_; clear hE a; intro a hE
  refine WL.vS hS hE (runs_plain rfl) (Gives.p hE rfl) rfl ?_; clear hE a; intro a hE
  refine WL.nil ?_
  refine W.cond hE rfl (fun hc72 => ?_) (fun hc72 => ?_)
  · replace hr := iteT hc72 hr
    refine W.seq ?_
    refine W.region ?_
    refine WL.vS hS hE (runs_plain rfl) (Gives.p hE rfl) rfl ?_; clear hE a; intro a hE
    refine WL.vS hS hE (runs_plain rfl) (Gives.p hE rfl) rfl ?_; clear hE a; intro a hE
    refine WL.nil ?_
    refine W.ret ?_
    replace hS := hS.vecNil 3 1
    refine finG (fn := Try.f42) (rs := [.tmp 4, .tmp 5]) (vs := [_, _]) hE rfl ⟨rfl, rfl, trivial⟩ ?_
    obtain rfl := Option.some.inj hr
    replace hS := hS.dropAt 1
    replace hS := hS.dropAt 1
    replace hS := hS.dropAt 1
    exact ⟨none, 0, 0, [], rfl, (Ev.nil), (rfl), hS⟩
  · replace hr := iteF hc72 hr
    refine W.skip ?_
    refine W.seq ?_
    refine W.seq ?_
    refine W.region ?_
    refine WL.vS hS hE (runs_plain rfl) (Gives.p hE rfl) rfl ?_; clear hE a; intro a hE
    refine WL.nil ?_
    replace hS := hS.dropAt 1
    obtain ⟨q75, hq74, hr⟩ := bindS hr
    refine W.cut (fun a w => ∃ (q80 : Bool), ∃ (q81 : List Int), ∃ (cs85 : List Value), (.next (q80, q81)) = q75 ∧ Ev 1 (RI .i64) s cs85 q81 ∧ q81.length = q52.length ∧ Rep a 81 [(6, .slice a54 q52.length c55)] ∧ St w s (vecC 3 1 a54 c55 q52.length cs85 :: pt b51 (.cells #[.slice a0_0 x0.Ready.length c0_0, .slice a0_1 x0.Last.length c0_1, .slice a0_2 x0.Due.length c0_2, .slice a0_3 x0.Arcs.length c0_3, .slice a0_4 x0.Choices.length c0_4] 50 (0, 0)) :: R)) ?_ ?_
    · refine W.block ?_
      refine W.loop (fun m a w => ∃ (n76 : Nat), ∃ (q80 : Bool), ∃ (q81 : List Int), ∃ (cs85 : List Value), n76 = m ∧ Fishref2ForcedOf.loop1 x0 fu n76 q80 q81 = some q75 ∧ Ev 1 (RI .i64) s cs85 q81 ∧ q81.length = q52.length ∧ Rep a 81 [(2, .pointer (some ⟨b51, 0, none⟩)), (6, .slice a54 q52.length c55), (9, .bool q80)] ∧ St w s (vecC 3 1 a54 c55 q52.length cs85 :: pt b51 (.cells #[.slice a0_0 x0.Ready.length c0_0, .slice a0_1 x0.Last.length c0_1, .slice a0_2 x0.Due.length c0_2, .slice a0_3 x0.Arcs.length c0_3, .slice a0_4 x0.Choices.length c0_4] 50 (0, 0)) :: R)) (m := fu) ⟨fu, true, q52, cs57, rfl, hq74, h58, rfl, hE.pick _ ⟨rfl, rfl, rfl, trivial⟩, hS⟩ ?_
      clear hE hS a w hq74; rintro m77 a w ⟨n76, q80, q81, cs85, rfl, hq74, h84, hn86, hE, hS⟩
      refine W.gen fun K87 hK87 => ?_
      rcases n76 with _ | n76
      · rw [Fishref2ForcedOf.loop1] at hq74; exact absurd hq74 (by simp)
      rw [Fishref2ForcedOf.loop1] at hq74
      refine W.seq ?_
      refine W.seq ?_
      refine W.region ?_
      refine WL.vS hS hE (runs_plain rfl) (Gives.p hE rfl) rfl ?_; clear hE a; intro a hE
      refine WL.nil ?_
      refine W.cond hE rfl (fun hc88 => ?_) (fun hc88 => ?_)
      · replace hq74 := iteT hc88 hq74
        refine W.skip ?_
        refine W.block ?_
        refine W.seq ?_
        refine W.region ?_
        refine WL.vS hS hE (runs_plain rfl) (Gives.p hE rfl) rfl ?_; clear hE a; intro a hE
        refine WL.nil ?_
        refine W.seq ?_
        refine W.region ?_
        refine WL.vS hS hE (runs_plain rfl) (Gives.fld hE rfl fl50_4) rfl ?_; clear hE a; intro a hE
        refine WL.vS hS hE (runs_plain rfl) (Gives.loadB hE 1 rfl rfl rfl ty48) rfl ?_; clear hE a; intro a hE
        refine WL.vS hS hE (runs_plain rfl) (Gives.len hE rfl sl48) rfl ?_; clear hE a; intro a hE
        refine WL.vS hS hE (runs_plain rfl) (Gives.p hE rfl) rfl ?_; clear hE a; intro a hE
        refine WL.nil ?_
        obtain ⟨q90, hq89, hq74⟩ := bindS hq74
        refine W.cut (fun a w => ∃ (q100 : Bool), ∃ (q101 : List Int), ∃ (cs105 : List Value), (.next (q100, q101)) = q90 ∧ Ev 1 (RI .i64) s cs105 q101 ∧ q101.length = q52.length ∧ Rep a 81 [(2, .pointer (some ⟨b51, 0, none⟩)), (6, .slice a54 q52.length c55), (9, .bool q100)] ∧ St w s (vecC 3 1 a54 c55 q52.length cs105 :: pt b51 (.cells #[.slice a0_0 x0.Ready.length c0_0, .slice a0_1 x0.Last.length c0_1, .slice a0_2 x0.Due.length c0_2, .slice a0_3 x0.Arcs.length c0_3, .slice a0_4 x0.Choices.length c0_4] 50 (0, 0)) :: R)) ?_ ?_
        · refine W.block ?_
          refine W.loop (fun m a w => ∃ (rest93 : List MendChoice) (k91 : Nat), ∃ (q100 : Bool), ∃ (q101 : List Int), ∃ (cs105 : List Value), rest93.length = m ∧ x0.Choices.drop k91 = rest93 ∧ Fishref2ForcedOf.loop2 x0 fu rest93 k91 q100 q101 = some q90 ∧ Ev 1 (RI .i64) s cs105 q101 ∧ q101.length = q52.length ∧ Rep a 81 [(2, .pointer (some ⟨b51, 0, none⟩)), (6, .slice a54 q52.length c55), (9, .bool q100), (28, .slice a0_4 x0.Choices.length c0_4), (29, .int .i64 ((x0.Choices).length : Int)), (30, .int .i64 ((k91 : Nat) : Int))] ∧ St w s (vecC 3 1 a54 c55 q52.length cs105 :: pt b51 (.cells #[.slice a0_0 x0.Ready.length c0_0, .slice a0_1 x0.Last.length c0_1, .slice a0_2 x0.Due.length c0_2, .slice a0_3 x0.Arcs.length c0_3, .slice a0_4 x0.Choices.length c0_4] 50 (0, 0)) :: R)) (m := x0.Choices.length) ⟨x0.Choices, 0, false, q81, cs85, rfl, rfl, hq89, h84, hn86, hE.pick _ ⟨rfl, rfl, rfl, rfl, rfl, rfl, trivial⟩, hS⟩ ?_
          clear hE hS a w hq89; rintro m97 a w ⟨rest93, k91, q100, q101, cs105, rfl, hd94, hq89, h104, hn106, hE, hS⟩
          refine W.gen fun K107 hK107 => ?_
          rcases rest93 with _ | ⟨x92, rest93⟩
          · have hlt95 := drop_nil hd94
            refine W.seq ?_
            refine W.region ?_
            refine WL.vS hS hE (runs_plain rfl) (Gives.p hE rfl) rfl ?_; clear hE a; intro a hE
            refine WL.nil ?_
            refine W.seq ?_
            refine W.condF hE rfl (decide_eq_false (by omega)) ?_
            subst hK107
            refine W.exit rfl ?_
            exact ⟨q100, q101, cs105, Option.some.inj hq89, h104, hn106, hE.pick _ ⟨rfl, rfl, rfl, trivial⟩, hS⟩
          · obtain ⟨hlt95, hx96, hd94⟩ := drop_cons hd94
            rw [Fishref2ForcedOf.loop2] at hq89
            refine W.seq ?_
            refine W.region ?_
            refine WL.vS hS hE (runs_plain rfl) (Gives.p hE rfl) rfl ?_; clear hE a; intro a hE
            refine WL.nil ?_
            refine W.seq ?_
            refine W.condT hE rfl (decide_eq_true (by omega)) ?_
            refine W.skip ?_
            refine W.seq ?_
            refine W.block ?_
            refine W.seq ?_
            refine W.region ?_
            refine WL.vS hS hE (runs_plain rfl) (Gives.p hE rfl) rfl ?_; clear hE a; intro a hE
            obtain ⟨cs108, hl109, hR110, hat111⟩ := h0_4.at hx96
            obtain ⟨a112, c113, rfl, h114⟩ := hR110
            refine WL.vS hS hE (runs_plain rfl) (Gives.idx hE k91 rfl rfl sl48 rfl hlt95 (h0_4.aok hlt95)) rfl ?_; clear hE a; intro a hE
            refine WL.vS hS hE (runs_plain rfl) (Gives.loadA hE rfl (fun w h => hat111 w _ h) ty97) rfl ?_; clear hE a; intro a hE
            refine WL.alloc hE hS (runs_plain rfl) zr97 rfl ?_; clear hE hS a w; intro b115 a w hE hS
            refine WL.vS hS hE (runs_plain rfl) (Gives.p hE rfl) rfl ?_; clear hE a; intro a hE
            refine WL.storeI hE hS 0 rfl [.slice a112 x92.Ways.length c113] (runs_plain rfl) rfl rfl rfl ty97 rfl rfl rfl rfl ?_; clear hE hS a w; intro a w hE hS
            refine WL.nil ?_
            refine W.seq ?_
            refine W.seq ?_
            refine W.region ?_
            refine WL.vS hS hE (runs_plain rfl) (Gives.p hE rfl) rfl ?_; clear hE a; intro a hE
            refine WL.vS hS hE (runs_plain rfl) (Gives.p hE rfl) rfl ?_; clear hE a; intro a hE
            obtain ⟨x116, hx117, hq89⟩ := bindS hq89
            obtain ⟨hi118, hlt119, hy120⟩ := gx_some hx117
            obtain ⟨vs121, hl122, hR123, hd124, hget125⟩ := h104.at hy120
            subst hR123
            refine WL.vS hS hE (runs_plain rfl) (Gives.idx hE ((((k91 : Nat) : Int)).toNat) rfl rfl sl22 hi118 (by have := hn106; omega) (hS.vecAok 1 rfl (by have := hn106; omega : (((k91 : Nat) : Int)).toNat < q52.length))) rfl ?_; clear hE a; intro a hE
            refine WL.vS hS hE (runs_plain rfl) (Gives.load1 hE rfl (fun w h => St.vecSees h 1 rfl ((((k91 : Nat) : Int)).toNat * 1) _ hget125) ty3) rfl ?_; clear hE a; intro a hE
            refine WL.vS hS hE (runs_plain rfl) (Gives.p hE rfl) rfl ?_; clear hE a; intro a hE
            refine WL.nil ?_
            refine W.cond hE rfl (fun hc126 => ?_) (fun hc126 => ?_)
            · replace hq89 := iteT hc126 hq89
              refine W.exit rfl ?_
              refine W.region ?_
              refine WL.vS hS hE (runs_plain rfl) (Gives.inc hE rfl (by have := h0_4.small; omega)) rfl ?_; clear hE a; intro a hE
              refine WL.vS hS hE (runs_plain rfl) (Gives.p hE rfl) rfl ?_; clear hE a; intro a hE
              refine WL.nil ?_
              replace hS := hS.tail
              subst hK107
              exact ⟨rest93.length, Nat.lt_succ_self _, rest93, k91 + 1, q100, q101, cs105, rfl, hd94, hq89, h104, hn106, hE.pick _ ⟨rfl, rfl, rfl, rfl, rfl, rfl, trivial⟩, hS⟩
            · replace hq89 := iteF hc126 hq89
              refine W.skip ?_
              refine W.seq ?_
              refine W.region ?_
              replace hS := hS.vecNil 3 1
              refine WL.vS hS hE (runs_plain rfl) (Gives.p hE rfl) rfl ?_; clear hE a; intro a hE
              refine WL.nil ?_
              refine W.seq ?_
              refine W.seq ?_
              refine W.region ?_
              refine WL.vS hS hE (runs_plain rfl) (Gives.fld hE rfl fl97_0) rfl ?_; clear hE a; intro a hE
              refine WL.vS hS hE (runs_plain rfl) (Gives.loadB hE 1 rfl rfl rfl ty95) rfl ?_; clear hE a; intro a hE
              refine WL.vS hS hE (runs_plain rfl) (Gives.len hE rfl sl95) rfl ?_; clear hE a; intro a hE
              refine WL.vS hS hE (runs_plain rfl) (Gives.p hE rfl) rfl ?_; clear hE a; intro a hE
              refine WL.nil ?_
              obtain ⟨q129, hq128, hq89⟩ := bindS hq89
              refine W.cut (fun a w => ∃ (q139 : List Int), ∃ (q146 : List Int), ∃ (a140 : Option Addr), ∃ (c141 : Nat), ∃ (n143 : Nat), ∃ (cs144 : List Value), ∃ (cs150 : List Value), (q139, q146) = q129 ∧ Ev 1 (RI .i64) s cs144 q139 ∧ q139.length = n143 ∧ Ev 1 (RI .i64) s cs150 q146 ∧ q146.length = q52.length ∧ Rep a 81 [(2, .pointer (some ⟨b51, 0, none⟩)), (6, .slice a54 q52.length c55), (9, .bool q100), (10, .int .i64 ((k91 : Nat) : Int)), (12, .slice a140 n143 c141), (28, .slice a0_4 x0.Choices.length c0_4), (29, .int .i64 ((x0.Choices).length : Int)), (30, .int .i64 ((k91 : Nat) : Int))] ∧ St w s (vecC 3 1 a140 c141 n143 cs144 :: pt b115 (.cells #[.slice a112 x92.Ways.length c113] 97 (0, 0)) :: vecC 3 1 a54 c55 q52.length cs150 :: pt b51 (.cells #[.slice a0_0 x0.Ready.length c0_0, .slice a0_1 x0.Last.length c0_1, .slice a0_2 x0.Due.length c0_2, .slice a0_3 x0.Arcs.length c0_3, .slice a0_4 x0.Choices.length c0_4] 50 (0, 0)) :: R)) ?_ ?_
              · refine W.block ?_
                refine W.loop (fun m a w => ∃ (rest132 : List (List MendArc)) (k130 : Nat), ∃ (q139 : List Int), ∃ (q146 : List Int), ∃ (a140 : Option Addr), ∃ (c141 : Nat), ∃ (n143 : Nat), ∃ (cs144 : List Value), ∃ (cs150 : List Value), rest132.length = m ∧ x92.Ways.drop k130 = rest132 ∧ Fishref2ForcedOf.loop3 x0 fu k91 rest132 k130 q139 q146 = some q129 ∧ Ev 1 (RI .i64) s cs144 q139 ∧ q139.length = n143 ∧ Ev 1 (RI .i64) s cs150 q146 ∧ q146.length = q52.length ∧ Rep a 81 [(2, .pointer (some ⟨b51, 0, none⟩)), (6, .slice a54 q52.length c55), (9, .bool q100), (10, .int .i64 ((k91 : Nat) : Int)), (12, .slice a140 n143 c141), (28, .slice a0_4 x0.Choices.length c0_4), (29, .int .i64 ((x0.Choices).length : Int)), (30, .int .i64 ((k91 : Nat) : Int)), (42, .int .i64 ((x92.Ways).length : Int)), (43, .int .i64 ((k130 : Nat) : Int))] ∧ St w s (vecC 3 1 a140 c141 n143 cs144 :: pt b115 (.cells #[.slice a112 x92.Ways.length c113] 97 (0, 0)) :: vecC 3 1 a54 c55 q52.length cs150 :: pt b51 (.cells #[.slice a0_0 x0.Ready.length c0_0, .slice a0_1 x0.Last.length c0_1, .slice a0_2 x0.Due.length c0_2, .slice a0_3 x0.Arcs.length c0_3, .slice a0_4 x0.Choices.length c0_4] 50 (0, 0)) :: R)) (m := x92.Ways.length) ⟨x92.Ways, 0, [], q101, none, 0, 0, [], cs105, rfl, rfl, hq128, (Ev.nil), (rfl), h104, hn106, hE.pick _ ⟨rfl, rfl, rfl, rfl, rfl, rfl, rfl, rfl, rfl, rfl, trivial⟩, hS⟩ ?_
                clear hE hS a w hq128; rintro m136 a w ⟨rest132, k130, q139, q146, a140, c141, n143, cs144, cs150, rfl, hd133, hq128, h142, rfl, h149, hn151, hE, hS⟩
                refine W.gen fun K152 hK152 => ?_
                rcases rest132 with _ | ⟨x131, rest132⟩
                · have hlt134 := drop_nil hd133
                  refine W.seq ?_
                  refine W.region ?_
                  refine WL.vS hS hE (runs_plain rfl) (Gives.p hE rfl) rfl ?_; clear hE a; intro a hE
                  refine WL.nil ?_
                  refine W.seq ?_
                  refine W.condF hE rfl (decide_eq_false (by omega)) ?_
                  subst hK152
                  refine W.exit rfl ?_
                  exact ⟨q139, q146, a140, c141, q139.length, cs144, cs150, Option.some.inj hq128, h142, rfl, h149, hn151, hE.pick _ ⟨rfl, rfl, rfl, rfl, rfl, rfl, rfl, rfl, trivial⟩, hS⟩
                · obtain ⟨hlt134, hx135, hd133⟩ := drop_cons hd133
                  rw [Fishref2ForcedOf.loop3] at hq128
                  refine W.seq ?_
                  refine W.region ?_
                  refine WL.vS hS hE (runs_plain rfl) (Gives.p hE rfl) rfl ?_; clear hE a; intro a hE
                  refine WL.nil ?_
                  refine W.seq ?_
                  refine W.condT hE rfl (decide_eq_true (by omega)) ?_
                  refine W.skip ?_
                  refine W.seq ?_
                  refine W.block ?_
                  refine W.seq ?_
                  refine W.region ?_
                  refine WL.vS hS hE (runs_plain rfl) (Gives.p hE rfl) rfl ?_; clear hE a; intro a hE
                  refine WL.vS hS hE (runs_plain rfl) (Gives.p hE rfl) rfl ?_; clear hE a; intro a hE
                  refine WL.nil ?_
                  refine W.seq ?_
                  refine W.region ?_
                  refine WL.vS hS hE (runs_plain rfl) (Gives.p hE rfl) rfl ?_; clear hE a; intro a hE
                  refine WL.vS hS hE (runs_plain rfl) (Gives.p hE rfl) rfl ?_; clear hE a; intro a hE
                  refine WL.vS hS hE (runs_plain rfl) (Gives.p hE rfl) rfl ?_; clear hE a; intro a hE
                  refine WL.vS hS hE (runs_plain rfl) (Gives.inc hE rfl (by have := h114.small; omega)) rfl ?_; clear hE a; intro a hE
                  obtain ⟨_, hx154, hq128⟩ := bindS hq128
                  obtain ⟨h155, h156⟩ := ix_some hx154
                  refine WL.vS hS hE (runs_plain rfl) (Gives.idx hE ((((k91 : Nat) : Int)).toNat) rfl rfl sl22 h155 (by have := hn151; omega) (hS.vecAok 2 rfl (by have := hn151; omega : (((k91 : Nat) : Int)).toNat < q52.length))) rfl ?_; clear hE a; intro a hE
                  obtain ⟨x158, hx159, hq128⟩ := bindS hq128
                  refine WL.setD hE hS 2 rfl (runs_plain rfl) rfl rfl (vs := [.int .i64 ((k130 + 1 : Nat) : Int)]) rfl ty3 rfl rfl rfl h149 hn151 (sx_some hx159).1 hx159 rfl rfl ?_; clear hE hS a w; intro cs160 a w h161 hn162 hE hS
                  refine WL.nil ?_
                  refine W.seq ?_
                  refine W.region ?_
                  refine WL.vS hS hE (runs_plain rfl) (Gives.loadBA hE 3 rfl rfl ty50) rfl ?_; clear hE a; intro a hE
                  refine WL.vS hS hE (runs_plain rfl) (Gives.p hE rfl) rfl ?_; clear hE a; intro a hE
                  obtain ⟨q163, hq164, hq128⟩ := bindS hq128
                  have hF := hS.lendV RI.mono 2 rfl h161 hn162; clear hS; obtain ⟨t171, hle172, hS, hs173, bk174⟩ := hF
                  have hc_ := (by have hc_ := Fishref2TimesOf_ok hS (Sl.mono RI.mono hle172 h0_0) (Sl.mono RI.mono hle172 h0_1) (Sl.mono RI.mono hle172 h0_2) (Sl.mono RMendArc.mono hle172 h0_3) (Sl.mono RMendChoice.mono hle172 h0_4) hs173 hq164; rw [hn162] at hc_; exact hc_)
                  refine WL.fnq hE (hc_) (runs_plain rfl) bd43 rfl rfl rfl ?_
                  clear hE hS hc_; rintro e w ⟨a165, c166, n167, cs168, rfl, h169, rfl, hS⟩; refine ⟨_, rfl, ?_⟩; clear a; intro a hE
                  replace hS := bk174 _ _ hS
                  replace h169 := Ev.flat (s2 := s) (fun _ _ _ _ h => h) h169
                  refine WL.vS hS hE (runs_plain rfl) (Gives.p hE rfl) rfl ?_; clear hE a; intro a hE
                  refine WL.vS hS hE (runs_plain rfl) (Gives.p hE rfl) rfl ?_; clear hE a; intro a hE
                  refine WL.vS hS hE (runs_plain rfl) (Gives.p hE rfl) rfl ?_; clear hE a; intro a hE
                  refine WL.vS hS hE (runs_plain rfl) (Gives.p hE rfl) rfl ?_; clear hE a; intro a hE
                  refine WL.vS hS hE (runs_plain rfl) (Gives.p hE rfl) rfl ?_; clear hE a; intro a hE
                  refine WL.nil ?_
                  refine W.seq ?_
                  refine W.region ?_
                  refine WL.vS hS hE (runs_plain rfl) (Gives.p hE rfl) rfl ?_; clear hE a; intro a hE
                  refine WL.nil ?_
                  obtain ⟨q176, hq175, hq128⟩ := bindS hq128
                  refine W.cut (fun a w => ∃ (q179 : List Int), ∃ (a180 : Option Addr), ∃ (c181 : Nat), ∃ (n183 : Nat), ∃ (cs184 : List Value), q179 = q176 ∧ Ev 1 (RI .i64) s cs184 q179 ∧ q179.length = n183 ∧ Rep a 81 [(2, .pointer (some ⟨b51, 0, none⟩)), (6, .slice a54 q52.length c55), (9, .bool q100), (10, .int .i64 ((k91 : Nat) : Int)), (12, .slice a180 n183 c181), (28, .slice a0_4 x0.Choices.length c0_4), (29, .int .i64 ((x0.Choices).length : Int)), (30, .int .i64 ((k91 : Nat) : Int)), (42, .int .i64 ((x92.Ways).length : Int)), (43, .int .i64 ((k130 : Nat) : Int))] ∧ St w s (vecC 3 1 a54 c55 q52.length cs160 :: vecC 3 1 a180 c181 n183 cs184 :: pt b115 (.cells #[.slice a112 x92.Ways.length c113] 97 (0, 0)) :: pt b51 (.cells #[.slice a0_0 x0.Ready.length c0_0, .slice a0_1 x0.Last.length c0_1, .slice a0_2 x0.Due.length c0_2, .slice a0_3 x0.Arcs.length c0_3, .slice a0_4 x0.Choices.length c0_4] 50 (0, 0)) :: R)) ?_ ?_
                  · refine W.gen fun K186 hK186 => ?_
                    refine W.cond hE rfl (fun hc187 => ?_) (fun hc187 => ?_)
                    · replace hq175 := iteT hc187 hq175
                      refine W.region ?_
                      refine WL.vS hS hE (runs_plain rfl) (Gives.p hE rfl) rfl ?_; clear hE a; intro a hE
                      refine WL.vS hS hE (runs_plain rfl) (Gives.p hE rfl) rfl ?_; clear hE a; intro a hE
                      refine WL.vS hS hE (runs_plain rfl) (Gives.inc hE rfl (by have := h114.small; omega)) rfl ?_; clear hE a; intro a hE
                      refine WL.lit hE hS (e := 3) (es := 1) (vs := [(0, .int .i64 ((k130 + 1 : Nat) : Int))]) (cs := [.int .i64 ((k130 + 1 : Nat) : Int)]) (runs_plain rfl) rfl (by kernel_rfl) rfl ?_; clear hE hS a w; intro b188 a w hE hS
                      obtain ⟨x189, hx190, hq175⟩ := bindS hq175
                      refine WL.appD hE hS 2 (m := 1) (runs_plain rfl) rfl rfl rfl ap22 rfl h142 rfl (xs := [((k130 + 1 : Nat) : Int)]) (Ev.cons (c1 := [.int .i64 ((k130 + 1 : Nat) : Int)]) rfl rfl (Ev.nil)) rfl rfl hx190 rfl ?_; clear hE hS a w; intro a191 c192 cs193 a w h194 hE hS
                      refine WL.vS hS hE (runs_plain rfl) (Gives.p hE rfl) rfl ?_; clear hE a; intro a hE
                      refine WL.nil ?_
                      replace hS := hS.dropAt 1
                      subst hK186
                      exact ⟨x189, a191, c192, x189.length, cs193, Option.some.inj hq175, h194, (rfl), hE.pick _ ⟨rfl, rfl, rfl, rfl, rfl, rfl, rfl, rfl, rfl, rfl, trivial⟩, hS⟩
                    · replace hq175 := iteF hc187 hq175
                      refine W.skip ?_
                      replace hS := hS.dropAt 1
                      subst hK186
                      exact ⟨q139, a140, c141, q139.length, cs144, Option.some.inj hq175, h142, rfl, hE.pick _ ⟨rfl, rfl, rfl, rfl, rfl, rfl, rfl, rfl, rfl, rfl, trivial⟩, hS⟩
                  · clear hE hS a w; rintro a w ⟨q179, a180, c181, n183, cs184, rfl, h182, rfl, hE, hS⟩
                    refine W.region ?_
                    refine WL.vS hS hE (runs_plain rfl) (Gives.inc hE rfl (by have := h114.small; omega)) rfl ?_; clear hE a; intro a hE
                    refine WL.vS hS hE (runs_plain rfl) (Gives.p hE rfl) rfl ?_; clear hE a; intro a hE
                    refine WL.nil ?_
                    replace hS := hS.front 3 rfl
                    replace hS := hS.front 1 rfl
                    replace hS := hS.front 3 rfl
                    replace hS := hS.front 3 rfl
                    subst hK152
                    exact ⟨rest132.length, Nat.lt_succ_self _, rest132, k130 + 1, q179, x158, a180, c181, q179.length, cs184, cs160, rfl, hd133, hq128, h182, rfl, h161, hn162, hE.pick _ ⟨rfl, rfl, rfl, rfl, rfl, rfl, rfl, rfl, rfl, rfl, trivial⟩, hS⟩
              · clear hE hS a w; rintro a w ⟨q139, q146, a140, c141, n143, cs144, cs150, rfl, h142, rfl, h149, hn151, hE, hS⟩
                dsimp only at hq89
                refine W.seq ?_
                refine W.region ?_
                refine WL.vS hS hE (runs_plain rfl) (Gives.p hE rfl) rfl ?_; clear hE a; intro a hE
                refine WL.vS hS hE (runs_plain rfl) (Gives.p hE rfl) rfl ?_; clear hE a; intro a hE
                obtain ⟨_, hx196, hq89⟩ := bindS hq89
                obtain ⟨h197, h198⟩ := ix_some hx196
                refine WL.vS hS hE (runs_plain rfl) (Gives.idx hE ((((k91 : Nat) : Int)).toNat) rfl rfl sl22 h197 (by have := hn151; omega) (hS.vecAok 2 rfl (by have := hn151; omega : (((k91 : Nat) : Int)).toNat < q52.length))) rfl ?_; clear hE a; intro a hE
                obtain ⟨x200, hx201, hq89⟩ := bindS hq89
                refine WL.setD hE hS 2 rfl (runs_plain rfl) rfl rfl (vs := [.int .i64 0]) rfl ty3 rfl rfl rfl h149 hn151 (sx_some hx201).1 hx201 rfl rfl ?_; clear hE hS a w; intro cs202 a w h203 hn204 hE hS
                refine WL.nil ?_
                refine W.seq ?_
                refine W.seq ?_
                refine W.region ?_
                refine WL.vS hS hE (runs_plain rfl) (Gives.p hE rfl) rfl ?_; clear hE a; intro a hE
                refine WL.vS hS hE (runs_plain rfl) (Gives.len hE rfl sl22) rfl ?_; clear hE a; intro a hE
                refine WL.vS hS hE (runs_plain rfl) (Gives.p hE rfl) rfl ?_; clear hE a; intro a hE
                refine WL.nil ?_
                refine W.cond hE rfl (fun hc205 => ?_) (fun hc205 => ?_)
                · replace hq89 := iteT hc205 hq89
                  refine W.seq ?_
                  refine W.region ?_
                  refine WL.vS hS hE (runs_plain rfl) (Gives.p hE rfl) rfl ?_; clear hE a; intro a hE
                  refine WL.vS hS hE (runs_plain rfl) (Gives.p hE rfl) rfl ?_; clear hE a; intro a hE
                  refine WL.nil ?_
                  refine W.ret ?_
                  subst hK107
                  subst hK87
                  rw [← Option.some.inj hq89] at hq74
                  dsimp only at hq74
                  rw [← Option.some.inj hq74] at hr
                  dsimp only at hr
                  replace hS := hS.vecNil 3 1
                  refine finG (fn := Try.f42) (rs := [.tmp 4, .tmp 5]) (vs := [_, _]) hE rfl ⟨rfl, rfl, trivial⟩ ?_
                  obtain rfl := Option.some.inj hr
                  replace hS := hS.dropAt 1
                  replace hS := hS.dropAt 1
                  replace hS := hS.dropAt 1
                  replace hS := hS.dropAt 1
                  exact ⟨none, 0, 0, [], rfl, (Ev.nil), (rfl), hS⟩
                · replace hq89 := iteF hc205 hq89
                  refine W.skip ?_
                  refine W.seq ?_
                  refine W.region ?_
                  refine WL.vS hS hE (runs_plain rfl) (Gives.p hE rfl) rfl ?_; clear hE a; intro a hE
                  refine WL.vS hS hE (runs_plain rfl) (Gives.len hE rfl sl22) rfl ?_; clear hE a; intro a hE
                  refine WL.vS hS hE (runs_plain rfl) (Gives.p hE rfl) rfl ?_; clear hE a; intro a hE
                  refine WL.nil ?_
                  refine W.cond hE rfl (fun hc207 => ?_) (fun hc207 => ?_)
                  · replace hq89 := iteT hc207 hq89
                    refine W.seq ?_
                    refine W.region ?_
                    refine WL.vS hS hE (runs_plain rfl) (Gives.p hE rfl) rfl ?_; clear hE a; intro a hE
                    refine WL.vS hS hE (runs_plain rfl) (Gives.p hE rfl) rfl ?_; clear hE a; intro a hE
                    refine WL.vS hS hE (runs_plain rfl) (Gives.p hE rfl) rfl ?_; clear hE a; intro a hE
                    obtain ⟨x208, hx209, hq89⟩ := bindS hq89
                    obtain ⟨hi210, hlt211, hy212⟩ := gx_some hx209
                    obtain ⟨vs213, hl214, hR215, hd216, hget217⟩ := h142.at hy212
                    subst hR215
                    refine WL.vS hS hE (runs_plain rfl) (Gives.idx hE (((0 : Int)).toNat) rfl rfl sl22 hi210 (by omega) (hS.vecAok 0 rfl (by omega : ((0 : Int)).toNat < q139.length))) rfl ?_; clear hE a; intro a hE
                    refine WL.vS hS hE (runs_plain rfl) (Gives.load1 hE rfl (fun w h => St.vecSees h 0 rfl (((0 : Int)).toNat * 1) _ hget217) ty3) rfl ?_; clear hE a; intro a hE
                    obtain ⟨_, hx219, hq89⟩ := bindS hq89
                    obtain ⟨h220, h221⟩ := ix_some hx219
                    refine WL.vS hS hE (runs_plain rfl) (Gives.idx hE ((((k91 : Nat) : Int)).toNat) rfl rfl sl22 h220 (by have := hn204; omega) (hS.vecAok 2 rfl (by have := hn204; omega : (((k91 : Nat) : Int)).toNat < q52.length))) rfl ?_; clear hE a; intro a hE
                    obtain ⟨x223, hx224, hq89⟩ := bindS hq89
                    refine WL.setD hE hS 2 rfl (runs_plain rfl) rfl rfl (vs := [.int .i64 x208]) rfl ty3 rfl rfl rfl h203 hn204 (sx_some hx224).1 hx224 rfl rfl ?_; clear hE hS a w; intro cs225 a w h226 hn227 hE hS
                    refine WL.vS hS hE (runs_plain rfl) (Gives.p hE rfl) rfl ?_; clear hE a; intro a hE
                    refine WL.nil ?_
                    subst hK107
                    refine W.exit rfl ?_
                    replace hS := hS.tail
                    replace hS := hS.tail
                    exact ⟨true, x223, cs225, Option.some.inj hq89, h226, hn227, hE.pick _ ⟨rfl, rfl, rfl, trivial⟩, hS⟩
                  · replace hq89 := iteF hc207 hq89
                    refine W.skip ?_
                    refine W.region ?_
                    refine WL.vS hS hE (runs_plain rfl) (Gives.inc hE rfl (by have := h0_4.small; omega)) rfl ?_; clear hE a; intro a hE
                    refine WL.vS hS hE (runs_plain rfl) (Gives.p hE rfl) rfl ?_; clear hE a; intro a hE
                    refine WL.nil ?_
                    replace hS := hS.tail
                    replace hS := hS.tail
                    subst hK107
                    exact ⟨rest93.length, Nat.lt_succ_self _, rest93, k91 + 1, q100, x200, cs202, rfl, hd94, hq89, h203, hn204, hE.pick _ ⟨rfl, rfl, rfl, rfl, rfl, rfl, trivial⟩, hS⟩
        · clear hE hS a w; rintro a w ⟨q100, q101, cs105, rfl, h104, hn106, hE, hS⟩
          dsimp only at hq74
          subst hK87
          exact ⟨n76, Nat.lt_succ_self _, n76, q100, q101, cs105, rfl, hq74, h104, hn106, hE.pick _ ⟨rfl, rfl, rfl, trivial⟩, hS⟩
      · replace hq74 := iteF hc88 hq74
        subst hK87
        refine W.exit rfl ?_
        exact ⟨q80, q81, cs85, Option.some.inj hq74, h84, hn86, hE.pick _ ⟨rfl, trivial⟩, hS⟩
    · clear hE hS a w; rintro a w ⟨q80, q81, cs85, rfl, h84, hn86, hE, hS⟩
      dsimp only at hr
      refine W.seq ?_
      refine W.region ?_
      refine WL.vS hS hE (runs_plain rfl) (Gives.p hE rfl) rfl ?_; clear hE a; intro a hE
      refine WL.vS hS hE (runs_plain rfl) (Gives.p hE rfl) rfl ?_; clear hE a; intro a hE
      refine WL.vS hS hE (runs_plain rfl) (Gives.p hE rfl) rfl ?_; clear hE a; intro a hE
      refine WL.nil ?_
      refine W.ret ?_
      refine finG (fn := Try.f42) (rs := [.tmp 4, .tmp 5]) (vs := [_, _]) hE rfl ⟨rfl, rfl, trivial⟩ ?_
      obtain rfl := Option.some.inj hr
      replace hS := hS.dropAt 1
      exact ⟨a54, c55, q52.length, cs85, rfl, h84, hn86, hS⟩
set_option maxHeartbeats 8000000 in
theorem Fishref2DelayOf_ok  {w : World} {s : Sg} {R : List HP} {x0 : MendGraph} {a0_0 : Option Addr} {c0_0 : Nat} {a0_1 : Option Addr} {c0_1 : Nat} {a0_2 : Option Addr} {c0_2 : Nat} {a0_3 : Option Addr} {c0_3 : Nat} {a0_4 : Option Addr} {c0_4 : Nat} {x1 : List Int} {a1 : Option Addr} {c1 : Nat} (hS : St w s (R)) (_h0_0 : Sl 1 (RI .i64) s a0_0 c0_0 x0.Ready) (_h0_1 : Sl 1 (RI .i64) s a0_1 c0_1 x0.Last) (h0_2 : Sl 1 (RI .i64) s a0_2 c0_2 x0.Due) (_h0_3 : Sl 3 RMendArc s a0_3 c0_3 x0.Arcs) (_h0_4 : Sl 1 RMendChoice s a0_4 c0_4 x0.Choices) (h1 : Sl 1 (RI .i64) s a1 c1 x1) {r : Int} (hr : Fishref2DelayOf x0 x1 = some r) :
    Calls Try.prog 44 [.agg [.slice a0_0 x0.Ready.length c0_0, .slice a0_1 x0.Last.length c0_1, .slice a0_2 x0.Due.length c0_2, .slice a0_3 x0.Arcs.length c0_3, .slice a0_4 x0.Choices.length c0_4].toArray, .slice a1 x1.length c1].toArray w (fun e w => e = .returned (.int .i64 r) ∧ St w s (R)) := by
  refine enter Try.func44 rfl rfl rfl fun a hE => ?_
  rw [Fishref2DelayOf] at hr
  refine W.seq ?_
  refine W.region ?_
  refine WL.box hE hS (runs_plain rfl) rfl rfl rfl ?_; clear hE hS a w; intro b51 a w hE hS
  refine WL.vS hS hE (runs_plain rfl) (Gives.p hE rfl) rfl ?_; clear hE a; intro a hE
  refine WL.nil ?_
  refine W.seq ?_
  refine W.region ?_
  refine WL.vS hS hE (runs_plain rfl) (Gives.p hE rfl) rfl ?_; clear hE a; intro a hE
  refine WL.nil ?_
  refine W.seq ?_
  refine W.seq ?_
  refine W.region ?_
  refine WL.vS hS hE (runs_plain rfl) (Gives.p hE rfl) rfl ?_; clear hE a; intro a hE
  refine WL.vS hS hE (runs_plain rfl) (Gives.len hE rfl sl22) rfl ?_; clear hE a; intro a hE
  refine WL.vS hS hE (runs_plain rfl) (Gives.p hE rfl) rfl ?_; clear hE a; intro a hE
  refine WL.nil ?_
  obtain ⟨q53, hq52, hr⟩ := bindS hr
  refine W.cut (fun a w => ∃ (q63 : Int), q63 = q53 ∧ Rep a 33 [(5, .int .i64 q63)] ∧ St w s (pt b51 (.cells #[.slice a0_0 x0.Ready.length c0_0, .slice a0_1 x0.Last.length c0_1, .slice a0_2 x0.Due.length c0_2, .slice a0_3 x0.Arcs.length c0_3, .slice a0_4 x0.Choices.length c0_4] 50 (0, 0)) :: R)) ?_ ?_
  · refine W.block ?_
    refine W.loop (fun m a w => ∃ (rest56 : List Int) (k54 : Nat), ∃ (q63 : Int), rest56.length = m ∧ x1.drop k54 = rest56 ∧ Fishref2DelayOf.loop1 x0 rest56 k54 q63 = some q53 ∧ Rep a 33 [(2, .pointer (some ⟨b51, 0, none⟩)), (5, .int .i64 q63), (8, .slice a1 x1.length c1), (9, .int .i64 ((x1).length : Int)), (10, .int .i64 ((k54 : Nat) : Int))] ∧ St w s (pt b51 (.cells #[.slice a0_0 x0.Ready.length c0_0, .slice a0_1 x0.Last.length c0_1, .slice a0_2 x0.Due.length c0_2, .slice a0_3 x0.Arcs.length c0_3, .slice a0_4 x0.Choices.length c0_4] 50 (0, 0)) :: R)) (m := x1.length) ⟨x1, 0, 0, rfl, rfl, hq52, hE.pick _ ⟨rfl, rfl, rfl, rfl, rfl, trivial⟩, hS⟩ ?_
    clear hE hS a w hq52; rintro m60 a w ⟨rest56, k54, q63, rfl, hd57, hq52, hE, hS⟩
    refine W.gen fun K64 hK64 => ?_
    rcases rest56 with _ | ⟨x55, rest56⟩
    · have hlt58 := drop_nil hd57
      refine W.seq ?_
      refine W.region ?_
      refine WL.vS hS hE (runs_plain rfl) (Gives.p hE rfl) rfl ?_; clear hE a; intro a hE
      refine WL.nil ?_
      refine W.seq ?_
      refine W.condF hE rfl (decide_eq_false (by omega)) ?_
      subst hK64
      refine W.exit rfl ?_
      exact ⟨q63, Option.some.inj hq52, hE.pick _ ⟨rfl, trivial⟩, hS⟩
    · obtain ⟨hlt58, hx59, hd57⟩ := drop_cons hd57
      rw [Fishref2DelayOf.loop1] at hq52
      refine W.seq ?_
      refine W.region ?_
      refine WL.vS hS hE (runs_plain rfl) (Gives.p hE rfl) rfl ?_; clear hE a; intro a hE
      refine WL.nil ?_
      refine W.seq ?_
      refine W.condT hE rfl (decide_eq_true (by omega)) ?_
      refine W.skip ?_
      refine W.seq ?_
      refine W.block ?_
      refine W.seq ?_
      refine W.region ?_
      refine WL.vS hS hE (runs_plain rfl) (Gives.p hE rfl) rfl ?_; clear hE a; intro a hE
      obtain ⟨cs65, hl66, hR67, hat68⟩ := h1.at hx59
      subst hR67
      refine WL.vS hS hE (runs_plain rfl) (Gives.idx hE k54 rfl rfl sl22 rfl hlt58 (h1.aok hlt58)) rfl ?_; clear hE a; intro a hE
      refine WL.vS hS hE (runs_plain rfl) (Gives.load1 hE rfl (fun w h => hat68 w _ h) ty3) rfl ?_; clear hE a; intro a hE
      refine WL.vS hS hE (runs_plain rfl) (Gives.p hE rfl) rfl ?_; clear hE a; intro a hE
      refine WL.vS hS hE (runs_plain rfl) (Gives.p hE rfl) rfl ?_; clear hE a; intro a hE
      refine WL.nil ?_
      refine W.seq ?_
      refine W.region ?_
      refine WL.vS hS hE (runs_plain rfl) (Gives.fld hE rfl fl50_2) rfl ?_; clear hE a; intro a hE
      refine WL.vS hS hE (runs_plain rfl) (Gives.loadB hE 0 rfl rfl rfl ty22) rfl ?_; clear hE a; intro a hE
      refine WL.vS hS hE (runs_plain rfl) (Gives.p hE rfl) rfl ?_; clear hE a; intro a hE
      obtain ⟨x69, hx70, hq52⟩ := bindS hq52
      obtain ⟨hi71, hlt72, hy73⟩ := gx_some hx70
      obtain ⟨cs74, hl75, hR76, hat77⟩ := h0_2.at hy73
      subst hR76
      refine WL.vS hS hE (runs_plain rfl) (Gives.idx hE (((k54 : Nat) : Int)).toNat rfl rfl sl22 hi71 hlt72 (h0_2.aok hlt72)) rfl ?_; clear hE a; intro a hE
      refine WL.vS hS hE (runs_plain rfl) (Gives.load1 hE rfl (fun w h => hat77 w _ h) ty3) rfl ?_; clear hE a; intro a hE
      refine WL.vS hS hE (runs_plain rfl) (Gives.p hE rfl) rfl ?_; clear hE a; intro a hE
      refine WL.nil ?_
      obtain ⟨q79, hq78, hq52⟩ := bindS hq52
      refine W.cut (fun a w => ∃ (q82 : Int), q82 = q79 ∧ Rep a 33 [(2, .pointer (some ⟨b51, 0, none⟩)), (5, .int .i64 q82), (8, .slice a1 x1.length c1), (9, .int .i64 ((x1).length : Int)), (10, .int .i64 ((k54 : Nat) : Int))] ∧ St w s (pt b51 (.cells #[.slice a0_0 x0.Ready.length c0_0, .slice a0_1 x0.Last.length c0_1, .slice a0_2 x0.Due.length c0_2, .slice a0_3 x0.Arcs.length c0_3, .slice a0_4 x0.Choices.length c0_4] 50 (0, 0)) :: R)) ?_ ?_
      · refine W.gen fun K83 hK83 => ?_
        refine W.cond hE rfl (fun hc84 => ?_) (fun hc84 => ?_)
        · replace hq78 := iteT hc84 hq78
          refine W.region ?_
          refine WL.vS hS hE (runs_plain rfl) (Gives.p hE rfl) rfl ?_; clear hE a; intro a hE
          refine WL.vS hS hE (runs_plain rfl) (Gives.p hE rfl) rfl ?_; clear hE a; intro a hE
          refine WL.vS hS hE (runs_plain rfl) (Gives.fld hE rfl fl50_2) rfl ?_; clear hE a; intro a hE
          refine WL.vS hS hE (runs_plain rfl) (Gives.loadB hE 0 rfl rfl rfl ty22) rfl ?_; clear hE a; intro a hE
          refine WL.vS hS hE (runs_plain rfl) (Gives.p hE rfl) rfl ?_; clear hE a; intro a hE
          obtain ⟨x85, hx86, hq78⟩ := bindS hq78
          obtain ⟨hi87, hlt88, hy89⟩ := gx_some hx86
          obtain ⟨cs90, hl91, hR92, hat93⟩ := h0_2.at hy89
          subst hR92
          refine WL.vS hS hE (runs_plain rfl) (Gives.idx hE (((k54 : Nat) : Int)).toNat rfl rfl sl22 hi87 hlt88 (h0_2.aok hlt88)) rfl ?_; clear hE a; intro a hE
          refine WL.vS hS hE (runs_plain rfl) (Gives.load1 hE rfl (fun w h => hat93 w _ h) ty3) rfl ?_; clear hE a; intro a hE
          refine WL.vS hS hE (runs_plain rfl) (Gives.p hE rfl) rfl ?_; clear hE a; intro a hE
          refine WL.vS hS hE (runs_plain rfl) (Gives.max2 hE rfl rfl) rfl ?_; clear hE a; intro a hE
          refine WL.vS hS hE (runs_plain rfl) (Gives.p hE rfl) rfl ?_; clear hE a; intro a hE
          refine WL.vS hS hE (runs_plain rfl) (Gives.p hE rfl) rfl ?_; clear hE a; intro a hE
          refine WL.nil ?_
          subst hK83
          exact ⟨w64 (q63 + (mx 0 (w64 (x55 - x85)))), Option.some.inj hq78, hE.pick _ ⟨rfl, rfl, rfl, rfl, rfl, trivial⟩, hS⟩
        · replace hq78 := iteF hc84 hq78
          refine W.skip ?_
          subst hK83
          exact ⟨q63, Option.some.inj hq78, hE.pick _ ⟨rfl, rfl, rfl, rfl, rfl, trivial⟩, hS⟩
      · clear hE hS a w; rintro a w ⟨q82, rfl, hE, hS⟩
        refine W.region ?_
        refine WL.vS hS hE (runs_plain rfl) (Gives.inc hE rfl (by have := h1.small; omega)) rfl ?_; clear hE a; intro a hE
        refine WL.vS hS hE (runs_plain rfl) (Gives.p hE rfl) rfl ?_; clear hE a; intro a hE
        refine WL.nil ?_
        subst hK64
        exact ⟨rest56.length, Nat.lt_succ_self _, rest56, k54 + 1, q82, rfl, hd57, hq52, hE.pick _ ⟨rfl, rfl, rfl, rfl, rfl, trivial⟩, hS⟩
  · clear hE hS a w; rintro a w ⟨q63, rfl, hE, hS⟩
    refine W.seq ?_
    refine W.region ?_
    refine WL.vS hS hE (runs_plain rfl) (Gives.p hE rfl) rfl ?_; clear hE a; intro a hE
    refine WL.vS hS hE (runs_plain rfl) (Gives.p hE rfl) rfl ?_; clear hE a; intro a hE
    refine WL.nil ?_
    refine W.ret ?_
    refine finG (fn := Try.f44) (rs := [.tmp 4]) (vs := [_]) hE rfl ⟨rfl, trivial⟩ ?_
    obtain rfl := Option.some.inj hr
    replace hS := hS.tail
    exact ⟨rfl, hS⟩
set_option maxHeartbeats 8000000 in
theorem Fishlaw2MendForced_ok {fu : Nat}  {w : World} {s : Sg} {R : List HP} {x0 : MendGraph} {a0_0 : Option Addr} {c0_0 : Nat} {a0_1 : Option Addr} {c0_1 : Nat} {a0_2 : Option Addr} {c0_2 : Nat} {a0_3 : Option Addr} {c0_3 : Nat} {a0_4 : Option Addr} {c0_4 : Nat} {x1 : List Int} {a1 : Option Addr} {c1 : Nat} (hS : St w s (R)) (h0_0 : Sl 1 (RI .i64) s a0_0 c0_0 x0.Ready) (h0_1 : Sl 1 (RI .i64) s a0_1 c0_1 x0.Last) (h0_2 : Sl 1 (RI .i64) s a0_2 c0_2 x0.Due) (h0_3 : Sl 3 RMendArc s a0_3 c0_3 x0.Arcs) (h0_4 : Sl 1 RMendChoice s a0_4 c0_4 x0.Choices) (h1 : Sl 1 (RI .i64) s a1 c1 x1) {r : Bool} (hr : Fishlaw2MendForced fu x0 x1 = some r) :
    Calls Try.prog 10 [.agg [.slice a0_0 x0.Ready.length c0_0, .slice a0_1 x0.Last.length c0_1, .slice a0_2 x0.Due.length c0_2, .slice a0_3 x0.Arcs.length c0_3, .slice a0_4 x0.Choices.length c0_4].toArray, .slice a1 x1.length c1].toArray w (fun e w => e = .returned (.bool r) ∧ St w s (R)) := by
  refine enter Try.func10 rfl rfl rfl fun a hE => ?_
  rw [Fishlaw2MendForced] at hr
  refine W.seq ?_
  refine W.region ?_
  refine WL.box hE hS (runs_plain rfl) rfl rfl rfl ?_; clear hE hS a w; intro b51 a w hE hS
  refine WL.vS hS hE (runs_plain rfl) (Gives.p hE rfl) rfl ?_; clear hE a; intro a hE
  refine WL.nil ?_
  refine W.seq ?_
  refine W.region ?_
  refine WL.vS hS hE (runs_plain rfl) (Gives.loadBA hE 0 rfl rfl ty50) rfl ?_; clear hE a; intro a hE
  refine WL.vS hS hE (runs_plain rfl) (Gives.p hE rfl) rfl ?_; clear hE a; intro a hE
  obtain ⟨q52, hq53, hr⟩ := bindS hr
  have hc_ := MendForced_ok hS h0_0 h0_1 h0_2 h0_3 h0_4 h1 hq53
  refine WL.fnq hE (hc_) (runs_plain rfl) bd39 rfl rfl rfl ?_
  clear hE hS hc_; rintro e w ⟨a54, c55, n56, cs57, s60, rfl, hle61, h58, rfl, hS⟩; refine ⟨_, rfl, ?_⟩; clear a; intro a hE
  replace h0_0 := Sl.mono RI.mono hle61 h0_0
  replace h0_1 := Sl.mono RI.mono hle61 h0_1
  replace h0_2 := Sl.mono RI.mono hle61 h0_2
  replace h0_3 := Sl.mono RMendArc.mono hle61 h0_3
  replace h0_4 := Sl.mono RMendChoice.mono hle61 h0_4
  replace h1 := Sl.mono RI.mono hle61 h1
  refine WL.vS hS hE (runs_plain rfl) (Gives.p hE rfl) rfl ?_; clear hE a; intro a hE
  refine WL.vS hS hE (runs_plain rfl) (Gives.p hE rfl) rfl ?_; clear hE a; intro a hE
  refine WL.vS hS hE (runs_plain rfl) (Gives.p hE rfl) rfl ?_; clear hE a; intro a hE
  refine WL.vS hS hE (runs_plain rfl) (Gives.p hE rfl) rfl ?_; clear hE a; intro a hE
  refine WL.vS hS hE (runs_plain rfl) (Gives.p hE rfl) rfl ?_; clear hE a; intro a hE
  refine WL.nil ?_
  refine W.seq ?_
  refine W.region ?_
  refine WL.vS hS hE (runs_plain rfl) (Gives.loadBA hE 1 rfl rfl ty50) rfl ?_; clear hE a; intro a hE
  refine WL.vS hS hE (runs_plain rfl) (Gives.p hE rfl) rfl ?_; clear hE a; intro a hE
  obtain ⟨q62, hq63, hr⟩ := bindS hr
  have hc_ := MendBound_ok hS h0_0 h0_1 h0_2 h0_3 h0_4 h1 hq63
  refine WL.fnq hE (hc_) (runs_plain rfl) bd40 rfl rfl rfl ?_
  clear hE hS hc_; rintro e w ⟨rfl, hS⟩; refine ⟨_, rfl, ?_⟩; clear a; intro a hE
  refine WL.vS hS hE (runs_plain rfl) (Gives.p hE rfl) rfl ?_; clear hE a; intro a hE
  refine WL.vS hS hE (runs_plain rfl) (Gives.p hE rfl) rfl ?_; clear hE a; intro a hE
  refine WL.vS hS hE (runs_plain rfl) (Gives.p hE rfl) rfl ?_; clear hE a; intro a hE
  refine WL.vS hS hE (runs_plain rfl) (Gives.p hE rfl) rfl ?_; clear hE a; intro a hE
  refine WL.vS hS hE (runs_plain rfl) (Gives.p hE rfl) rfl ?_; clear hE a; intro a hE
  refine WL.nil ?_
  refine W.seq ?_
  refine W.seq ?_
  refine W.region ?_
  refine WL.vS hS hE (runs_plain rfl) (Gives.loadBA hE 1 rfl rfl ty50) rfl ?_; clear hE a; intro a hE
  refine WL.vS hS hE (runs_plain rfl) (Gives.p hE rfl) rfl ?_; clear hE a; intro a hE
  obtain ⟨q64, hq65, hr⟩ := bindS hr
  have hc_ := Fishref2PickFault_ok hS h0_0 h0_1 h0_2 h0_3 h0_4 h1 hq65
  refine WL.fnq hE (hc_) (runs_plain rfl) bd41 rfl rfl rfl ?_
  clear hE hS hc_; rintro e w ⟨rfl, hS⟩; refine ⟨_, rfl, ?_⟩; clear a; intro a hE
  refine WL.vS hS hE (runs_plain rfl) (Gives.p hE rfl) rfl ?_; clear hE a; intro a hE
  refine WL.nil ?_
  refine W.seq ?_
  refine W.region ?_
  refine WL.vS hS hE (runs_plain rfl) (Gives.p hE rfl) rfl ?_; clear hE a; intro a hE
  refine WL.vS hS hE (runs_plain rfl) (Gives.p hE rfl) rfl ?_; clear hE a; intro a hE
  refine WL.nil ?_
  refine W.cond hE rfl (fun hc66 => ?_) (fun hc66 => ?_)
  · replace hr := iteT hc66 hr
    refine W.seq ?_
    obtain ⟨q68, hq67, hr⟩ := bindS hr
    refine W.cut (fun a w => ∃ (q71 : Bool), q71 = q68 ∧ Rep a 104 [(4, .bool q71)] ∧ St w s60 (pt b51 (.cells #[.slice a0_0 x0.Ready.length c0_0, .slice a0_1 x0.Last.length c0_1, .slice a0_2 x0.Due.length c0_2, .slice a0_3 x0.Arcs.length c0_3, .slice a0_4 x0.Choices.length c0_4] 50 (0, 0)) :: R)) ?_ ?_
    · refine W.gen fun K72 hK72 => ?_
      refine W.region ?_
      obtain ⟨q73, hq74, hq67⟩ := bindS hq67
      have hc_ := Fishlaw2graphs_ok hS  hq74
      refine WL.fnq hE (hc_) (runs_plain rfl) bd23 rfl rfl rfl ?_
      clear hE hS hc_; rintro e w ⟨rfl, hS⟩; refine ⟨_, rfl, ?_⟩; clear a; intro a hE
      refine WL.vS hS hE (runs_plain rfl) (Gives.p hE rfl) rfl ?_; clear hE a; intro a hE
      rcases Bool.eq_false_or_eq_true q73 with hg75 | hg75
      · replace hq67 := iteT hg75 hq67
        refine WL.vS hS hE (runs_if hE rfl rfl rfl hg75) (Gives.p hE rfl) rfl ?_; clear hE a; intro a hE
        refine WL.vS hS hE (runs_if hE rfl rfl rfl hg75) (Gives.p hE rfl) rfl ?_; clear hE a; intro a hE
        refine WL.vS hS hE (runs_if hE rfl rfl rfl hg75) (Gives.p hE rfl) rfl ?_; clear hE a; intro a hE
        refine WL.vS hS hE (runs_plain rfl) (Gives.pickT hE rfl hg75 rfl) rfl ?_; clear hE a; intro a hE
        refine WL.vS hS hE (runs_plain rfl) (Gives.p hE rfl) rfl ?_; clear hE a; intro a hE
        rcases Bool.eq_false_or_eq_true (q52.2 == q64) with hg76 | hg76
        · replace hq67 := iteT hg76 hq67
          refine WL.vS hS hE (runs_if hE rfl rfl rfl hg76) (Gives.p hE rfl) rfl ?_; clear hE a; intro a hE
          refine WL.vS hS hE (runs_if hE rfl rfl rfl hg76) (Gives.p hE rfl) rfl ?_; clear hE a; intro a hE
          refine WL.vS hS hE (runs_if hE rfl rfl rfl hg76) (Gives.p hE rfl) rfl ?_; clear hE a; intro a hE
          refine WL.vS hS hE (runs_plain rfl) (Gives.pickT hE rfl hg76 rfl) rfl ?_; clear hE a; intro a hE
          refine WL.vS hS hE (runs_plain rfl) (Gives.p hE rfl) rfl ?_; clear hE a; intro a hE
          rcases Bool.eq_false_or_eq_true (q62.2 == q64) with hg77 | hg77
          · replace hq67 := iteT hg77 hq67
            refine WL.vS hS hE (runs_if hE rfl rfl rfl hg77) (Gives.p hE rfl) rfl ?_; clear hE a; intro a hE
            refine WL.vS hS hE (runs_if hE rfl rfl rfl hg77) (Gives.len hE rfl sl22) rfl ?_; clear hE a; intro a hE
            refine WL.vS hS hE (runs_if hE rfl rfl rfl hg77) (Gives.p hE rfl) rfl ?_; clear hE a; intro a hE
            refine WL.vS hS hE (runs_plain rfl) (Gives.pickT hE rfl hg77 rfl) rfl ?_; clear hE a; intro a hE
            refine WL.vS hS hE (runs_plain rfl) (Gives.p hE rfl) rfl ?_; clear hE a; intro a hE
            rcases Bool.eq_false_or_eq_true (((q52.1.length : Nat) : Int) == 0) with hg78 | hg78
            · replace hq67 := iteT hg78 hq67
              refine WL.vS hS hE (runs_if hE rfl rfl rfl hg78) (Gives.p hE rfl) rfl ?_; clear hE a; intro a hE
              refine WL.vS hS hE (runs_if hE rfl rfl rfl hg78) (Gives.p hE rfl) rfl ?_; clear hE a; intro a hE
              refine WL.vS hS hE (runs_plain rfl) (Gives.pickT hE rfl hg78 rfl) rfl ?_; clear hE a; intro a hE
              refine WL.vS hS hE (runs_plain rfl) (Gives.p hE rfl) rfl ?_; clear hE a; intro a hE
              refine WL.nil ?_
              replace hS := hS.tail
              subst hK72
              exact ⟨(q62.1 == 0), Option.some.inj hq67, hE.pick _ ⟨rfl, trivial⟩, hS⟩
            · replace hq67 := iteF hg78 hq67
              refine WL.no hE (runs_not hE rfl rfl rfl (by rw [hg78]; decide)) rfl ?_; clear hE a; intro a hE
              refine WL.no hE (runs_not hE rfl rfl rfl (by rw [hg78]; decide)) rfl ?_; clear hE a; intro a hE
              refine WL.vS hS hE (runs_plain rfl) (Gives.pickF hE rfl hg78 rfl) rfl ?_; clear hE a; intro a hE
              refine WL.vS hS hE (runs_plain rfl) (Gives.p hE rfl) rfl ?_; clear hE a; intro a hE
              refine WL.nil ?_
              replace hS := hS.tail
              subst hK72
              exact ⟨false, Option.some.inj hq67, hE.pick _ ⟨rfl, trivial⟩, hS⟩
          · replace hq67 := iteF hg77 hq67
            refine WL.no hE (runs_not hE rfl rfl rfl (by rw [hg77]; decide)) rfl ?_; clear hE a; intro a hE
            refine WL.no hE (runs_not hE rfl rfl rfl (by rw [hg77]; decide)) rfl ?_; clear hE a; intro a hE
            refine WL.no hE (runs_not hE rfl rfl rfl (by rw [hg77]; decide)) rfl ?_; clear hE a; intro a hE
            refine WL.vS hS hE (runs_plain rfl) (Gives.pickF hE rfl hg77 rfl) rfl ?_; clear hE a; intro a hE
            refine WL.vS hS hE (runs_plain rfl) (Gives.p hE rfl) rfl ?_; clear hE a; intro a hE
            refine WL.no hE (runs_not hE rfl rfl rfl (by decide)) rfl ?_; clear hE a; intro a hE
            refine WL.no hE (runs_not hE rfl rfl rfl (by decide)) rfl ?_; clear hE a; intro a hE
            refine WL.vS hS hE (runs_plain rfl) (Gives.pickF hE rfl rfl rfl) rfl ?_; clear hE a; intro a hE
            refine WL.vS hS hE (runs_plain rfl) (Gives.p hE rfl) rfl ?_; clear hE a; intro a hE
            refine WL.nil ?_
            replace hS := hS.tail
            subst hK72
            exact ⟨false, Option.some.inj hq67, hE.pick _ ⟨rfl, trivial⟩, hS⟩
        · replace hq67 := iteF hg76 hq67
          refine WL.no hE (runs_not hE rfl rfl rfl (by rw [hg76]; decide)) rfl ?_; clear hE a; intro a hE
          refine WL.no hE (runs_not hE rfl rfl rfl (by rw [hg76]; decide)) rfl ?_; clear hE a; intro a hE
          refine WL.no hE (runs_not hE rfl rfl rfl (by rw [hg76]; decide)) rfl ?_; clear hE a; intro a hE
          refine WL.vS hS hE (runs_plain rfl) (Gives.pickF hE rfl hg76 rfl) rfl ?_; clear hE a; intro a hE
          refine WL.vS hS hE (runs_plain rfl) (Gives.p hE rfl) rfl ?_; clear hE a; intro a hE
          refine WL.no hE (runs_not hE rfl rfl rfl (by decide)) rfl ?_; clear hE a; intro a hE
          refine WL.no hE (runs_not hE rfl rfl rfl (by decide)) rfl ?_; clear hE a; intro a hE
          refine WL.no hE (runs_not hE rfl rfl rfl (by decide)) rfl ?_; clear hE a; intro a hE
          refine WL.vS hS hE (runs_plain rfl) (Gives.pickF hE rfl rfl rfl) rfl ?_; clear hE a; intro a hE
          refine WL.vS hS hE (runs_plain rfl) (Gives.p hE rfl) rfl ?_; clear hE a; intro a hE
          refine WL.no hE (runs_not hE rfl rfl rfl (by decide)) rfl ?_; clear hE a; intro a hE
          refine WL.no hE (runs_not hE rfl rfl rfl (by decide)) rfl ?_; clear hE a; intro a hE
          refine WL.vS hS hE (runs_plain rfl) (Gives.pickF hE rfl rfl rfl) rfl ?_; clear hE a; intro a hE
          refine WL.vS hS hE (runs_plain rfl) (Gives.p hE rfl) rfl ?_; clear hE a; intro a hE
          refine WL.nil ?_
          replace hS := hS.tail
          subst hK72
          exact ⟨false, Option.some.inj hq67, hE.pick _ ⟨rfl, trivial⟩, hS⟩
      · replace hq67 := iteF hg75 hq67
        refine WL.no hE (runs_not hE rfl rfl rfl (by rw [hg75]; decide)) rfl ?_; clear hE a; intro a hE
        refine WL.no hE (runs_not hE rfl rfl rfl (by rw [hg75]; decide)) rfl ?_; clear hE a; intro a hE
        refine WL.no hE (runs_not hE rfl rfl rfl (by rw [hg75]; decide)) rfl ?_; clear hE a; intro a hE
        refine WL.vS hS hE (runs_plain rfl) (Gives.pickF hE rfl hg75 rfl) rfl ?_; clear hE a; intro a hE
        refine WL.vS hS hE (runs_plain rfl) (Gives.p hE rfl) rfl ?_; clear hE a; intro a hE
        refine WL.no hE (runs_not hE rfl rfl rfl (by decide)) rfl ?_; clear hE a; intro a hE
        refine WL.no hE (runs_not hE rfl rfl rfl (by decide)) rfl ?_; clear hE a; intro a hE
        refine WL.no hE (runs_not hE rfl rfl rfl (by decide)) rfl ?_; clear hE a; intro a hE
        refine WL.vS hS hE (runs_plain rfl) (Gives.pickF hE rfl rfl rfl) rfl ?_; clear hE a; intro a hE
        refine WL.vS hS hE (runs_plain rfl) (Gives.p hE rfl) rfl ?_; clear hE a; intro a hE
        refine WL.no hE (runs_not hE rfl rfl rfl (by decide)) rfl ?_; clear hE a; intro a hE
        refine WL.no hE (runs_not hE rfl rfl rfl (by decide)) rfl ?_; clear hE a; intro a hE
        refine WL.no hE (runs_not hE rfl rfl rfl (by decide)) rfl ?_; clear hE a; intro a hE
        refine WL.vS hS hE (runs_plain rfl) (Gives.pickF hE rfl rfl rfl) rfl ?_; clear hE a; intro a hE
        refine WL.vS hS hE (runs_plain rfl) (Gives.p hE rfl) rfl ?_; clear hE a; intro a hE
        refine WL.no hE (runs_not hE rfl rfl rfl (by decide)) rfl ?_; clear hE a; intro a hE
        refine WL.no hE (runs_not hE rfl rfl rfl (by decide)) rfl ?_; clear hE a; intro a hE
        refine WL.vS hS hE (runs_plain rfl) (Gives.pickF hE rfl rfl rfl) rfl ?_; clear hE a; intro a hE
        refine WL.vS hS hE (runs_plain rfl) (Gives.p hE rfl) rfl ?_; clear hE a; intro a hE
        refine WL.nil ?_
        replace hS := hS.tail
        subst hK72
        exact ⟨false, Option.some.inj hq67, hE.pick _ ⟨rfl, trivial⟩, hS⟩
    · clear hE hS a w; rintro a w ⟨q71, rfl, hE, hS⟩
      refine W.ret ?_
      refine finG (fn := Try.f10) (rs := [.tmp 4]) (vs := [_]) hE rfl ⟨rfl, trivial⟩ ?_
      obtain rfl := Option.some.inj hr
      replace hS := hS.tail
      exact ⟨rfl, (hS.down hle61)⟩
  · replace hr := iteF hc66 hr
    refine W.skip ?_
    refine W.seq ?_
    refine W.region ?_
    refine WL.vS hS hE (runs_plain rfl) (Gives.loadBA hE 1 rfl rfl ty50) rfl ?_; clear hE a; intro a hE
    refine WL.vS hS hE (runs_plain rfl) (Gives.p hE rfl) rfl ?_; clear hE a; intro a hE
    obtain ⟨q79, hq80, hr⟩ := bindS hr
    have hc_ := Fishref2ForcedOf_ok hS h0_0 h0_1 h0_2 h0_3 h0_4 h1 hq80
    refine WL.fnq hE (hc_) (runs_plain rfl) bd42 rfl rfl rfl ?_
    clear hE hS hc_; rintro e w ⟨a81, c82, n83, cs84, rfl, h85, rfl, hS⟩; refine ⟨_, rfl, ?_⟩; clear a; intro a hE
    refine WL.vS hS hE (runs_plain rfl) (Gives.p hE rfl) rfl ?_; clear hE a; intro a hE
    refine WL.vS hS hE (runs_plain rfl) (Gives.p hE rfl) rfl ?_; clear hE a; intro a hE
    refine WL.vS hS hE (runs_plain rfl) (Gives.p hE rfl) rfl ?_; clear hE a; intro a hE
    refine WL.vS hS hE (runs_plain rfl) (Gives.p hE rfl) rfl ?_; clear hE a; intro a hE
    refine WL.vS hS hE (runs_plain rfl) (Gives.p hE rfl) rfl ?_; clear hE a; intro a hE
    refine WL.nil ?_
    refine W.seq ?_
    refine W.seq ?_
    refine W.region ?_
    refine WL.vS hS hE (runs_plain rfl) (Gives.p hE rfl) rfl ?_; clear hE a; intro a hE
    refine WL.vS hS hE (runs_plain rfl) (Gives.p hE rfl) rfl ?_; clear hE a; intro a hE
    refine WL.nil ?_
    refine W.cond hE rfl (fun hc87 => ?_) (fun hc87 => ?_)
    · replace hr := iteT hc87 hr
      refine W.seq ?_
      obtain ⟨q89, hq88, hr⟩ := bindS hr
      refine W.cut (fun a w => ∃ (q92 : Bool), q92 = q89 ∧ Rep a 104 [(4, .bool q92)] ∧ St w s60 (pt b51 (.cells #[.slice a0_0 x0.Ready.length c0_0, .slice a0_1 x0.Last.length c0_1, .slice a0_2 x0.Due.length c0_2, .slice a0_3 x0.Arcs.length c0_3, .slice a0_4 x0.Choices.length c0_4] 50 (0, 0)) :: R)) ?_ ?_
      · refine W.gen fun K93 hK93 => ?_
        refine W.region ?_
        obtain ⟨q94, hq95, hq88⟩ := bindS hq88
        have hc_ := Fishlaw2graphs_ok hS  hq95
        refine WL.fnq hE (hc_) (runs_plain rfl) bd23 rfl rfl rfl ?_
        clear hE hS hc_; rintro e w ⟨rfl, hS⟩; refine ⟨_, rfl, ?_⟩; clear a; intro a hE
        refine WL.vS hS hE (runs_plain rfl) (Gives.p hE rfl) rfl ?_; clear hE a; intro a hE
        rcases Bool.eq_false_or_eq_true q94 with hg96 | hg96
        · replace hq88 := iteT hg96 hq88
          refine WL.vS hS hE (runs_if hE rfl rfl rfl hg96) (Gives.p hE rfl) rfl ?_; clear hE a; intro a hE
          refine WL.vS hS hE (runs_if hE rfl rfl rfl hg96) (Gives.p hE rfl) rfl ?_; clear hE a; intro a hE
          refine WL.vS hS hE (runs_plain rfl) (Gives.pickT hE rfl hg96 rfl) rfl ?_; clear hE a; intro a hE
          refine WL.vS hS hE (runs_plain rfl) (Gives.p hE rfl) rfl ?_; clear hE a; intro a hE
          rcases Bool.eq_false_or_eq_true (q52.2 == 5) with hg97 | hg97
          · replace hq88 := iteT hg97 hq88
            refine WL.vS hS hE (runs_if hE rfl rfl rfl hg97) (Gives.p hE rfl) rfl ?_; clear hE a; intro a hE
            refine WL.vS hS hE (runs_if hE rfl rfl rfl hg97) (Gives.p hE rfl) rfl ?_; clear hE a; intro a hE
            refine WL.vS hS hE (runs_plain rfl) (Gives.pickT hE rfl hg97 rfl) rfl ?_; clear hE a; intro a hE
            refine WL.vS hS hE (runs_plain rfl) (Gives.p hE rfl) rfl ?_; clear hE a; intro a hE
            rcases Bool.eq_false_or_eq_true (q62.2 == 5) with hg98 | hg98
            · replace hq88 := iteT hg98 hq88
              refine WL.vS hS hE (runs_if hE rfl rfl rfl hg98) (Gives.p hE rfl) rfl ?_; clear hE a; intro a hE
              refine WL.vS hS hE (runs_if hE rfl rfl rfl hg98) (Gives.len hE rfl sl22) rfl ?_; clear hE a; intro a hE
              refine WL.vS hS hE (runs_if hE rfl rfl rfl hg98) (Gives.p hE rfl) rfl ?_; clear hE a; intro a hE
              refine WL.vS hS hE (runs_plain rfl) (Gives.pickT hE rfl hg98 rfl) rfl ?_; clear hE a; intro a hE
              refine WL.vS hS hE (runs_plain rfl) (Gives.p hE rfl) rfl ?_; clear hE a; intro a hE
              rcases Bool.eq_false_or_eq_true (((q52.1.length : Nat) : Int) == 0) with hg99 | hg99
              · replace hq88 := iteT hg99 hq88
                refine WL.vS hS hE (runs_if hE rfl rfl rfl hg99) (Gives.p hE rfl) rfl ?_; clear hE a; intro a hE
                refine WL.vS hS hE (runs_if hE rfl rfl rfl hg99) (Gives.p hE rfl) rfl ?_; clear hE a; intro a hE
                refine WL.vS hS hE (runs_plain rfl) (Gives.pickT hE rfl hg99 rfl) rfl ?_; clear hE a; intro a hE
                refine WL.vS hS hE (runs_plain rfl) (Gives.p hE rfl) rfl ?_; clear hE a; intro a hE
                refine WL.nil ?_
                replace hS := hS.tail
                replace hS := hS.tail
                subst hK93
                exact ⟨(q62.1 == 0), Option.some.inj hq88, hE.pick _ ⟨rfl, trivial⟩, hS⟩
              · replace hq88 := iteF hg99 hq88
                refine WL.no hE (runs_not hE rfl rfl rfl (by rw [hg99]; decide)) rfl ?_; clear hE a; intro a hE
                refine WL.no hE (runs_not hE rfl rfl rfl (by rw [hg99]; decide)) rfl ?_; clear hE a; intro a hE
                refine WL.vS hS hE (runs_plain rfl) (Gives.pickF hE rfl hg99 rfl) rfl ?_; clear hE a; intro a hE
                refine WL.vS hS hE (runs_plain rfl) (Gives.p hE rfl) rfl ?_; clear hE a; intro a hE
                refine WL.nil ?_
                replace hS := hS.tail
                replace hS := hS.tail
                subst hK93
                exact ⟨false, Option.some.inj hq88, hE.pick _ ⟨rfl, trivial⟩, hS⟩
            · replace hq88 := iteF hg98 hq88
              refine WL.no hE (runs_not hE rfl rfl rfl (by rw [hg98]; decide)) rfl ?_; clear hE a; intro a hE
              refine WL.no hE (runs_not hE rfl rfl rfl (by rw [hg98]; decide)) rfl ?_; clear hE a; intro a hE
              refine WL.no hE (runs_not hE rfl rfl rfl (by rw [hg98]; decide)) rfl ?_; clear hE a; intro a hE
              refine WL.vS hS hE (runs_plain rfl) (Gives.pickF hE rfl hg98 rfl) rfl ?_; clear hE a; intro a hE
              refine WL.vS hS hE (runs_plain rfl) (Gives.p hE rfl) rfl ?_; clear hE a; intro a hE
              refine WL.no hE (runs_not hE rfl rfl rfl (by decide)) rfl ?_; clear hE a; intro a hE
              refine WL.no hE (runs_not hE rfl rfl rfl (by decide)) rfl ?_; clear hE a; intro a hE
              refine WL.vS hS hE (runs_plain rfl) (Gives.pickF hE rfl rfl rfl) rfl ?_; clear hE a; intro a hE
              refine WL.vS hS hE (runs_plain rfl) (Gives.p hE rfl) rfl ?_; clear hE a; intro a hE
              refine WL.nil ?_
              replace hS := hS.tail
              replace hS := hS.tail
              subst hK93
              exact ⟨false, Option.some.inj hq88, hE.pick _ ⟨rfl, trivial⟩, hS⟩
          · replace hq88 := iteF hg97 hq88
            refine WL.no hE (runs_not hE rfl rfl rfl (by rw [hg97]; decide)) rfl ?_; clear hE a; intro a hE
            refine WL.no hE (runs_not hE rfl rfl rfl (by rw [hg97]; decide)) rfl ?_; clear hE a; intro a hE
            refine WL.vS hS hE (runs_plain rfl) (Gives.pickF hE rfl hg97 rfl) rfl ?_; clear hE a; intro a hE
            refine WL.vS hS hE (runs_plain rfl) (Gives.p hE rfl) rfl ?_; clear hE a; intro a hE
            refine WL.no hE (runs_not hE rfl rfl rfl (by decide)) rfl ?_; clear hE a; intro a hE
            refine WL.no hE (runs_not hE rfl rfl rfl (by decide)) rfl ?_; clear hE a; intro a hE
            refine WL.no hE (runs_not hE rfl rfl rfl (by decide)) rfl ?_; clear hE a; intro a hE
            refine WL.vS hS hE (runs_plain rfl) (Gives.pickF hE rfl rfl rfl) rfl ?_; clear hE a; intro a hE
            refine WL.vS hS hE (runs_plain rfl) (Gives.p hE rfl) rfl ?_; clear hE a; intro a hE
            refine WL.no hE (runs_not hE rfl rfl rfl (by decide)) rfl ?_; clear hE a; intro a hE
            refine WL.no hE (runs_not hE rfl rfl rfl (by decide)) rfl ?_; clear hE a; intro a hE
            refine WL.vS hS hE (runs_plain rfl) (Gives.pickF hE rfl rfl rfl) rfl ?_; clear hE a; intro a hE
            refine WL.vS hS hE (runs_plain rfl) (Gives.p hE rfl) rfl ?_; clear hE a; intro a hE
            refine WL.nil ?_
            replace hS := hS.tail
            replace hS := hS.tail
            subst hK93
            exact ⟨false, Option.some.inj hq88, hE.pick _ ⟨rfl, trivial⟩, hS⟩
        · replace hq88 := iteF hg96 hq88
          refine WL.no hE (runs_not hE rfl rfl rfl (by rw [hg96]; decide)) rfl ?_; clear hE a; intro a hE
          refine WL.no hE (runs_not hE rfl rfl rfl (by rw [hg96]; decide)) rfl ?_; clear hE a; intro a hE
          refine WL.vS hS hE (runs_plain rfl) (Gives.pickF hE rfl hg96 rfl) rfl ?_; clear hE a; intro a hE
          refine WL.vS hS hE (runs_plain rfl) (Gives.p hE rfl) rfl ?_; clear hE a; intro a hE
          refine WL.no hE (runs_not hE rfl rfl rfl (by decide)) rfl ?_; clear hE a; intro a hE
          refine WL.no hE (runs_not hE rfl rfl rfl (by decide)) rfl ?_; clear hE a; intro a hE
          refine WL.vS hS hE (runs_plain rfl) (Gives.pickF hE rfl rfl rfl) rfl ?_; clear hE a; intro a hE
          refine WL.vS hS hE (runs_plain rfl) (Gives.p hE rfl) rfl ?_; clear hE a; intro a hE
          refine WL.no hE (runs_not hE rfl rfl rfl (by decide)) rfl ?_; clear hE a; intro a hE
          refine WL.no hE (runs_not hE rfl rfl rfl (by decide)) rfl ?_; clear hE a; intro a hE
          refine WL.no hE (runs_not hE rfl rfl rfl (by decide)) rfl ?_; clear hE a; intro a hE
          refine WL.vS hS hE (runs_plain rfl) (Gives.pickF hE rfl rfl rfl) rfl ?_; clear hE a; intro a hE
          refine WL.vS hS hE (runs_plain rfl) (Gives.p hE rfl) rfl ?_; clear hE a; intro a hE
          refine WL.no hE (runs_not hE rfl rfl rfl (by decide)) rfl ?_; clear hE a; intro a hE
          refine WL.no hE (runs_not hE rfl rfl rfl (by decide)) rfl ?_; clear hE a; intro a hE
          refine WL.vS hS hE (runs_plain rfl) (Gives.pickF hE rfl rfl rfl) rfl ?_; clear hE a; intro a hE
          refine WL.vS hS hE (runs_plain rfl) (Gives.p hE rfl) rfl ?_; clear hE a; intro a hE
          refine WL.nil ?_
          replace hS := hS.tail
          replace hS := hS.tail
          subst hK93
          exact ⟨false, Option.some.inj hq88, hE.pick _ ⟨rfl, trivial⟩, hS⟩
      · clear hE hS a w; rintro a w ⟨q92, rfl, hE, hS⟩
        refine W.ret ?_
        refine finG (fn := Try.f10) (rs := [.tmp 4]) (vs := [_]) hE rfl ⟨rfl, trivial⟩ ?_
        obtain rfl := Option.some.inj hr
        replace hS := hS.tail
        exact ⟨rfl, (hS.down hle61)⟩
    · replace hr := iteF hc87 hr
      refine W.skip ?_
      refine W.seq ?_
      refine W.region ?_
      refine WL.vS hS hE (runs_plain rfl) (Gives.loadBA hE 2 rfl rfl ty50) rfl ?_; clear hE a; intro a hE
      refine WL.vS hS hE (runs_plain rfl) (Gives.p hE rfl) rfl ?_; clear hE a; intro a hE
      obtain ⟨q100, hq101, hr⟩ := bindS hr
      have hF := hS.lendV RI.mono 0 rfl h85 rfl; clear hS; obtain ⟨t108, hle109, hS, hs110, bk111⟩ := hF
      have hc_ := Fishref2TimesOf_ok hS (Sl.mono RI.mono hle109 h0_0) (Sl.mono RI.mono hle109 h0_1) (Sl.mono RI.mono hle109 h0_2) (Sl.mono RMendArc.mono hle109 h0_3) (Sl.mono RMendChoice.mono hle109 h0_4) hs110 hq101
      refine WL.fnq hE (hc_) (runs_plain rfl) bd43 rfl rfl rfl ?_
      clear hE hS hc_; rintro e w ⟨a102, c103, n104, cs105, rfl, h106, rfl, hS⟩; refine ⟨_, rfl, ?_⟩; clear a; intro a hE
      replace hS := bk111 _ _ hS
      replace h106 := Ev.flat (s2 := s60) (fun _ _ _ _ h => h) h106
      refine WL.vS hS hE (runs_plain rfl) (Gives.p hE rfl) rfl ?_; clear hE a; intro a hE
      refine WL.vS hS hE (runs_plain rfl) (Gives.p hE rfl) rfl ?_; clear hE a; intro a hE
      refine WL.vS hS hE (runs_plain rfl) (Gives.p hE rfl) rfl ?_; clear hE a; intro a hE
      refine WL.vS hS hE (runs_plain rfl) (Gives.p hE rfl) rfl ?_; clear hE a; intro a hE
      refine WL.vS hS hE (runs_plain rfl) (Gives.p hE rfl) rfl ?_; clear hE a; intro a hE
      refine WL.nil ?_
      refine W.seq ?_
      obtain ⟨q113, hq112, hr⟩ := bindS hr
      refine W.cut (fun a w => ∃ (q116 : Bool), q116 = q113 ∧ Rep a 104 [(4, .bool q116)] ∧ St w s60 (pt b51 (.cells #[.slice a0_0 x0.Ready.length c0_0, .slice a0_1 x0.Last.length c0_1, .slice a0_2 x0.Due.length c0_2, .slice a0_3 x0.Arcs.length c0_3, .slice a0_4 x0.Choices.length c0_4] 50 (0, 0)) :: R)) ?_ ?_
      · refine W.gen fun K117 hK117 => ?_
        refine W.region ?_
        obtain ⟨q118, hq119, hq112⟩ := bindS hq112
        have hc_ := Fishlaw2graphs_ok hS  hq119
        refine WL.fnq hE (hc_) (runs_plain rfl) bd23 rfl rfl rfl ?_
        clear hE hS hc_; rintro e w ⟨rfl, hS⟩; refine ⟨_, rfl, ?_⟩; clear a; intro a hE
        refine WL.vS hS hE (runs_plain rfl) (Gives.p hE rfl) rfl ?_; clear hE a; intro a hE
        rcases Bool.eq_false_or_eq_true q118 with hg120 | hg120
        · replace hq112 := iteT hg120 hq112
          refine WL.vS hS hE (runs_if hE rfl rfl rfl hg120) (Gives.p hE rfl) rfl ?_; clear hE a; intro a hE
          refine WL.vS hS hE (runs_if hE rfl rfl rfl hg120) (Gives.p hE rfl) rfl ?_; clear hE a; intro a hE
          refine WL.vS hS hE (runs_plain rfl) (Gives.pickT hE rfl hg120 rfl) rfl ?_; clear hE a; intro a hE
          refine WL.vS hS hE (runs_plain rfl) (Gives.p hE rfl) rfl ?_; clear hE a; intro a hE
          rcases Bool.eq_false_or_eq_true (q52.2 == 0) with hg121 | hg121
          · replace hq112 := iteT hg121 hq112
            refine WL.vS hS hE (runs_if hE rfl rfl rfl hg121) (Gives.p hE rfl) rfl ?_; clear hE a; intro a hE
            refine WL.vS hS hE (runs_if hE rfl rfl rfl hg121) (Gives.p hE rfl) rfl ?_; clear hE a; intro a hE
            refine WL.vS hS hE (runs_plain rfl) (Gives.pickT hE rfl hg121 rfl) rfl ?_; clear hE a; intro a hE
            refine WL.vS hS hE (runs_plain rfl) (Gives.p hE rfl) rfl ?_; clear hE a; intro a hE
            rcases Bool.eq_false_or_eq_true (q62.2 == 0) with hg122 | hg122
            · replace hq112 := iteT hg122 hq112
              refine WL.vS hS hE (runs_if hE rfl rfl rfl hg122) (Gives.p hE rfl) rfl ?_; clear hE a; intro a hE
              refine WL.vS hS hE (runs_if hE rfl rfl rfl hg122) (Gives.p hE rfl) rfl ?_; clear hE a; intro a hE
              obtain ⟨q123, hq124, hq112⟩ := bindS hq112
              have hF := hS.lendV RI.mono 2 rfl h58 rfl; clear hS; obtain ⟨t125, hle126, hS, hs127, bk128⟩ := hF
              have hF := hS.lendV RI.mono 0 rfl (Ev.mono RI.mono hle126 h85) rfl; clear hS; obtain ⟨t129, hle130, hS, hs131, bk132⟩ := hF
              have hc_ := SlicesEqualLint_ok hS (Sl.mono RI.mono hle130 hs127) hs131 hq124
              refine WL.fnq hE (hc_) (runs_if hE rfl rfl rfl hg122) bd28 rfl rfl rfl ?_
              clear hE hS hc_; rintro e w ⟨rfl, hS⟩; refine ⟨_, rfl, ?_⟩; clear a; intro a hE
              replace hS := bk132 _ _ hS
              replace hS := bk128 _ _ hS
              refine WL.vS hS hE (runs_plain rfl) (Gives.pickT hE rfl hg122 rfl) rfl ?_; clear hE a; intro a hE
              refine WL.vS hS hE (runs_plain rfl) (Gives.p hE rfl) rfl ?_; clear hE a; intro a hE
              rcases Bool.eq_false_or_eq_true q123 with hg133 | hg133
              · replace hq112 := iteT hg133 hq112
                refine WL.vS hS hE (runs_if hE rfl rfl rfl hg133) (Gives.p hE rfl) rfl ?_; clear hE a; intro a hE
                refine WL.vS hS hE (runs_if hE rfl rfl rfl hg133) (Gives.loadBA hE 3 rfl rfl ty50) rfl ?_; clear hE a; intro a hE
                refine WL.vS hS hE (runs_if hE rfl rfl rfl hg133) (Gives.p hE rfl) rfl ?_; clear hE a; intro a hE
                obtain ⟨q134, hq135, hq112⟩ := bindS hq112
                have hF := hS.lendV RI.mono 2 rfl h106 rfl; clear hS; obtain ⟨t136, hle137, hS, hs138, bk139⟩ := hF
                have hc_ := Fishref2DelayOf_ok hS (Sl.mono RI.mono hle137 h0_0) (Sl.mono RI.mono hle137 h0_1) (Sl.mono RI.mono hle137 h0_2) (Sl.mono RMendArc.mono hle137 h0_3) (Sl.mono RMendChoice.mono hle137 h0_4) hs138 hq135
                refine WL.fnq hE (hc_) (runs_if hE rfl rfl rfl hg133) bd44 rfl rfl rfl ?_
                clear hE hS hc_; rintro e w ⟨rfl, hS⟩; refine ⟨_, rfl, ?_⟩; clear a; intro a hE
                replace hS := bk139 _ _ hS
                refine WL.vS hS hE (runs_if hE rfl rfl rfl hg133) (Gives.p hE rfl) rfl ?_; clear hE a; intro a hE
                refine WL.vS hS hE (runs_plain rfl) (Gives.pickT hE rfl hg133 rfl) rfl ?_; clear hE a; intro a hE
                refine WL.vS hS hE (runs_plain rfl) (Gives.p hE rfl) rfl ?_; clear hE a; intro a hE
                refine WL.nil ?_
                replace hS := hS.tail
                replace hS := hS.tail
                replace hS := hS.tail
                subst hK117
                exact ⟨(q62.1 == q134), Option.some.inj hq112, hE.pick _ ⟨rfl, trivial⟩, hS⟩
              · replace hq112 := iteF hg133 hq112
                refine WL.no hE (runs_not hE rfl rfl rfl (by rw [hg133]; decide)) rfl ?_; clear hE a; intro a hE
                refine WL.no hE (runs_not hE rfl rfl rfl (by rw [hg133]; decide)) rfl ?_; clear hE a; intro a hE
                refine WL.no hE (runs_not hE rfl rfl rfl (by rw [hg133]; decide)) rfl ?_; clear hE a; intro a hE
                refine WL.no hE (runs_not hE rfl rfl rfl (by rw [hg133]; decide)) rfl ?_; clear hE a; intro a hE
                refine WL.no hE (runs_not hE rfl rfl rfl (by rw [hg133]; decide)) rfl ?_; clear hE a; intro a hE
                refine WL.vS hS hE (runs_plain rfl) (Gives.pickF hE rfl hg133 rfl) rfl ?_; clear hE a; intro a hE
                refine WL.vS hS hE (runs_plain rfl) (Gives.p hE rfl) rfl ?_; clear hE a; intro a hE
                refine WL.nil ?_
                replace hS := hS.tail
                replace hS := hS.tail
                replace hS := hS.tail
                subst hK117
                exact ⟨false, Option.some.inj hq112, hE.pick _ ⟨rfl, trivial⟩, hS⟩
            · replace hq112 := iteF hg122 hq112
              refine WL.no hE (runs_not hE rfl rfl rfl (by rw [hg122]; decide)) rfl ?_; clear hE a; intro a hE
              refine WL.no hE (runs_not hE rfl rfl rfl (by rw [hg122]; decide)) rfl ?_; clear hE a; intro a hE
              refine WL.no hE (runs_not hE rfl rfl rfl (by rw [hg122]; decide)) rfl ?_; clear hE a; intro a hE
              refine WL.vS hS hE (runs_plain rfl) (Gives.pickF hE rfl hg122 rfl) rfl ?_; clear hE a; intro a hE
              refine WL.vS hS hE (runs_plain rfl) (Gives.p hE rfl) rfl ?_; clear hE a; intro a hE
              refine WL.no hE (runs_not hE rfl rfl rfl (by decide)) rfl ?_; clear hE a; intro a hE
              refine WL.no hE (runs_not hE rfl rfl rfl (by decide)) rfl ?_; clear hE a; intro a hE
              refine WL.no hE (runs_not hE rfl rfl rfl (by decide)) rfl ?_; clear hE a; intro a hE
              refine WL.no hE (runs_not hE rfl rfl rfl (by decide)) rfl ?_; clear hE a; intro a hE
              refine WL.no hE (runs_not hE rfl rfl rfl (by decide)) rfl ?_; clear hE a; intro a hE
              refine WL.vS hS hE (runs_plain rfl) (Gives.pickF hE rfl rfl rfl) rfl ?_; clear hE a; intro a hE
              refine WL.vS hS hE (runs_plain rfl) (Gives.p hE rfl) rfl ?_; clear hE a; intro a hE
              refine WL.nil ?_
              replace hS := hS.tail
              replace hS := hS.tail
              replace hS := hS.tail
              subst hK117
              exact ⟨false, Option.some.inj hq112, hE.pick _ ⟨rfl, trivial⟩, hS⟩
          · replace hq112 := iteF hg121 hq112
            refine WL.no hE (runs_not hE rfl rfl rfl (by rw [hg121]; decide)) rfl ?_; clear hE a; intro a hE
            refine WL.no hE (runs_not hE rfl rfl rfl (by rw [hg121]; decide)) rfl ?_; clear hE a; intro a hE
            refine WL.vS hS hE (runs_plain rfl) (Gives.pickF hE rfl hg121 rfl) rfl ?_; clear hE a; intro a hE
            refine WL.vS hS hE (runs_plain rfl) (Gives.p hE rfl) rfl ?_; clear hE a; intro a hE
            refine WL.no hE (runs_not hE rfl rfl rfl (by decide)) rfl ?_; clear hE a; intro a hE
            refine WL.no hE (runs_not hE rfl rfl rfl (by decide)) rfl ?_; clear hE a; intro a hE
            refine WL.no hE (runs_not hE rfl rfl rfl (by decide)) rfl ?_; clear hE a; intro a hE
            refine WL.vS hS hE (runs_plain rfl) (Gives.pickF hE rfl rfl rfl) rfl ?_; clear hE a; intro a hE
            refine WL.vS hS hE (runs_plain rfl) (Gives.p hE rfl) rfl ?_; clear hE a; intro a hE
            refine WL.no hE (runs_not hE rfl rfl rfl (by decide)) rfl ?_; clear hE a; intro a hE
            refine WL.no hE (runs_not hE rfl rfl rfl (by decide)) rfl ?_; clear hE a; intro a hE
            refine WL.no hE (runs_not hE rfl rfl rfl (by decide)) rfl ?_; clear hE a; intro a hE
            refine WL.no hE (runs_not hE rfl rfl rfl (by decide)) rfl ?_; clear hE a; intro a hE
            refine WL.no hE (runs_not hE rfl rfl rfl (by decide)) rfl ?_; clear hE a; intro a hE
            refine WL.vS hS hE (runs_plain rfl) (Gives.pickF hE rfl rfl rfl) rfl ?_; clear hE a; intro a hE
            refine WL.vS hS hE (runs_plain rfl) (Gives.p hE rfl) rfl ?_; clear hE a; intro a hE
            refine WL.nil ?_
            replace hS := hS.tail
            replace hS := hS.tail
            replace hS := hS.tail
            subst hK117
            exact ⟨false, Option.some.inj hq112, hE.pick _ ⟨rfl, trivial⟩, hS⟩
        · replace hq112 := iteF hg120 hq112
          refine WL.no hE (runs_not hE rfl rfl rfl (by rw [hg120]; decide)) rfl ?_; clear hE a; intro a hE
          refine WL.no hE (runs_not hE rfl rfl rfl (by rw [hg120]; decide)) rfl ?_; clear hE a; intro a hE
          refine WL.vS hS hE (runs_plain rfl) (Gives.pickF hE rfl hg120 rfl) rfl ?_; clear hE a; intro a hE
          refine WL.vS hS hE (runs_plain rfl) (Gives.p hE rfl) rfl ?_; clear hE a; intro a hE
          refine WL.no hE (runs_not hE rfl rfl rfl (by decide)) rfl ?_; clear hE a; intro a hE
          refine WL.no hE (runs_not hE rfl rfl rfl (by decide)) rfl ?_; clear hE a; intro a hE
          refine WL.vS hS hE (runs_plain rfl) (Gives.pickF hE rfl rfl rfl) rfl ?_; clear hE a; intro a hE
          refine WL.vS hS hE (runs_plain rfl) (Gives.p hE rfl) rfl ?_; clear hE a; intro a hE
          refine WL.no hE (runs_not hE rfl rfl rfl (by decide)) rfl ?_; clear hE a; intro a hE
          refine WL.no hE (runs_not hE rfl rfl rfl (by decide)) rfl ?_; clear hE a; intro a hE
          refine WL.no hE (runs_not hE rfl rfl rfl (by decide)) rfl ?_; clear hE a; intro a hE
          refine WL.vS hS hE (runs_plain rfl) (Gives.pickF hE rfl rfl rfl) rfl ?_; clear hE a; intro a hE
          refine WL.vS hS hE (runs_plain rfl) (Gives.p hE rfl) rfl ?_; clear hE a; intro a hE
          refine WL.no hE (runs_not hE rfl rfl rfl (by decide)) rfl ?_; clear hE a; intro a hE
          refine WL.no hE (runs_not hE rfl rfl rfl (by decide)) rfl ?_; clear hE a; intro a hE
          refine WL.no hE (runs_not hE rfl rfl rfl (by decide)) rfl ?_; clear hE a; intro a hE
          refine WL.no hE (runs_not hE rfl rfl rfl (by decide)) rfl ?_; clear hE a; intro a hE
          refine WL.no hE (runs_not hE rfl rfl rfl (by decide)) rfl ?_; clear hE a; intro a hE
          refine WL.vS hS hE (runs_plain rfl) (Gives.pickF hE rfl rfl rfl) rfl ?_; clear hE a; intro a hE
          refine WL.vS hS hE (runs_plain rfl) (Gives.p hE rfl) rfl ?_; clear hE a; intro a hE
          refine WL.nil ?_
          replace hS := hS.tail
          replace hS := hS.tail
          replace hS := hS.tail
          subst hK117
          exact ⟨false, Option.some.inj hq112, hE.pick _ ⟨rfl, trivial⟩, hS⟩
      · clear hE hS a w; rintro a w ⟨q116, rfl, hE, hS⟩
        refine W.ret ?_
        refine finG (fn := Try.f10) (rs := [.tmp 4]) (vs := [_]) hE rfl ⟨rfl, trivial⟩ ?_
        obtain rfl := Option.some.inj hr
        replace hS := hS.tail
        exact ⟨rfl, (hS.down hle61)⟩
end Go.Proofs.Ytfioafdipipcaaa
