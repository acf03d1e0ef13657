/- The walks of the functions that PlanBests reaches: each call comes to what its mirror says. The conditions are those of each contract. -/
import Derived.Test.YtffleanbfkjfiaaProg
import Derived.Test.YtffleanbfkjfiaaPlanBestsM
import Derived.Test.YtffleanbfkjfiaaFpMore
import Derived.Test.YtffleanbfkjfiaaPlanBestsW1
namespace Go.Proofs.Ytffleanbfkjfiaa
open Go Go.Fp
set_option maxHeartbeats 8000000 in
theorem CmpCompareint_ok  {w : World} {s : Sg} {R : List HP} {x0 : Int} {x1 : Int} (hS : St w s (R))  {r : Int} (hr : CmpCompareint x0 x1 = r) :
    Calls Try.prog 81 [.int .i64 x0, .int .i64 x1].toArray w (fun e w => e = .returned (.int .i64 r) ∧ St w s (R)) := by
  refine enter Try.func81 rfl rfl rfl fun a hE => ?_
  rw [CmpCompareint] at hr
  refine W.seq ?_
  refine W.region ?_
  refine WL.vS hS hE (runs_plain rfl) (Gives.p hE rfl) rfl ?_; clear hE a; intro a hE
  refine WL.nil ?_
  refine W.seq ?_
  refine W.region ?_
  refine WL.vS hS hE (runs_plain rfl) (Gives.p hE rfl) rfl ?_; clear hE a; intro a hE
  refine WL.fnq hE (CmpisNaNint_ok hS  rfl (r := CmpisNaNint x0)) (runs_plain rfl) bd90 rfl rfl rfl ?_
  clear hE hS; rintro e w ⟨rfl, hS⟩; refine ⟨_, rfl, ?_⟩; clear a; intro a hE
  refine WL.vS hS hE (runs_plain rfl) (Gives.p hE rfl) rfl ?_; clear hE a; intro a hE
  refine WL.nil ?_
  refine W.seq ?_
  refine W.region ?_
  refine WL.vS hS hE (runs_plain rfl) (Gives.p hE rfl) rfl ?_; clear hE a; intro a hE
  refine WL.fnq hE (CmpisNaNint_ok hS  rfl (r := CmpisNaNint x1)) (runs_plain rfl) bd90 rfl rfl rfl ?_
  clear hE hS; rintro e w ⟨rfl, hS⟩; refine ⟨_, rfl, ?_⟩; clear a; intro a hE
  refine WL.vS hS hE (runs_plain rfl) (Gives.p hE rfl) rfl ?_; clear hE a; intro a hE
  refine WL.nil ?_
  refine W.seq ?_
  refine W.seq ?_
  refine W.region ?_
  refine WL.vS hS hE (runs_plain rfl) (Gives.p hE rfl) rfl ?_; clear hE a; intro a hE
  refine WL.nil ?_
  refine W.cond hE rfl (fun hc51 => ?_) (fun hc51 => ?_)
  · replace hr := iteT hc51 hr
    refine W.seq ?_
    refine W.seq ?_
    refine W.region ?_
    refine WL.vS hS hE (runs_plain rfl) (Gives.p hE rfl) rfl ?_; clear hE a; intro a hE
    refine WL.nil ?_
    refine W.cond hE rfl (fun hc52 => ?_) (fun hc52 => ?_)
    · replace hr := iteT hc52 hr
      refine W.seq ?_
      refine W.region ?_
      refine WL.vS hS hE (runs_plain rfl) (Gives.p hE rfl) rfl ?_; clear hE a; intro a hE
      refine WL.nil ?_
      refine W.ret ?_
      refine finG (fn := Try.f81) (rs := [.tmp 4]) (vs := [_]) hE rfl ⟨rfl, trivial⟩ ?_
      subst hr
      exact ⟨rfl, hS⟩
    · replace hr := iteF hc52 hr
      refine W.skip ?_
      refine W.seq ?_
      refine W.region ?_
      refine WL.vS hS hE (runs_plain rfl) (Gives.p hE rfl) rfl ?_; clear hE a; intro a hE
      refine WL.nil ?_
      refine W.ret ?_
      refine finG (fn := Try.f81) (rs := [.tmp 4]) (vs := [_]) hE rfl ⟨rfl, trivial⟩ ?_
      subst hr
      exact ⟨rfl, hS⟩
  · replace hr := iteF hc51 hr
    refine W.skip ?_
    refine W.seq ?_
    refine W.seq ?_
    refine W.region ?_
    refine WL.vS hS hE (runs_plain rfl) (Gives.p hE rfl) rfl ?_; clear hE a; intro a hE
    refine WL.nil ?_
    refine W.cond hE rfl (fun hc53 => ?_) (fun hc53 => ?_)
    · replace hr := iteT hc53 hr
      refine W.seq ?_
      refine W.region ?_
      refine WL.vS hS hE (runs_plain rfl) (Gives.p hE rfl) rfl ?_; clear hE a; intro a hE
      refine WL.nil ?_
      refine W.ret ?_
      refine finG (fn := Try.f81) (rs := [.tmp 4]) (vs := [_]) hE rfl ⟨rfl, trivial⟩ ?_
      subst hr
      exact ⟨rfl, hS⟩
    · replace hr := iteF hc53 hr
      refine W.skip ?_
      refine W.seq ?_
      refine W.seq ?_
      refine W.region ?_
      refine WL.vS hS hE (runs_plain rfl) (Gives.p hE rfl) rfl ?_; clear hE a; intro a hE
      refine WL.vS hS hE (runs_plain rfl) (Gives.p hE rfl) rfl ?_; clear hE a; intro a hE
      refine WL.vS hS hE (runs_plain rfl) (Gives.p hE rfl) rfl ?_; clear hE a; intro a hE
      refine WL.nil ?_
      refine W.cond hE rfl (fun hc54 => ?_) (fun hc54 => ?_)
      · replace hr := iteT hc54 hr
        refine W.seq ?_
        refine W.region ?_
        refine WL.vS hS hE (runs_plain rfl) (Gives.p hE rfl) rfl ?_; clear hE a; intro a hE
        refine WL.nil ?_
        refine W.ret ?_
        refine finG (fn := Try.f81) (rs := [.tmp 4]) (vs := [_]) hE rfl ⟨rfl, trivial⟩ ?_
        subst hr
        exact ⟨rfl, hS⟩
      · replace hr := iteF hc54 hr
        refine W.skip ?_
        refine W.seq ?_
        refine W.seq ?_
        refine W.region ?_
        refine WL.vS hS hE (runs_plain rfl) (Gives.p hE rfl) rfl ?_; clear hE a; intro a hE
        refine WL.vS hS hE (runs_plain rfl) (Gives.p hE rfl) rfl ?_; clear hE a; intro a hE
        refine WL.vS hS hE (runs_plain rfl) (Gives.p hE rfl) rfl ?_; clear hE a; intro a hE
        refine WL.nil ?_
        refine W.cond hE rfl (fun hc55 => ?_) (fun hc55 => ?_)
        · replace hr := iteT hc55 hr
          refine W.seq ?_
          refine W.region ?_
          refine WL.vS hS hE (runs_plain rfl) (Gives.p hE rfl) rfl ?_; clear hE a; intro a hE
          refine WL.nil ?_
          refine W.ret ?_
          refine finG (fn := Try.f81) (rs := [.tmp 4]) (vs := [_]) hE rfl ⟨rfl, trivial⟩ ?_
          subst hr
          exact ⟨rfl, hS⟩
        · replace hr := iteF hc55 hr
          refine W.skip ?_
          refine W.seq ?_
          refine W.region ?_
          refine WL.vS hS hE (runs_plain rfl) (Gives.p hE rfl) rfl ?_; clear hE a; intro a hE
          refine WL.nil ?_
          refine W.ret ?_
          refine finG (fn := Try.f81) (rs := [.tmp 4]) (vs := [_]) hE rfl ⟨rfl, trivial⟩ ?_
          subst hr
          exact ⟨rfl, hS⟩
set_option maxHeartbeats 8000000 in
theorem SlicesCompareLint_ok  {w : World} {s : Sg} {R : List HP} {x0 : List Int} {a0 : Option Addr} {c0 : Nat} {x1 : List Int} {a1 : Option Addr} {c1 : Nat} (hS : St w s (R)) (h0 : Sl 1 (RI .i64) s a0 c0 x0) (h1 : Sl 1 (RI .i64) s a1 c1 x1) {r : Int} (hr : SlicesCompareLint x0 x1 = some r) :
    Calls Try.prog 52 [.slice a0 x0.length c0, .slice a1 x1.length c1].toArray w (fun e w => e = .returned (.int .i64 r) ∧ St w s (R)) := by
  refine enter Try.func52 rfl rfl rfl fun a hE => ?_
  rw [SlicesCompareLint] at hr
  refine W.seq ?_
  refine W.region ?_
  refine WL.vS hS hE (runs_plain rfl) (Gives.p hE rfl) rfl ?_; clear hE a; intro a hE
  refine WL.nil ?_
  refine W.seq ?_
  refine W.seq ?_
  refine W.region ?_
  refine WL.vS hS hE (runs_plain rfl) (Gives.p hE rfl) rfl ?_; clear hE a; intro a hE
  refine WL.vS hS hE (runs_plain rfl) (Gives.len hE rfl sl29) rfl ?_; clear hE a; intro a hE
  refine WL.vS hS hE (runs_plain rfl) (Gives.p hE rfl) rfl ?_; clear hE a; intro a hE
  refine WL.nil ?_
  obtain ⟨q52, hq51, hr⟩ := bindS hr
  refine W.cut (fun a w => (.next ()) = q52 ∧ Rep a 36 [(0, .slice a0 x0.length c0), (1, .slice a1 x1.length c1)] ∧ St w s (R)) ?_ ?_
  · refine W.block ?_
    refine W.loop (fun m a w => ∃ (rest55 : List Int) (k53 : Nat), rest55.length = m ∧ x0.drop k53 = rest55 ∧ SlicesCompareLint.loop1 x1 rest55 k53 = some q52 ∧ Rep a 36 [(0, .slice a0 x0.length c0), (1, .slice a1 x1.length c1), (9, .slice a0 x0.length c0), (10, .int .i64 ((x0).length : Int)), (11, .int .i64 ((k53 : Nat) : Int))] ∧ St w s (R)) (m := x0.length) ⟨x0, 0, rfl, rfl, hq51, hE.pick _ ⟨rfl, rfl, rfl, rfl, rfl, trivial⟩, hS⟩ ?_
    clear hE hS a w hq51; rintro m59 a w ⟨rest55, k53, rfl, hd56, hq51, hE, hS⟩
    refine W.gen fun K62 hK62 => ?_
    rcases rest55 with _ | ⟨x54, rest55⟩
    · have hlt57 := drop_nil hd56
      refine W.seq ?_
      refine W.region ?_
      refine WL.vS hS hE (runs_plain rfl) (Gives.p hE rfl) rfl ?_; clear hE a; intro a hE
      refine WL.nil ?_
      refine W.seq ?_
      refine W.condF hE rfl (decide_eq_false (by omega)) ?_
      subst hK62
      refine W.exit rfl ?_
      exact ⟨Option.some.inj hq51, hE.pick _ ⟨rfl, rfl, trivial⟩, hS⟩
    · obtain ⟨hlt57, hx58, hd56⟩ := drop_cons hd56
      rw [SlicesCompareLint.loop1] at hq51
      refine W.seq ?_
      refine W.region ?_
      refine WL.vS hS hE (runs_plain rfl) (Gives.p hE rfl) rfl ?_; clear hE a; intro a hE
      refine WL.nil ?_
      refine W.seq ?_
      refine W.condT hE rfl (decide_eq_true (by omega)) ?_
      refine W.skip ?_
      refine W.seq ?_
      refine W.block ?_
      refine W.seq ?_
      refine W.region ?_
      refine WL.vS hS hE (runs_plain rfl) (Gives.p hE rfl) rfl ?_; clear hE a; intro a hE
      obtain ⟨cs63, hl64, hR65, hat66⟩ := h0.at hx58
      subst hR65
      refine WL.vS hS hE (runs_plain rfl) (Gives.idx hE k53 rfl rfl sl29 rfl hlt57 (h0.aok hlt57)) rfl ?_; clear hE a; intro a hE
      refine WL.vS hS hE (runs_plain rfl) (Gives.load1 hE rfl (fun w h => hat66 w _ h) ty3) rfl ?_; clear hE a; intro a hE
      refine WL.vS hS hE (runs_plain rfl) (Gives.p hE rfl) rfl ?_; clear hE a; intro a hE
      refine WL.vS hS hE (runs_plain rfl) (Gives.p hE rfl) rfl ?_; clear hE a; intro a hE
      refine WL.nil ?_
      refine W.seq ?_
      refine W.seq ?_
      refine W.region ?_
      refine WL.vS hS hE (runs_plain rfl) (Gives.p hE rfl) rfl ?_; clear hE a; intro a hE
      refine WL.vS hS hE (runs_plain rfl) (Gives.p hE rfl) rfl ?_; clear hE a; intro a hE
      refine WL.vS hS hE (runs_plain rfl) (Gives.len hE rfl sl29) rfl ?_; clear hE a; intro a hE
      refine WL.vS hS hE (runs_plain rfl) (Gives.p hE rfl) rfl ?_; clear hE a; intro a hE
      refine WL.nil ?_
      refine W.cond hE rfl (fun hc67 => ?_) (fun hc67 => ?_)
      · replace hq51 := iteT hc67 hq51
        refine W.seq ?_
        refine W.region ?_
        refine WL.vS hS hE (runs_plain rfl) (Gives.p hE rfl) rfl ?_; clear hE a; intro a hE
        refine WL.nil ?_
        refine W.ret ?_
        subst hK62
        rw [← Option.some.inj hq51] at hr
        dsimp only at hr
        refine finG (fn := Try.f52) (rs := [.tmp 4]) (vs := [_]) hE rfl ⟨rfl, trivial⟩ ?_
        obtain rfl := Option.some.inj hr
        exact ⟨rfl, hS⟩
      · replace hq51 := iteF hc67 hq51
        refine W.skip ?_
        refine W.seq ?_
        refine W.region ?_
        refine WL.vS hS hE (runs_plain rfl) (Gives.p hE rfl) rfl ?_; clear hE a; intro a hE
        refine WL.vS hS hE (runs_plain rfl) (Gives.p hE rfl) rfl ?_; clear hE a; intro a hE
        obtain ⟨x68, hx69, hq51⟩ := bindS hq51
        obtain ⟨hi70, hlt71, hy72⟩ := gx_some hx69
        obtain ⟨cs73, hl74, hR75, hat76⟩ := h1.at hy72
        subst hR75
        refine WL.vS hS hE (runs_plain rfl) (Gives.idx hE (((k53 : Nat) : Int)).toNat rfl rfl sl29 hi70 hlt71 (h1.aok hlt71)) rfl ?_; clear hE a; intro a hE
        refine WL.vS hS hE (runs_plain rfl) (Gives.load1 hE rfl (fun w h => hat76 w _ h) ty3) rfl ?_; clear hE a; intro a hE
        refine WL.vS hS hE (runs_plain rfl) (Gives.p hE rfl) rfl ?_; clear hE a; intro a hE
        refine WL.nil ?_
        refine W.seq ?_
        refine W.region ?_
        refine WL.vS hS hE (runs_plain rfl) (Gives.p hE rfl) rfl ?_; clear hE a; intro a hE
        refine WL.vS hS hE (runs_plain rfl) (Gives.p hE rfl) rfl ?_; clear hE a; intro a hE
        refine WL.fnq hE (CmpCompareint_ok hS  rfl (r := CmpCompareint x54 x68)) (runs_plain rfl) bd81 rfl rfl rfl ?_
        clear hE hS; rintro e w ⟨rfl, hS⟩; refine ⟨_, rfl, ?_⟩; clear a; intro a hE
        refine WL.vS hS hE (runs_plain rfl) (Gives.p hE rfl) rfl ?_; clear hE a; intro a hE
        refine WL.nil ?_
        refine W.seq ?_
        refine W.region ?_
        refine WL.vS hS hE (runs_plain rfl) (Gives.p hE rfl) rfl ?_; clear hE a; intro a hE
        refine WL.vS hS hE (runs_plain rfl) (Gives.p hE rfl) rfl ?_; clear hE a; intro a hE
        refine WL.nil ?_
        refine W.cond hE rfl (fun hc77 => ?_) (fun hc77 => ?_)
        · replace hq51 := iteT hc77 hq51
          refine W.seq ?_
          refine W.region ?_
          refine WL.vS hS hE (runs_plain rfl) (Gives.p hE rfl) rfl ?_; clear hE a; intro a hE
          refine WL.vS hS hE (runs_plain rfl) (Gives.p hE rfl) rfl ?_; clear hE a; intro a hE
          refine WL.nil ?_
          refine W.ret ?_
          subst hK62
          rw [← Option.some.inj hq51] at hr
          dsimp only at hr
          refine finG (fn := Try.f52) (rs := [.tmp 4]) (vs := [_]) hE rfl ⟨rfl, trivial⟩ ?_
          obtain rfl := Option.some.inj hr
          exact ⟨rfl, hS⟩
        · replace hq51 := iteF hc77 hq51
          refine W.skip ?_
          refine W.region ?_
          refine WL.vS hS hE (runs_plain rfl) (Gives.inc hE rfl (by have := h0.small; omega)) rfl ?_; clear hE a; intro a hE
          refine WL.vS hS hE (runs_plain rfl) (Gives.p hE rfl) rfl ?_; clear hE a; intro a hE
          refine WL.nil ?_
          subst hK62
          exact ⟨rest55.length, Nat.lt_succ_self _, rest55, k53 + 1, rfl, hd56, hq51, hE.pick _ ⟨rfl, rfl, rfl, rfl, rfl, trivial⟩, hS⟩
  · clear hE hS a w; rintro a w ⟨rfl, hE, hS⟩
    dsimp only at hr
    refine W.seq ?_
    refine W.seq ?_
    refine W.region ?_
    refine WL.vS hS hE (runs_plain rfl) (Gives.p hE rfl) rfl ?_; clear hE a; intro a hE
    refine WL.vS hS hE (runs_plain rfl) (Gives.len hE rfl sl29) rfl ?_; clear hE a; intro a hE
    refine WL.vS hS hE (runs_plain rfl) (Gives.p hE rfl) rfl ?_; clear hE a; intro a hE
    refine WL.vS hS hE (runs_plain rfl) (Gives.len hE rfl sl29) rfl ?_; clear hE a; intro a hE
    refine WL.vS hS hE (runs_plain rfl) (Gives.p hE rfl) rfl ?_; clear hE a; intro a hE
    refine WL.nil ?_
    refine W.cond hE rfl (fun hc78 => ?_) (fun hc78 => ?_)
    · replace hr := iteT hc78 hr
      refine W.seq ?_
      refine W.region ?_
      refine WL.vS hS hE (runs_plain rfl) (Gives.p hE rfl) rfl ?_; clear hE a; intro a hE
      refine WL.nil ?_
      refine W.ret ?_
      refine finG (fn := Try.f52) (rs := [.tmp 4]) (vs := [_]) hE rfl ⟨rfl, trivial⟩ ?_
      obtain rfl := Option.some.inj hr
      exact ⟨rfl, hS⟩
    · replace hr := iteF hc78 hr
      refine W.skip ?_
      refine W.seq ?_
      refine W.region ?_
      refine WL.vS hS hE (runs_plain rfl) (Gives.p hE rfl) rfl ?_; clear hE a; intro a hE
      refine WL.nil ?_
      refine W.ret ?_
      refine finG (fn := Try.f52) (rs := [.tmp 4]) (vs := [_]) hE rfl ⟨rfl, trivial⟩ ?_
      obtain rfl := Option.some.inj hr
      exact ⟨rfl, hS⟩
set_option maxHeartbeats 8000000 in
theorem PlanBest_2_v1_ok {fu : Nat}  {w : World} {s : Sg} {R : List HP} {pb0 : Nat} {pb1 : Nat} {pb2 : Nat} {x0 : Option (List Int)} {a0 : Option Addr} {x1 : List Int} {a1 : Option Addr} {c1 : Nat} {y0 : PlanPeriodic} {a_y0_2 : Option Addr} {c_y0_2 : Nat} {y1 : List Int} {a_y1_0 : Option Addr} {c_y1_0 : Nat} {y2 : Int} (hS : St w s (pt pb0 (.cells #[.int .i64 y0.Period, .int .i64 y0.Events, .slice a_y0_2 y0.Rules.length c_y0_2] 24 (0, 0)) :: pt pb1 (.cells #[.slice a_y1_0 y1.length c_y1_0] 29 (0, 0)) :: pt pb2 (.cells #[.int .i64 y2] 3 (0, 0)) :: R)) (h0 : Pt 64 (RA .i64 64) s a0 x0) (h1 : Sl 1 (RI .i64) s a1 c1 x1) (h_y0_2 : Sl 5 RPlanRule s a_y0_2 c_y0_2 y0.Rules) (h_y1_0 : Sl 1 (RI .i64) s a_y1_0 c_y1_0 y1) (hz_y1_0 : y1 = [] → a_y1_0 = none) {r : (List Int) × Int} (hr : PlanBest_2_v1 fu x0 x1 y0 y1 y2 = some r) :
    Calls Try.prog 50 [.pointer a0, .slice a1 x1.length c1, .pointer (some ⟨pb0, 0, none⟩), .pointer (some ⟨pb1, 0, none⟩), .pointer (some ⟨pb2, 0, none⟩)].toArray w (fun e w => ∃ (a58 : Option Addr) (c59 : Nat) (t : Sg), e = .returned (.tuple #[]) ∧ s.Le t ∧ Sl 1 (RI .i64) t a58 c59 r.1 ∧ (r.1 = [] → a58 = none) ∧ St w t (pt pb0 (.cells #[.int .i64 y0.Period, .int .i64 y0.Events, .slice a_y0_2 y0.Rules.length c_y0_2] 24 (0, 0)) :: pt pb1 (.cells #[.slice a58 r.1.length c59] 29 (0, 0)) :: pt pb2 (.cells #[.int .i64 r.2] 3 (0, 0)) :: R)) := by
  refine enter Try.func50 rfl rfl rfl fun a hE => ?_
  rw [PlanBest_2_v1] at hr
  refine W.seq ?_
  refine W.region ?_
  refine WL.vS hS hE (runs_plain rfl) (Gives.loadBA hE 0 rfl rfl ty24) rfl ?_; clear hE a; intro a hE
  refine WL.vS hS hE (runs_plain rfl) (Gives.p hE rfl) rfl ?_; clear hE a; intro a hE
  refine WL.vS hS hE (runs_plain rfl) (Gives.p hE rfl) rfl ?_; clear hE a; intro a hE
  obtain ⟨q63, hq64, hr⟩ := bindS hr
  have hc_ := Plancheapest_ok hS h_y0_2 h0 h1 hq64
  refine WL.fnq hE (hc_) (runs_plain rfl) bd51 rfl rfl rfl ?_
  clear hE hS hc_; rintro e w ⟨a65, c66, n67, cs68, rfl, h69, rfl, hS⟩; refine ⟨_, rfl, ?_⟩; clear a; intro a hE
  refine WL.vS hS hE (runs_plain rfl) (Gives.p hE rfl) rfl ?_; clear hE a; intro a hE
  refine WL.vS hS hE (runs_plain rfl) (Gives.p hE rfl) rfl ?_; clear hE a; intro a hE
  refine WL.vS hS hE (runs_plain rfl) (Gives.p hE rfl) rfl ?_; clear hE a; intro a hE
  refine WL.vS hS hE (runs_plain rfl) (Gives.p hE rfl) rfl ?_; clear hE a; intro a hE
  refine WL.vS hS hE (runs_plain rfl) (Gives.p hE rfl) rfl ?_; clear hE a; intro a hE
  refine WL.nil ?_
  refine W.seq ?_
  obtain ⟨q72, hq71, hr⟩ := bindS hr
  refine W.cut (fun a w => ∃ (q75 : Bool), q75 = q72 ∧ Rep a 36 [(3, .pointer (some ⟨pb1, 0, none⟩)), (4, .pointer (some ⟨pb2, 0, none⟩)), (7, .slice a65 q63.1.length c66), (8, .int .i64 q63.2), (33, .bool q75)] ∧ St w s (vecC 3 1 a65 c66 q63.1.length cs68 :: pt pb0 (.cells #[.int .i64 y0.Period, .int .i64 y0.Events, .slice a_y0_2 y0.Rules.length c_y0_2] 24 (0, 0)) :: pt pb1 (.cells #[.slice a_y1_0 y1.length c_y1_0] 29 (0, 0)) :: pt pb2 (.cells #[.int .i64 y2] 3 (0, 0)) :: R)) ?_ ?_
  · refine W.gen fun K76 hK76 => ?_
    refine W.region ?_
    refine WL.vS hS hE (runs_plain rfl) (Gives.loadB hE 2 rfl rfl rfl ty29) rfl ?_; clear hE a; intro a hE
    refine WL.vS hS hE (runs_plain rfl) (Gives.isNilZ hE (isNone_eq h_y1_0 hz_y1_0) rfl rfl isl29) rfl ?_; clear hE a; intro a hE
    refine WL.vS hS hE (runs_plain rfl) (Gives.p hE rfl) rfl ?_; clear hE a; intro a hE
    rcases Bool.eq_false_or_eq_true y1.isEmpty with hg77 | hg77
    · replace hq71 := iteT hg77 hq71
      refine WL.no hE (runs_not hE rfl rfl rfl (by rw [hg77]; decide)) rfl ?_; clear hE a; intro a hE
      refine WL.no hE (runs_not hE rfl rfl rfl (by rw [hg77]; decide)) rfl ?_; clear hE a; intro a hE
      refine WL.no hE (runs_not hE rfl rfl rfl (by rw [hg77]; decide)) rfl ?_; clear hE a; intro a hE
      refine WL.vS hS hE (runs_plain rfl) (Gives.pickT hE rfl hg77 rfl) rfl ?_; clear hE a; intro a hE
      refine WL.vS hS hE (runs_plain rfl) (Gives.p hE rfl) rfl ?_; clear hE a; intro a hE
      refine WL.no hE (runs_not hE rfl rfl rfl (by decide)) rfl ?_; clear hE a; intro a hE
      refine WL.no hE (runs_not hE rfl rfl rfl (by decide)) rfl ?_; clear hE a; intro a hE
      refine WL.no hE (runs_not hE rfl rfl rfl (by decide)) rfl ?_; clear hE a; intro a hE
      refine WL.no hE (runs_not hE rfl rfl rfl (by decide)) rfl ?_; clear hE a; intro a hE
      refine WL.no hE (runs_undef hE rfl rfl rfl) rfl ?_; clear hE a; intro a hE
      refine WL.no hE (runs_undef hE rfl rfl rfl) rfl ?_; clear hE a; intro a hE
      refine WL.no hE (runs_undef hE rfl rfl rfl) rfl ?_; clear hE a; intro a hE
      refine WL.no hE (runs_undef hE rfl rfl rfl) rfl ?_; clear hE a; intro a hE
      refine WL.no hE (runs_not hE rfl rfl rfl (by decide)) rfl ?_; clear hE a; intro a hE
      refine WL.vS hS hE (runs_plain rfl) (Gives.pickT hE rfl rfl rfl) rfl ?_; clear hE a; intro a hE
      refine WL.nil ?_
      subst hK76
      exact ⟨true, Option.some.inj hq71, hE.pick _ ⟨rfl, rfl, rfl, rfl, rfl, trivial⟩, hS⟩
    · replace hq71 := iteF hg77 hq71
      refine WL.vS hS hE (runs_if hE rfl rfl rfl hg77) (Gives.p hE rfl) rfl ?_; clear hE a; intro a hE
      refine WL.vS hS hE (runs_if hE rfl rfl rfl hg77) (Gives.loadB hE 3 rfl rfl rfl ty3) rfl ?_; clear hE a; intro a hE
      refine WL.vS hS hE (runs_if hE rfl rfl rfl hg77) (Gives.p hE rfl) rfl ?_; clear hE a; intro a hE
      refine WL.vS hS hE (runs_plain rfl) (Gives.pickF hE rfl hg77 rfl) rfl ?_; clear hE a; intro a hE
      refine WL.vS hS hE (runs_plain rfl) (Gives.p hE rfl) rfl ?_; clear hE a; intro a hE
      rcases Bool.eq_false_or_eq_true (decide (q63.2 < y2)) with hg78 | hg78
      · replace hq71 := iteT hg78 hq71
        refine WL.no hE (runs_not hE rfl rfl rfl (by rw [hg78]; decide)) rfl ?_; clear hE a; intro a hE
        refine WL.no hE (runs_not hE rfl rfl rfl (by rw [hg78]; decide)) rfl ?_; clear hE a; intro a hE
        refine WL.no hE (runs_not hE rfl rfl rfl (by rw [hg78]; decide)) rfl ?_; clear hE a; intro a hE
        refine WL.no hE (runs_not hE rfl rfl rfl (by rw [hg78]; decide)) rfl ?_; clear hE a; intro a hE
        refine WL.no hE (runs_undef hE rfl rfl rfl) rfl ?_; clear hE a; intro a hE
        refine WL.no hE (runs_undef hE rfl rfl rfl) rfl ?_; clear hE a; intro a hE
        refine WL.no hE (runs_undef hE rfl rfl rfl) rfl ?_; clear hE a; intro a hE
        refine WL.no hE (runs_undef hE rfl rfl rfl) rfl ?_; clear hE a; intro a hE
        refine WL.no hE (runs_not hE rfl rfl rfl (by rw [hg78]; decide)) rfl ?_; clear hE a; intro a hE
        refine WL.vS hS hE (runs_plain rfl) (Gives.pickT hE rfl hg78 rfl) rfl ?_; clear hE a; intro a hE
        refine WL.nil ?_
        subst hK76
        exact ⟨true, Option.some.inj hq71, hE.pick _ ⟨rfl, rfl, rfl, rfl, rfl, trivial⟩, hS⟩
      · replace hq71 := iteF hg78 hq71
        refine WL.vS hS hE (runs_if hE rfl rfl rfl hg78) (Gives.p hE rfl) rfl ?_; clear hE a; intro a hE
        refine WL.vS hS hE (runs_if hE rfl rfl rfl hg78) (Gives.loadB hE 3 rfl rfl rfl ty3) rfl ?_; clear hE a; intro a hE
        refine WL.vS hS hE (runs_if hE rfl rfl rfl hg78) (Gives.p hE rfl) rfl ?_; clear hE a; intro a hE
        refine WL.vS hS hE (runs_if hE rfl rfl rfl hg78) (Gives.p hE rfl) rfl ?_; clear hE a; intro a hE
        rcases Bool.eq_false_or_eq_true (q63.2 == y2) with hg79 | hg79
        · replace hq71 := iteT hg79 hq71
          refine WL.vS hS hE (runs_if hE rfl rfl rfl hg79) (Gives.p hE rfl) rfl ?_; clear hE a; intro a hE
          refine WL.vS hS hE (runs_if hE rfl rfl rfl hg79) (Gives.loadB hE 2 rfl rfl rfl ty29) rfl ?_; clear hE a; intro a hE
          obtain ⟨q80, hq81, hq71⟩ := bindS hq71
          have hF := hS.lendV RI.mono 0 rfl h69 rfl; clear hS; obtain ⟨t82, hle83, hS, hs84, bk85⟩ := hF
          have hc_ := SlicesCompareLint_ok hS hs84 (Sl.mono RI.mono hle83 h_y1_0) hq81
          refine WL.fnq hE (hc_) (runs_if hE rfl rfl rfl hg79) bd52 rfl rfl rfl ?_
          clear hE hS hc_; rintro e w ⟨rfl, hS⟩; refine ⟨_, rfl, ?_⟩; clear a; intro a hE
          replace hS := bk85 _ _ hS
          refine WL.vS hS hE (runs_if hE rfl rfl rfl hg79) (Gives.p hE rfl) rfl ?_; clear hE a; intro a hE
          refine WL.vS hS hE (runs_if hE rfl rfl rfl hg78) (Gives.pickT hE rfl hg79 rfl) rfl ?_; clear hE a; intro a hE
          refine WL.vS hS hE (runs_plain rfl) (Gives.pickF hE rfl hg78 rfl) rfl ?_; clear hE a; intro a hE
          refine WL.nil ?_
          subst hK76
          exact ⟨decide (q80 < 0), Option.some.inj hq71, hE.pick _ ⟨rfl, rfl, rfl, rfl, rfl, trivial⟩, hS⟩
        · replace hq71 := iteF hg79 hq71
          refine WL.no hE (runs_not hE rfl rfl rfl (by rw [hg79]; decide)) rfl ?_; clear hE a; intro a hE
          refine WL.no hE (runs_not hE rfl rfl rfl (by rw [hg79]; decide)) rfl ?_; clear hE a; intro a hE
          refine WL.no hE (runs_not hE rfl rfl rfl (by rw [hg79]; decide)) rfl ?_; clear hE a; intro a hE
          refine WL.no hE (runs_not hE rfl rfl rfl (by rw [hg79]; decide)) rfl ?_; clear hE a; intro a hE
          refine WL.vS hS hE (runs_if hE rfl rfl rfl hg78) (Gives.pickF hE rfl hg79 rfl) rfl ?_; clear hE a; intro a hE
          refine WL.vS hS hE (runs_plain rfl) (Gives.pickF hE rfl hg78 rfl) rfl ?_; clear hE a; intro a hE
          refine WL.nil ?_
          subst hK76
          exact ⟨false, Option.some.inj hq71, hE.pick _ ⟨rfl, rfl, rfl, rfl, rfl, trivial⟩, hS⟩
  · clear hE hS a w; rintro a w ⟨q75, rfl, hE, hS⟩
    obtain ⟨q87, hq86, hr⟩ := bindS hr
    refine W.cut (fun a w => ∃ (q90 : List Int), ∃ (q95 : Int), ∃ (a91 : Option Addr), ∃ (c92 : Nat), ∃ (s88 : Sg), s.Le s88 ∧ (q90, q95) = q87 ∧ Sl 1 (RI .i64) s88 a91 c92 q90 ∧ (q90 = [] → a91 = none) ∧ Rep a 36 [] ∧ St w s88 (pt pb0 (.cells #[.int .i64 y0.Period, .int .i64 y0.Events, .slice a_y0_2 y0.Rules.length c_y0_2] 24 (0, 0)) :: pt pb1 (.cells #[.slice a91 q90.length c92] 29 (0, 0)) :: pt pb2 (.cells #[.int .i64 q95] 3 (0, 0)) :: R)) ?_ ?_
    · refine W.gen fun K96 hK96 => ?_
      refine W.cond hE rfl (fun hc97 => ?_) (fun hc97 => ?_)
      · replace hq86 := iteT hc97 hq86
        refine W.region ?_
        refine WL.vS hS hE (runs_plain rfl) (Gives.p hE rfl) rfl ?_; clear hE a; intro a hE
        refine WL.vS hS hE (runs_plain rfl) (Gives.p hE rfl) rfl ?_; clear hE a; intro a hE
        have hF := hS.fixD RI.mono 0 rfl h69 rfl; clear hS; obtain ⟨s98, hle99, hS, h100⟩ := hF
        replace h_y0_2 := Sl.mono RPlanRule.mono hle99 h_y0_2
        replace h_y1_0 := Sl.mono RI.mono hle99 h_y1_0
        obtain ⟨_, hx101, hq86⟩ := bindS hq86
        refine WL.storeI hE hS 1 rfl [.slice a65 q63.1.length c66] (runs_plain rfl) rfl rfl rfl ty29 rfl rfl rfl rfl ?_; clear hE hS a w; intro a w hE hS
        refine WL.storeI hE hS 2 rfl [.int .i64 q63.2] (runs_plain rfl) rfl rfl rfl ty3 rfl rfl rfl rfl ?_; clear hE hS a w; intro a w hE hS
        refine WL.nil ?_
        subst hK96
        exact ⟨q63.1, q63.2, a65, c66, s98, hle99, Option.some.inj hq86, h100, (nz_some hx101), hE.pick _ trivial, hS⟩
      · replace hq86 := iteF hc97 hq86
        refine W.skip ?_
        replace hS := hS.tail
        subst hK96
        exact ⟨y1, y2, a_y1_0, c_y1_0, s, (Sg.Le.refl _), Option.some.inj hq86, h_y1_0, hz_y1_0, hE.pick _ trivial, hS⟩
    · clear hE hS a w; rintro a w ⟨q90, q95, a91, c92, s88, hle89, rfl, h93, hz94, hE, hS⟩
      dsimp only at hr
      replace h_y0_2 := Sl.mono RPlanRule.mono hle89 h_y0_2
      replace h_y1_0 := Sl.mono RI.mono hle89 h_y1_0
      refine finG (fn := Try.f50) (rs := []) (vs := []) hE rfl trivial ?_
      obtain rfl := Option.some.inj hr
      exact ⟨a91, c92, s88, rfl, hle89, h93, hz94, hS⟩
set_option maxHeartbeats 8000000 in
theorem PlanBest_2_v2_ok {fu : Nat}  {w : World} {s : Sg} {R : List HP} {pb0 : Nat} {pb1 : Nat} {pb2 : Nat} {x0 : Option (List Int)} {a0 : Option Addr} {x1 : List Int} {a_v0 : Option Addr} {c_v0 n_v0 : Nat} {cs_v0 : List Value} {y0 : PlanPeriodic} {a_y0_2 : Option Addr} {c_y0_2 : Nat} {y1 : List Int} {a_y1_0 : Option Addr} {c_y1_0 : Nat} {y2 : Int} (hS : St w s (pt pb0 (.cells #[.int .i64 y0.Period, .int .i64 y0.Events, .slice a_y0_2 y0.Rules.length c_y0_2] 24 (0, 0)) :: pt pb1 (.cells #[.slice a_y1_0 y1.length c_y1_0] 29 (0, 0)) :: pt pb2 (.cells #[.int .i64 y2] 3 (0, 0)) :: vecC 3 1 a_v0 c_v0 n_v0 cs_v0 :: R)) (h0 : Pt 64 (RA .i64 64) s a0 x0) (h_v0 : Ev 1 (RI .i64) s cs_v0 x1) (hn_v0 : x1.length = n_v0) (h_y0_2 : Sl 5 RPlanRule s a_y0_2 c_y0_2 y0.Rules) (h_y1_0 : Sl 1 (RI .i64) s a_y1_0 c_y1_0 y1) (hz_y1_0 : y1 = [] → a_y1_0 = none) {r : (List Int) × Int} (hr : PlanBest_2_v2 fu x0 x1 y0 y1 y2 = some r) :
    Calls Try.prog 50 [.pointer a0, .slice a_v0 n_v0 c_v0, .pointer (some ⟨pb0, 0, none⟩), .pointer (some ⟨pb1, 0, none⟩), .pointer (some ⟨pb2, 0, none⟩)].toArray w (fun e w => ∃ (a58 : Option Addr) (c59 : Nat) (t : Sg), e = .returned (.tuple #[]) ∧ s.Le t ∧ Sl 1 (RI .i64) t a58 c59 r.1 ∧ (r.1 = [] → a58 = none) ∧ St w t (pt pb0 (.cells #[.int .i64 y0.Period, .int .i64 y0.Events, .slice a_y0_2 y0.Rules.length c_y0_2] 24 (0, 0)) :: pt pb1 (.cells #[.slice a58 r.1.length c59] 29 (0, 0)) :: pt pb2 (.cells #[.int .i64 r.2] 3 (0, 0)) :: vecC 3 1 a_v0 c_v0 n_v0 cs_v0 :: R)) := by
  refine enter Try.func50 rfl rfl rfl fun a hE => ?_
  rw [PlanBest_2_v2] at hr
  subst hn_v0
  refine W.seq ?_
  refine W.region ?_
  refine WL.vS hS hE (runs_plain rfl) (Gives.loadBA hE 0 rfl rfl ty24) rfl ?_; clear hE a; intro a hE
  refine WL.vS hS hE (runs_plain rfl) (Gives.p hE rfl) rfl ?_; clear hE a; intro a hE
  refine WL.vS hS hE (runs_plain rfl) (Gives.p hE rfl) rfl ?_; clear hE a; intro a hE
  obtain ⟨q63, hq64, hr⟩ := bindS hr
  have hF := hS.lendV RI.mono 3 rfl h_v0 (rfl); clear hS; obtain ⟨t71, hle72, hS, hs73, bk74⟩ := hF
  have hc_ := Plancheapest_ok hS (Sl.mono RPlanRule.mono hle72 h_y0_2) (Pt.mono RA.mono hle72 h0) hs73 hq64
  refine WL.fnq hE (hc_) (runs_plain rfl) bd51 rfl rfl rfl ?_
  clear hE hS hc_; rintro e w ⟨a65, c66, n67, cs68, rfl, h69, rfl, hS⟩; refine ⟨_, rfl, ?_⟩; clear a; intro a hE
  replace hS := bk74 _ _ hS
  replace h69 := Ev.flat (s2 := s) (fun _ _ _ _ h => h) h69
  refine WL.vS hS hE (runs_plain rfl) (Gives.p hE rfl) rfl ?_; clear hE a; intro a hE
  refine WL.vS hS hE (runs_plain rfl) (Gives.p hE rfl) rfl ?_; clear hE a; intro a hE
  refine WL.vS hS hE (runs_plain rfl) (Gives.p hE rfl) rfl ?_; clear hE a; intro a hE
  refine WL.vS hS hE (runs_plain rfl) (Gives.p hE rfl) rfl ?_; clear hE a; intro a hE
  refine WL.vS hS hE (runs_plain rfl) (Gives.p hE rfl) rfl ?_; clear hE a; intro a hE
  refine WL.nil ?_
  refine W.seq ?_
  obtain ⟨q76, hq75, hr⟩ := bindS hr
  refine W.cut (fun a w => ∃ (q79 : Bool), q79 = q76 ∧ Rep a 36 [(3, .pointer (some ⟨pb1, 0, none⟩)), (4, .pointer (some ⟨pb2, 0, none⟩)), (7, .slice a65 q63.1.length c66), (8, .int .i64 q63.2), (33, .bool q79)] ∧ St w s (vecC 3 1 a_v0 c_v0 x1.length cs_v0 :: vecC 3 1 a65 c66 q63.1.length cs68 :: pt pb0 (.cells #[.int .i64 y0.Period, .int .i64 y0.Events, .slice a_y0_2 y0.Rules.length c_y0_2] 24 (0, 0)) :: pt pb1 (.cells #[.slice a_y1_0 y1.length c_y1_0] 29 (0, 0)) :: pt pb2 (.cells #[.int .i64 y2] 3 (0, 0)) :: R)) ?_ ?_
  · refine W.gen fun K80 hK80 => ?_
    refine W.region ?_
    refine WL.vS hS hE (runs_plain rfl) (Gives.loadB hE 3 rfl rfl rfl ty29) rfl ?_; clear hE a; intro a hE
    refine WL.vS hS hE (runs_plain rfl) (Gives.isNilZ hE (isNone_eq h_y1_0 hz_y1_0) rfl rfl isl29) rfl ?_; clear hE a; intro a hE
    refine WL.vS hS hE (runs_plain rfl) (Gives.p hE rfl) rfl ?_; clear hE a; intro a hE
    rcases Bool.eq_false_or_eq_true y1.isEmpty with hg81 | hg81
    · replace hq75 := iteT hg81 hq75
      refine WL.no hE (runs_not hE rfl rfl rfl (by rw [hg81]; decide)) rfl ?_; clear hE a; intro a hE
      refine WL.no hE (runs_not hE rfl rfl rfl (by rw [hg81]; decide)) rfl ?_; clear hE a; intro a hE
      refine WL.no hE (runs_not hE rfl rfl rfl (by rw [hg81]; decide)) rfl ?_; clear hE a; intro a hE
      refine WL.vS hS hE (runs_plain rfl) (Gives.pickT hE rfl hg81 rfl) rfl ?_; clear hE a; intro a hE
      refine WL.vS hS hE (runs_plain rfl) (Gives.p hE rfl) rfl ?_; clear hE a; intro a hE
      refine WL.no hE (runs_not hE rfl rfl rfl (by decide)) rfl ?_; clear hE a; intro a hE
      refine WL.no hE (runs_not hE rfl rfl rfl (by decide)) rfl ?_; clear hE a; intro a hE
      refine WL.no hE (runs_not hE rfl rfl rfl (by decide)) rfl ?_; clear hE a; intro a hE
      refine WL.no hE (runs_not hE rfl rfl rfl (by decide)) rfl ?_; clear hE a; intro a hE
      refine WL.no hE (runs_undef hE rfl rfl rfl) rfl ?_; clear hE a; intro a hE
      refine WL.no hE (runs_undef hE rfl rfl rfl) rfl ?_; clear hE a; intro a hE
      refine WL.no hE (runs_undef hE rfl rfl rfl) rfl ?_; clear hE a; intro a hE
      refine WL.no hE (runs_undef hE rfl rfl rfl) rfl ?_; clear hE a; intro a hE
      refine WL.no hE (runs_not hE rfl rfl rfl (by decide)) rfl ?_; clear hE a; intro a hE
      refine WL.vS hS hE (runs_plain rfl) (Gives.pickT hE rfl rfl rfl) rfl ?_; clear hE a; intro a hE
      refine WL.nil ?_
      subst hK80
      exact ⟨true, Option.some.inj hq75, hE.pick _ ⟨rfl, rfl, rfl, rfl, rfl, trivial⟩, hS⟩
    · replace hq75 := iteF hg81 hq75
      refine WL.vS hS hE (runs_if hE rfl rfl rfl hg81) (Gives.p hE rfl) rfl ?_; clear hE a; intro a hE
      refine WL.vS hS hE (runs_if hE rfl rfl rfl hg81) (Gives.loadB hE 4 rfl rfl rfl ty3) rfl ?_; clear hE a; intro a hE
      refine WL.vS hS hE (runs_if hE rfl rfl rfl hg81) (Gives.p hE rfl) rfl ?_; clear hE a; intro a hE
      refine WL.vS hS hE (runs_plain rfl) (Gives.pickF hE rfl hg81 rfl) rfl ?_; clear hE a; intro a hE
      refine WL.vS hS hE (runs_plain rfl) (Gives.p hE rfl) rfl ?_; clear hE a; intro a hE
      rcases Bool.eq_false_or_eq_true (decide (q63.2 < y2)) with hg82 | hg82
      · replace hq75 := iteT hg82 hq75
        refine WL.no hE (runs_not hE rfl rfl rfl (by rw [hg82]; decide)) rfl ?_; clear hE a; intro a hE
        refine WL.no hE (runs_not hE rfl rfl rfl (by rw [hg82]; decide)) rfl ?_; clear hE a; intro a hE
        refine WL.no hE (runs_not hE rfl rfl rfl (by rw [hg82]; decide)) rfl ?_; clear hE a; intro a hE
        refine WL.no hE (runs_not hE rfl rfl rfl (by rw [hg82]; decide)) rfl ?_; clear hE a; intro a hE
        refine WL.no hE (runs_undef hE rfl rfl rfl) rfl ?_; clear hE a; intro a hE
        refine WL.no hE (runs_undef hE rfl rfl rfl) rfl ?_; clear hE a; intro a hE
        refine WL.no hE (runs_undef hE rfl rfl rfl) rfl ?_; clear hE a; intro a hE
        refine WL.no hE (runs_undef hE rfl rfl rfl) rfl ?_; clear hE a; intro a hE
        refine WL.no hE (runs_not hE rfl rfl rfl (by rw [hg82]; decide)) rfl ?_; clear hE a; intro a hE
        refine WL.vS hS hE (runs_plain rfl) (Gives.pickT hE rfl hg82 rfl) rfl ?_; clear hE a; intro a hE
        refine WL.nil ?_
        subst hK80
        exact ⟨true, Option.some.inj hq75, hE.pick _ ⟨rfl, rfl, rfl, rfl, rfl, trivial⟩, hS⟩
      · replace hq75 := iteF hg82 hq75
        refine WL.vS hS hE (runs_if hE rfl rfl rfl hg82) (Gives.p hE rfl) rfl ?_; clear hE a; intro a hE
        refine WL.vS hS hE (runs_if hE rfl rfl rfl hg82) (Gives.loadB hE 4 rfl rfl rfl ty3) rfl ?_; clear hE a; intro a hE
        refine WL.vS hS hE (runs_if hE rfl rfl rfl hg82) (Gives.p hE rfl) rfl ?_; clear hE a; intro a hE
        refine WL.vS hS hE (runs_if hE rfl rfl rfl hg82) (Gives.p hE rfl) rfl ?_; clear hE a; intro a hE
        rcases Bool.eq_false_or_eq_true (q63.2 == y2) with hg83 | hg83
        · replace hq75 := iteT hg83 hq75
          refine WL.vS hS hE (runs_if hE rfl rfl rfl hg83) (Gives.p hE rfl) rfl ?_; clear hE a; intro a hE
          refine WL.vS hS hE (runs_if hE rfl rfl rfl hg83) (Gives.loadB hE 3 rfl rfl rfl ty29) rfl ?_; clear hE a; intro a hE
          obtain ⟨q84, hq85, hq75⟩ := bindS hq75
          have hF := hS.lendV RI.mono 1 rfl h69 rfl; clear hS; obtain ⟨t86, hle87, hS, hs88, bk89⟩ := hF
          have hc_ := SlicesCompareLint_ok hS hs88 (Sl.mono RI.mono hle87 h_y1_0) hq85
          refine WL.fnq hE (hc_) (runs_if hE rfl rfl rfl hg83) bd52 rfl rfl rfl ?_
          clear hE hS hc_; rintro e w ⟨rfl, hS⟩; refine ⟨_, rfl, ?_⟩; clear a; intro a hE
          replace hS := bk89 _ _ hS
          refine WL.vS hS hE (runs_if hE rfl rfl rfl hg83) (Gives.p hE rfl) rfl ?_; clear hE a; intro a hE
          refine WL.vS hS hE (runs_if hE rfl rfl rfl hg82) (Gives.pickT hE rfl hg83 rfl) rfl ?_; clear hE a; intro a hE
          refine WL.vS hS hE (runs_plain rfl) (Gives.pickF hE rfl hg82 rfl) rfl ?_; clear hE a; intro a hE
          refine WL.nil ?_
          replace hS := hS.front 4 rfl
          replace hS := hS.front 4 rfl
          replace hS := hS.front 4 rfl
          replace hS := hS.front 3 rfl
          replace hS := hS.front 4 rfl
          subst hK80
          exact ⟨decide (q84 < 0), Option.some.inj hq75, hE.pick _ ⟨rfl, rfl, rfl, rfl, rfl, trivial⟩, hS⟩
        · replace hq75 := iteF hg83 hq75
          refine WL.no hE (runs_not hE rfl rfl rfl (by rw [hg83]; decide)) rfl ?_; clear hE a; intro a hE
          refine WL.no hE (runs_not hE rfl rfl rfl (by rw [hg83]; decide)) rfl ?_; clear hE a; intro a hE
          refine WL.no hE (runs_not hE rfl rfl rfl (by rw [hg83]; decide)) rfl ?_; clear hE a; intro a hE
          refine WL.no hE (runs_not hE rfl rfl rfl (by rw [hg83]; decide)) rfl ?_; clear hE a; intro a hE
          refine WL.vS hS hE (runs_if hE rfl rfl rfl hg82) (Gives.pickF hE rfl hg83 rfl) rfl ?_; clear hE a; intro a hE
          refine WL.vS hS hE (runs_plain rfl) (Gives.pickF hE rfl hg82 rfl) rfl ?_; clear hE a; intro a hE
          refine WL.nil ?_
          subst hK80
          exact ⟨false, Option.some.inj hq75, hE.pick _ ⟨rfl, rfl, rfl, rfl, rfl, trivial⟩, hS⟩
  · clear hE hS a w; rintro a w ⟨q79, rfl, hE, hS⟩
    obtain ⟨q91, hq90, hr⟩ := bindS hr
    refine W.cut (fun a w => ∃ (q94 : List Int), ∃ (q99 : Int), ∃ (a95 : Option Addr), ∃ (c96 : Nat), ∃ (s92 : Sg), s.Le s92 ∧ (q94, q99) = q91 ∧ Sl 1 (RI .i64) s92 a95 c96 q94 ∧ (q94 = [] → a95 = none) ∧ Rep a 36 [] ∧ St w s92 (vecC 3 1 a_v0 c_v0 x1.length cs_v0 :: pt pb0 (.cells #[.int .i64 y0.Period, .int .i64 y0.Events, .slice a_y0_2 y0.Rules.length c_y0_2] 24 (0, 0)) :: pt pb1 (.cells #[.slice a95 q94.length c96] 29 (0, 0)) :: pt pb2 (.cells #[.int .i64 q99] 3 (0, 0)) :: R)) ?_ ?_
    · refine W.gen fun K100 hK100 => ?_
      refine W.cond hE rfl (fun hc101 => ?_) (fun hc101 => ?_)
      · replace hq90 := iteT hc101 hq90
        refine W.region ?_
        refine WL.vS hS hE (runs_plain rfl) (Gives.p hE rfl) rfl ?_; clear hE a; intro a hE
        refine WL.vS hS hE (runs_plain rfl) (Gives.p hE rfl) rfl ?_; clear hE a; intro a hE
        have hF := hS.fixD RI.mono 1 rfl h69 rfl; clear hS; obtain ⟨s102, hle103, hS, h104⟩ := hF
        replace h_v0 := Ev.mono RI.mono hle103 h_v0
        replace h_y0_2 := Sl.mono RPlanRule.mono hle103 h_y0_2
        replace h_y1_0 := Sl.mono RI.mono hle103 h_y1_0
        obtain ⟨_, hx105, hq90⟩ := bindS hq90
        refine WL.storeI hE hS 2 rfl [.slice a65 q63.1.length c66] (runs_plain rfl) rfl rfl rfl ty29 rfl rfl rfl rfl ?_; clear hE hS a w; intro a w hE hS
        refine WL.storeI hE hS 3 rfl [.int .i64 q63.2] (runs_plain rfl) rfl rfl rfl ty3 rfl rfl rfl rfl ?_; clear hE hS a w; intro a w hE hS
        refine WL.nil ?_
        subst hK100
        exact ⟨q63.1, q63.2, a65, c66, s102, hle103, Option.some.inj hq90, h104, (nz_some hx105), hE.pick _ trivial, hS⟩
      · replace hq90 := iteF hc101 hq90
        refine W.skip ?_
        replace hS := hS.dropAt 1
        subst hK100
        exact ⟨y1, y2, a_y1_0, c_y1_0, s, (Sg.Le.refl _), Option.some.inj hq90, h_y1_0, hz_y1_0, hE.pick _ trivial, hS⟩
    · clear hE hS a w; rintro a w ⟨q94, q99, a95, c96, s92, hle93, rfl, h97, hz98, hE, hS⟩
      dsimp only at hr
      replace h_v0 := Ev.mono RI.mono hle93 h_v0
      replace h_y0_2 := Sl.mono RPlanRule.mono hle93 h_y0_2
      replace h_y1_0 := Sl.mono RI.mono hle93 h_y1_0
      refine finG (fn := Try.f50) (rs := []) (vs := []) hE rfl trivial ?_
      obtain rfl := Option.some.inj hr
      replace hS := hS.front 3 rfl
      replace hS := hS.front 3 rfl
      replace hS := hS.front 3 rfl
      exact ⟨a95, c96, s92, rfl, hle93, h97, hz98, hS⟩
set_option maxHeartbeats 8000000 in
theorem PlanBoundsclosed_ok {fu : Nat}  {w : World} {s : Sg} {R : List HP} {x0 : Option (List Int)} {a0 : Option Addr} {x1 : Int} {x2 : Int} {x3 : Int} {x4 : Int} (hS : St w s (R)) (h0 : Pt 64 (RA .i64 64) s a0 x0) {r : (Option (List Int)) × Bool} (hr : PlanBoundsclosed fu x0 x1 x2 x3 x4 = some r) :
    Calls Try.prog 87 [.pointer a0, .int .i64 x1, .int .i64 x2, .int .i64 x3, .int .i64 x4].toArray w (fun e w => ∃ (a0 : Option Addr) (t : Sg), e = .returned (.tuple #[.pointer a0, .bool r.2]) ∧ s.Le t ∧ Pt 64 (RA .i64 64) t a0 r.1 ∧ St w t (R)) := by
  refine enter Try.func87 rfl rfl rfl fun a hE => ?_
  rw [PlanBoundsclosed] at hr
  refine W.seq ?_
  refine W.region ?_
  refine WL.vS hS hE (runs_plain rfl) (Gives.p hE rfl) rfl ?_; clear hE a; intro a hE
  refine WL.vS hS hE (runs_plain rfl) (Gives.p hE rfl) rfl ?_; clear hE a; intro a hE
  refine WL.nil ?_
  refine W.seq ?_
  refine W.seq ?_
  refine W.region ?_
  refine WL.vS hS hE (runs_plain rfl) (Gives.p hE rfl) rfl ?_; clear hE a; intro a hE
  refine WL.vS hS hE (runs_plain rfl) (Gives.p hE rfl) rfl ?_; clear hE a; intro a hE
  refine WL.vS hS hE (runs_plain rfl) (Gives.p hE rfl) rfl ?_; clear hE a; intro a hE
  obtain ⟨x51, hx52, hr⟩ := bindS hr
  obtain ⟨b53, o54, cs55, rfl, hl56, hR57, hat58⟩ := h0.at hx52
  obtain ⟨rfl, hl59⟩ := hR57
  refine WL.vS hS hE (runs_plain rfl) (Gives.nilOk hE rfl) rfl ?_; clear hE a; intro a hE
  obtain ⟨_, hx60, hr⟩ := bindS hr
  obtain ⟨h61, h62⟩ := bx_some hx60
  refine WL.vS hS hE (runs_plain rfl) (Gives.idxG hE ((x2).toNat) rfl rfl an116 h61 h62 ⟨_, _, rfl⟩ rfl) rfl ?_; clear hE a; intro a hE
  obtain ⟨_, hx63, hr⟩ := bindS hr
  obtain ⟨h64, h65⟩ := bx_some hx63
  obtain ⟨x66, hx67, hr⟩ := bindS hr
  obtain ⟨hi68, hlt69, hy70⟩ := gx_some hx67
  refine WL.vS hS hE (runs_plain rfl) (Gives.idxG hE ((x3).toNat) rfl rfl an81 h64 h65 ⟨_, _, rfl⟩ (by show ao (some ⟨b53, o54, none⟩) + (x2).toNat * 8 + (x3).toNat * 1 = ao (some ⟨b53, o54, none⟩) + ((x2 * 8 + x3)).toNat; omega)) rfl ?_; clear hE a; intro a hE
  refine WL.vS hS hE (runs_plain rfl) (Gives.load1 hE rfl (fun w h => Sees.cell1 (hat58 w _ h) hy70) ty3) rfl ?_; clear hE a; intro a hE
  refine WL.vS hS hE (runs_plain rfl) (Gives.p hE rfl) rfl ?_; clear hE a; intro a hE
  refine WL.vS hS hE (runs_plain rfl) (Gives.p hE rfl) rfl ?_; clear hE a; intro a hE
  refine WL.nil ?_
  refine W.cond hE rfl (fun hc71 => ?_) (fun hc71 => ?_)
  · replace hr := iteT hc71 hr
    refine W.seq ?_
    refine W.region ?_
    refine WL.vS hS hE (runs_plain rfl) (Gives.p hE rfl) rfl ?_; clear hE a; intro a hE
    refine WL.vS hS hE (runs_plain rfl) (Gives.p hE rfl) rfl ?_; clear hE a; intro a hE
    refine WL.vS hS hE (runs_plain rfl) (Gives.p hE rfl) rfl ?_; clear hE a; intro a hE
    refine WL.nil ?_
    refine W.ret ?_
    refine finG (fn := Try.f87) (rs := [.tmp 10, .tmp 11]) (vs := [_, _]) hE rfl ⟨rfl, rfl, trivial⟩ ?_
    obtain rfl := Option.some.inj hr
    exact ⟨(some ⟨b53, o54, none⟩), s, rfl, (Sg.Le.refl _), h0, hS⟩
  · replace hr := iteF hc71 hr
    refine W.skip ?_
    refine W.seq ?_
    refine W.seq ?_
    refine W.region ?_
    refine WL.vS hS hE (runs_plain rfl) (Gives.p hE rfl) rfl ?_; clear hE a; intro a hE
    refine WL.vS hS hE (runs_plain rfl) (Gives.p hE rfl) rfl ?_; clear hE a; intro a hE
    refine WL.vS hS hE (runs_plain rfl) (Gives.p hE rfl) rfl ?_; clear hE a; intro a hE
    refine WL.vS hS hE (runs_plain rfl) (Gives.nilOk hE rfl) rfl ?_; clear hE a; intro a hE
    obtain ⟨_, hx72, hr⟩ := bindS hr
    obtain ⟨h73, h74⟩ := bx_some hx72
    refine WL.vS hS hE (runs_plain rfl) (Gives.idxG hE ((x3).toNat) rfl rfl an116 h73 h74 ⟨_, _, rfl⟩ rfl) rfl ?_; clear hE a; intro a hE
    obtain ⟨_, hx75, hr⟩ := bindS hr
    obtain ⟨h76, h77⟩ := bx_some hx75
    obtain ⟨x78, hx79, hr⟩ := bindS hr
    obtain ⟨hi80, hlt81, hy82⟩ := gx_some hx79
    refine WL.vS hS hE (runs_plain rfl) (Gives.idxG hE ((x2).toNat) rfl rfl an81 h76 h77 ⟨_, _, rfl⟩ (by show ao (some ⟨b53, o54, none⟩) + (x3).toNat * 8 + (x2).toNat * 1 = ao (some ⟨b53, o54, none⟩) + ((x3 * 8 + x2)).toNat; omega)) rfl ?_; clear hE a; intro a hE
    refine WL.vS hS hE (runs_plain rfl) (Gives.load1 hE rfl (fun w h => Sees.cell1 (hat58 w _ h) hy82) ty3) rfl ?_; clear hE a; intro a hE
    refine WL.vS hS hE (runs_plain rfl) (Gives.p hE rfl) rfl ?_; clear hE a; intro a hE
    refine WL.vS hS hE (runs_plain rfl) (Gives.p hE rfl) rfl ?_; clear hE a; intro a hE
    refine WL.vS hS hE (runs_plain rfl) (Gives.p hE rfl) rfl ?_; clear hE a; intro a hE
    refine WL.nil ?_
    refine W.cond hE rfl (fun hc83 => ?_) (fun hc83 => ?_)
    · replace hr := iteT hc83 hr
      refine W.seq ?_
      refine W.region ?_
      refine WL.vS hS hE (runs_plain rfl) (Gives.p hE rfl) rfl ?_; clear hE a; intro a hE
      refine WL.vS hS hE (runs_plain rfl) (Gives.p hE rfl) rfl ?_; clear hE a; intro a hE
      refine WL.nil ?_
      refine W.ret ?_
      refine finG (fn := Try.f87) (rs := [.tmp 10, .tmp 11]) (vs := [_, _]) hE rfl ⟨rfl, rfl, trivial⟩ ?_
      obtain rfl := Option.some.inj hr
      exact ⟨none, s, rfl, (Sg.Le.refl _), Pt.nil, hS⟩
    · replace hr := iteF hc83 hr
      refine W.skip ?_
      refine W.seq ?_
      refine W.region ?_
      refine WL.vS hS hE (runs_plain rfl) (Gives.p hE rfl) rfl ?_; clear hE a; intro a hE
      refine WL.vS hS hE (runs_plain rfl) (Gives.nilOk hE rfl) rfl ?_; clear hE a; intro a hE
      refine WL.vS hS hE (runs_plain rfl) (Gives.loadA hE rfl (fun w h => hat58 w _ h) (by rw [List.length_map, hl59]; exact ty116)) rfl ?_; clear hE a; intro a hE
      refine WL.alloc hE hS (runs_plain rfl) zr116 rfl ?_; clear hE hS a w; intro b84 a w hE hS
      replace hS := hS.ptVec (es := 1) (m := 64) rfl (by decide)
      have h85 : Ev 1 (RI .i64) s [.int .i64 0, .int .i64 0, .int .i64 0, .int .i64 0, .int .i64 0, .int .i64 0, .int .i64 0, .int .i64 0, .int .i64 0, .int .i64 0, .int .i64 0, .int .i64 0, .int .i64 0, .int .i64 0, .int .i64 0, .int .i64 0, .int .i64 0, .int .i64 0, .int .i64 0, .int .i64 0, .int .i64 0, .int .i64 0, .int .i64 0, .int .i64 0, .int .i64 0, .int .i64 0, .int .i64 0, .int .i64 0, .int .i64 0, .int .i64 0, .int .i64 0, .int .i64 0, .int .i64 0, .int .i64 0, .int .i64 0, .int .i64 0, .int .i64 0, .int .i64 0, .int .i64 0, .int .i64 0, .int .i64 0, .int .i64 0, .int .i64 0, .int .i64 0, .int .i64 0, .int .i64 0, .int .i64 0, .int .i64 0, .int .i64 0, .int .i64 0, .int .i64 0, .int .i64 0, .int .i64 0, .int .i64 0, .int .i64 0, .int .i64 0, .int .i64 0, .int .i64 0, .int .i64 0, .int .i64 0, .int .i64 0, .int .i64 0, .int .i64 0, .int .i64 0] (List.replicate 64 (0 : Int)) := (Ev.ofMap (k := .i64) (List.replicate 64 (0 : Int)))
      have h87 : Ev 1 (RI .i64) s (x51.map (Value.int .i64)) x51 := (Ev.ofMap x51)
      have hn88 : (x51).length = 64 := hl59
      refine WL.storeArr hE hS 0 rfl (runs_plain rfl) rfl rfl rfl ty116 (by decide) (by first | rfl | (rw [h87.ints]; simp [List.all_map, Function.comp_def, Value.oneCell'])) h87 hn88 rfl ?_; clear hE hS a w; intro a w hE hS
      refine WL.nil ?_
      refine W.seq ?_
      refine W.seq ?_
      refine W.region ?_
      refine WL.vS hS hE (runs_plain rfl) (Gives.p hE rfl) rfl ?_; clear hE a; intro a hE
      refine WL.vS hS hE (runs_plain rfl) (Gives.p hE rfl) rfl ?_; clear hE a; intro a hE
      refine WL.nil ?_
      obtain ⟨q101, hq100, hr⟩ := bindS hr
      refine W.cut (fun a w => ∃ (q106 : Int), ∃ (q107 : List Int), ∃ (cs111 : List Value), (q106, q107) = q101 ∧ Ev 1 (RI .i64) s cs111 q107 ∧ q107.length = 64 ∧ Rep a 75 [(12, .pointer (some ⟨b84, 0, none⟩))] ∧ St w s (vecC 116 1 (some ⟨b84, 0, none⟩) 64 64 cs111 :: R)) ?_ ?_
      · refine W.block ?_
        refine W.loop (fun m a w => ∃ (n102 : Nat), ∃ (q106 : Int), ∃ (q107 : List Int), ∃ (cs111 : List Value), n102 = m ∧ PlanBoundsclosed.loop2 x1 x2 x3 x4 fu x51 n102 q106 q107 = some q101 ∧ Ev 1 (RI .i64) s cs111 q107 ∧ q107.length = 64 ∧ Rep a 75 [(0, .pointer (some ⟨b53, o54, none⟩)), (1, .int .i64 x1), (2, .int .i64 x2), (3, .int .i64 x3), (4, .int .i64 x4), (12, .pointer (some ⟨b84, 0, none⟩)), (38, .int .i64 x1), (39, .int .i64 q106)] ∧ St w s (vecC 116 1 (some ⟨b84, 0, none⟩) 64 64 cs111 :: R)) (m := fu) ⟨fu, 0, x51, (x51.map (Value.int .i64)), rfl, hq100, h87, hn88, hE.pick _ ⟨rfl, rfl, rfl, rfl, rfl, rfl, rfl, rfl, trivial⟩, hS⟩ ?_
        clear hE hS a w hq100; rintro m103 a w ⟨n102, q106, q107, cs111, rfl, hq100, h110, hn112, hE, hS⟩
        refine W.gen fun K113 hK113 => ?_
        rcases n102 with _ | n102
        · rw [PlanBoundsclosed.loop2] at hq100; exact absurd hq100 (by simp)
        rw [PlanBoundsclosed.loop2] at hq100
        refine W.seq ?_
        refine W.region ?_
        refine WL.vS hS hE (runs_plain rfl) (Gives.p hE rfl) rfl ?_; clear hE a; intro a hE
        refine WL.nil ?_
        refine W.seq ?_
        refine W.cond hE rfl (fun hc114 => ?_) (fun hc114 => ?_)
        · replace hq100 := iteT hc114 hq100
          refine W.skip ?_
          refine W.seq ?_
          refine W.block ?_
          refine W.seq ?_
          refine W.region ?_
          refine WL.vS hS hE (runs_plain rfl) (Gives.p hE rfl) rfl ?_; clear hE a; intro a hE
          refine WL.vS hS hE (runs_plain rfl) (Gives.p hE rfl) rfl ?_; clear hE a; intro a hE
          refine WL.nil ?_
          refine W.seq ?_
          refine W.region ?_
          refine WL.vS hS hE (runs_plain rfl) (Gives.p hE rfl) rfl ?_; clear hE a; intro a hE
          refine WL.vS hS hE (runs_plain rfl) (Gives.p hE rfl) rfl ?_; clear hE a; intro a hE
          refine WL.nil ?_
          obtain ⟨q127, hq126, hq100⟩ := bindS hq100
          refine W.cut (fun a w => ∃ (q132 : Int), ∃ (q133 : List Int), ∃ (cs137 : List Value), (q132, q133) = q127 ∧ Ev 1 (RI .i64) s cs137 q133 ∧ q133.length = 64 ∧ Rep a 75 [(0, .pointer (some ⟨b53, o54, none⟩)), (1, .int .i64 x1), (2, .int .i64 x2), (3, .int .i64 x3), (4, .int .i64 x4), (12, .pointer (some ⟨b84, 0, none⟩)), (38, .int .i64 x1), (39, .int .i64 q106)] ∧ St w s (vecC 116 1 (some ⟨b84, 0, none⟩) 64 64 cs137 :: R)) ?_ ?_
          · refine W.block ?_
            refine W.loop (fun m a w => ∃ (n128 : Nat), ∃ (q132 : Int), ∃ (q133 : List Int), ∃ (cs137 : List Value), n128 = m ∧ PlanBoundsclosed.loop4 x1 x2 x3 x4 x51 q106 n128 q132 q133 = some q127 ∧ Ev 1 (RI .i64) s cs137 q133 ∧ q133.length = 64 ∧ Rep a 75 [(0, .pointer (some ⟨b53, o54, none⟩)), (1, .int .i64 x1), (2, .int .i64 x2), (3, .int .i64 x3), (4, .int .i64 x4), (12, .pointer (some ⟨b84, 0, none⟩)), (13, .int .i64 q106), (38, .int .i64 x1), (39, .int .i64 q106), (42, .int .i64 x1), (43, .int .i64 q132)] ∧ St w s (vecC 116 1 (some ⟨b84, 0, none⟩) 64 64 cs137 :: R)) (m := fu) ⟨fu, 0, q107, cs111, rfl, hq126, h110, hn112, hE.pick _ ⟨rfl, rfl, rfl, rfl, rfl, rfl, rfl, rfl, rfl, rfl, rfl, trivial⟩, hS⟩ ?_
            clear hE hS a w hq126; rintro m129 a w ⟨n128, q132, q133, cs137, rfl, hq126, h136, hn138, hE, hS⟩
            refine W.gen fun K139 hK139 => ?_
            rcases n128 with _ | n128
            · rw [PlanBoundsclosed.loop4] at hq126; exact absurd hq126 (by simp)
            rw [PlanBoundsclosed.loop4] at hq126
            refine W.seq ?_
            refine W.region ?_
            refine WL.vS hS hE (runs_plain rfl) (Gives.p hE rfl) rfl ?_; clear hE a; intro a hE
            refine WL.nil ?_
            refine W.seq ?_
            refine W.cond hE rfl (fun hc140 => ?_) (fun hc140 => ?_)
            · replace hq126 := iteT hc140 hq126
              refine W.skip ?_
              refine W.seq ?_
              refine W.block ?_
              refine W.seq ?_
              refine W.region ?_
              refine WL.vS hS hE (runs_plain rfl) (Gives.p hE rfl) rfl ?_; clear hE a; intro a hE
              refine WL.vS hS hE (runs_plain rfl) (Gives.p hE rfl) rfl ?_; clear hE a; intro a hE
              refine WL.nil ?_
              refine W.gen fun K141 hK141 => ?_
              refine W.regionE (sel (fun w => St w s (vecC 116 1 (some ⟨b84, 0, none⟩) 64 64 cs137 :: R)) (fun w => St w s (R))) (fun b i => cond b ([0, 1, 2, 3, 4, 5, 6, 7, 8, 9, 10, 11, 12, 13, 14, 15, 16, 17, 18, 19, 20, 21, 22, 23, 24, 25, 26].contains i) ([0, 1, 2, 3, 4, 5, 6, 7, 8, 9, 10, 11, 12, 13, 14, 15, 16, 17, 18, 19, 20, 21, 22, 23, 24, 25, 26, 27].contains i)) mixed ?_
              replace hS := hS.drew
              refine Rg.takeP (i := 0) hE rfl (by kernel_rfl) (runs_plain rfl) (Gives.p hE rfl) rfl (tw_sel (fun _ => hS) (fun _ => (hS.tail))) ?_; clear hE a; intro a hE
              refine Rg.takeP (i := 1) hE rfl (by kernel_rfl) (runs_plain rfl) (Gives.p hE rfl) rfl (tw_sel (fun _ => hS) (fun _ => (hS.tail))) ?_; clear hE a; intro a hE
              refine Rg.takeP (i := 2) hE rfl (by kernel_rfl) (runs_plain rfl) (Gives.p hE rfl) rfl (tw_sel (fun _ => hS) (fun _ => (hS.tail))) ?_; clear hE a; intro a hE
              refine Rg.takeP (i := 3) hE rfl (by kernel_rfl) (runs_plain rfl) (Gives.p hE rfl) rfl (tw_sel (fun _ => hS) (fun _ => (hS.tail))) ?_; clear hE a; intro a hE
              obtain ⟨_, hx142, hq126⟩ := bindS hq126
              obtain ⟨h143, h144⟩ := bx_some hx142
              refine Rg.takeP (i := 4) hE rfl (by kernel_rfl) (runs_plain rfl) (Gives.idxG hE ((q106).toNat) rfl rfl an116 h143 h144 (hS.vecAok 0 rfl (k := 0) (by decide)) rfl) rfl (tw_sel (fun _ => hS) (fun _ => (hS.tail))) ?_; clear hE a; intro a hE
              obtain ⟨_, hx145, hq126⟩ := bindS hq126
              obtain ⟨h146, h147⟩ := bx_some hx145
              obtain ⟨x148, hx149, hq126⟩ := bindS hq126
              obtain ⟨hi150, hlt151, hy152⟩ := gx_some hx149
              obtain ⟨vs153, hl154, hR155, hd156, hget157⟩ := h136.at hy152
              subst hR155
              refine Rg.takeP (i := 5) hE rfl (by kernel_rfl) (runs_plain rfl) (Gives.idxG hE ((q132).toNat) rfl rfl an81 h146 h147 ⟨_, _, rfl⟩ (by show ao (some ⟨b84, 0, none⟩) + (q106).toNat * 8 + (q132).toNat * 1 = ao (some ⟨b84, 0, none⟩) + ((q106 * 8 + q132)).toNat * 1; omega)) rfl (tw_sel (fun _ => hS) (fun _ => (hS.tail))) ?_; clear hE a; intro a hE
              have hT := tw_sel (A := fun w => St w s (vecC 116 1 (some ⟨b84, 0, none⟩) 64 64 cs137 :: R)) (B := fun w => St w s (R)) (w := _) (x := true) (y := true) (fun _ => hS) (fun _ => (hS.tail))
              have hF := hS; replace hS := hS
              refine Rg.take (i := 6) true rfl hE rfl (by kernel_rfl) (runs_plain rfl) (Gives.load1 hE rfl (fun w h => St.vecSees h 0 rfl (((q106 * 8 + q132)).toNat * 1) _ hget157) ty3) rfl hT ?_; clear hE a; intro a hE
              replace hS := hF; clear hF hT
              refine Rg.takeP (i := 7) hE rfl (by kernel_rfl) (runs_plain rfl) (Gives.p hE rfl) rfl (tw_sel (fun _ => hS) (fun _ => (hS.tail))) ?_; clear hE a; intro a hE
              refine Rg.takeP (i := 8) hE rfl (by kernel_rfl) (runs_plain rfl) (Gives.p hE rfl) rfl (tw_sel (fun _ => hS) (fun _ => (hS.tail))) ?_; clear hE a; intro a hE
              refine Rg.takeP (i := 9) hE rfl (by kernel_rfl) (runs_plain rfl) (Gives.p hE rfl) rfl (tw_sel (fun _ => hS) (fun _ => (hS.tail))) ?_; clear hE a; intro a hE
              have hT := tw_sel (A := fun w => St w s (vecC 116 1 (some ⟨b84, 0, none⟩) 64 64 cs137 :: R)) (B := fun w => St w s (R)) (w := _) (x := true) (y := true) (fun _ => hS) (fun _ => (hS.tail))
              have hF := hS; replace hS := hS
              refine Rg.take (i := 10) true rfl hE rfl (by kernel_rfl) (runs_plain rfl) (Gives.nilOk hE rfl) rfl hT ?_; clear hE a; intro a hE
              replace hS := hF; clear hF hT
              obtain ⟨_, hx158, hq126⟩ := bindS hq126
              obtain ⟨h159, h160⟩ := bx_some hx158
              refine Rg.takeP (i := 11) hE rfl (by kernel_rfl) (runs_plain rfl) (Gives.idxG hE ((q106).toNat) rfl rfl an116 h159 h160 ⟨_, _, rfl⟩ rfl) rfl (tw_sel (fun _ => hS) (fun _ => (hS.tail))) ?_; clear hE a; intro a hE
              obtain ⟨_, hx161, hq126⟩ := bindS hq126
              obtain ⟨h162, h163⟩ := bx_some hx161
              obtain ⟨x164, hx165, hq126⟩ := bindS hq126
              obtain ⟨hi166, hlt167, hy168⟩ := gx_some hx165
              refine Rg.takeP (i := 12) hE rfl (by kernel_rfl) (runs_plain rfl) (Gives.idxG hE ((x2).toNat) rfl rfl an81 h162 h163 ⟨_, _, rfl⟩ (by show ao (some ⟨b53, o54, none⟩) + (q106).toNat * 8 + (x2).toNat * 1 = ao (some ⟨b53, o54, none⟩) + ((q106 * 8 + x2)).toNat; omega)) rfl (tw_sel (fun _ => hS) (fun _ => (hS.tail))) ?_; clear hE a; intro a hE
              have hT := tw_sel (A := fun w => St w s (vecC 116 1 (some ⟨b84, 0, none⟩) 64 64 cs137 :: R)) (B := fun w => St w s (R)) (w := _) (x := true) (y := true) (fun _ => hS) (fun _ => (hS.tail))
              have hF := hS; replace hS := hS
              refine Rg.take (i := 13) true rfl hE rfl (by kernel_rfl) (runs_plain rfl) (Gives.load1 hE rfl (fun w h => Sees.cell1 (hat58 w _ h) hy168) ty3) rfl hT ?_; clear hE a; intro a hE
              replace hS := hF; clear hF hT
              refine Rg.takeP (i := 14) hE rfl (by kernel_rfl) (runs_plain rfl) (Gives.p hE rfl) rfl (tw_sel (fun _ => hS) (fun _ => (hS.tail))) ?_; clear hE a; intro a hE
              refine Rg.takeP (i := 15) hE rfl (by kernel_rfl) (runs_plain rfl) (Gives.p hE rfl) rfl (tw_sel (fun _ => hS) (fun _ => (hS.tail))) ?_; clear hE a; intro a hE
              refine Rg.takeP (i := 16) hE rfl (by kernel_rfl) (runs_plain rfl) (Gives.p hE rfl) rfl (tw_sel (fun _ => hS) (fun _ => (hS.tail))) ?_; clear hE a; intro a hE
              refine Rg.takeP (i := 17) hE rfl (by kernel_rfl) (runs_plain rfl) (Gives.p hE rfl) rfl (tw_sel (fun _ => hS) (fun _ => (hS.tail))) ?_; clear hE a; intro a hE
              refine Rg.takeP (i := 18) hE rfl (by kernel_rfl) (runs_plain rfl) (Gives.p hE rfl) rfl (tw_sel (fun _ => hS) (fun _ => (hS.tail))) ?_; clear hE a; intro a hE
              have hT := tw_sel (A := fun w => St w s (vecC 116 1 (some ⟨b84, 0, none⟩) 64 64 cs137 :: R)) (B := fun w => St w s (R)) (w := _) (x := true) (y := true) (fun _ => hS) (fun _ => (hS.tail))
              have hF := hS; replace hS := hS
              refine Rg.take (i := 19) true rfl hE rfl (by kernel_rfl) (runs_plain rfl) (Gives.nilOk hE rfl) rfl hT ?_; clear hE a; intro a hE
              replace hS := hF; clear hF hT
              obtain ⟨_, hx169, hq126⟩ := bindS hq126
              obtain ⟨h170, h171⟩ := bx_some hx169
              refine Rg.takeP (i := 20) hE rfl (by kernel_rfl) (runs_plain rfl) (Gives.idxG hE ((x3).toNat) rfl rfl an116 h170 h171 ⟨_, _, rfl⟩ rfl) rfl (tw_sel (fun _ => hS) (fun _ => (hS.tail))) ?_; clear hE a; intro a hE
              obtain ⟨_, hx172, hq126⟩ := bindS hq126
              obtain ⟨h173, h174⟩ := bx_some hx172
              obtain ⟨x175, hx176, hq126⟩ := bindS hq126
              obtain ⟨hi177, hlt178, hy179⟩ := gx_some hx176
              refine Rg.takeP (i := 21) hE rfl (by kernel_rfl) (runs_plain rfl) (Gives.idxG hE ((q132).toNat) rfl rfl an81 h173 h174 ⟨_, _, rfl⟩ (by show ao (some ⟨b53, o54, none⟩) + (x3).toNat * 8 + (q132).toNat * 1 = ao (some ⟨b53, o54, none⟩) + ((x3 * 8 + q132)).toNat; omega)) rfl (tw_sel (fun _ => hS) (fun _ => (hS.tail))) ?_; clear hE a; intro a hE
              have hT := tw_sel (A := fun w => St w s (vecC 116 1 (some ⟨b84, 0, none⟩) 64 64 cs137 :: R)) (B := fun w => St w s (R)) (w := _) (x := true) (y := true) (fun _ => hS) (fun _ => (hS.tail))
              have hF := hS; replace hS := hS
              refine Rg.take (i := 22) true rfl hE rfl (by kernel_rfl) (runs_plain rfl) (Gives.load1 hE rfl (fun w h => Sees.cell1 (hat58 w _ h) hy179) ty3) rfl hT ?_; clear hE a; intro a hE
              replace hS := hF; clear hF hT
              refine Rg.takeP (i := 23) hE rfl (by kernel_rfl) (runs_plain rfl) (Gives.p hE rfl) rfl (tw_sel (fun _ => hS) (fun _ => (hS.tail))) ?_; clear hE a; intro a hE
              refine Rg.takeP (i := 24) hE rfl (by kernel_rfl) (runs_plain rfl) (Gives.min2 hE rfl rfl) rfl (tw_sel (fun _ => hS) (fun _ => (hS.tail))) ?_; clear hE a; intro a hE
              obtain ⟨_, hx180, hq126⟩ := bindS hq126
              obtain ⟨h181, h182⟩ := bx_some hx180
              refine Rg.takeP (i := 25) hE rfl (by kernel_rfl) (runs_plain rfl) (Gives.idxG hE ((q106).toNat) rfl rfl an116 h181 h182 (hS.vecAok 0 rfl (k := 0) (by decide)) rfl) rfl (tw_sel (fun _ => hS) (fun _ => (hS.tail))) ?_; clear hE a; intro a hE
              obtain ⟨_, hx183, hq126⟩ := bindS hq126
              obtain ⟨h184, h185⟩ := bx_some hx183
              refine Rg.takeP (i := 26) hE rfl (by kernel_rfl) (runs_plain rfl) (Gives.idxG hE ((q132).toNat) rfl rfl an81 h184 h185 ⟨_, _, rfl⟩ (by show ao (some ⟨b84, 0, none⟩) + (q106).toNat * 8 + (q132).toNat * 1 = ao (some ⟨b84, 0, none⟩) + ((q106 * 8 + q132)).toNat * 1; omega)) rfl (tw_sel (fun _ => hS) (fun _ => (hS.tail))) ?_; clear hE a; intro a hE
              refine Rg.one (i := 27) false true rfl (by kernel_rfl) (by kernel_rfl) (by kernel_rfl) ?_
              obtain ⟨x186, hx187, hq126⟩ := bindS hq126
              refine WL.setD hE hS 0 rfl (runs_plain rfl) rfl rfl (vs := [.int .i64 (mn x148 (w64 ((w64 (x164 + x4)) + x175)))]) rfl ty3 rfl rfl rfl h136 hn138 (sx_some hx187).1 hx187 rfl rfl ?_; clear hE hS a w; intro cs188 a w h189 hn190 hE hS
              refine WL.nil ?_
              refine ⟨⟨fun h => absurd h (by decide), fun _ => (hS.tail)⟩, ?_⟩
              refine Rg.done (by kernel_rfl) ?_
              subst hK141
              refine W.region ?_
              refine WL.vS hS hE (runs_plain rfl) (Gives.p hE rfl) rfl ?_; clear hE a; intro a hE
              refine WL.vS hS hE (runs_plain rfl) (Gives.p hE rfl) rfl ?_; clear hE a; intro a hE
              refine WL.nil ?_
              subst hK139
              exact ⟨n128, Nat.lt_succ_self _, n128, (w64 (q132 + 1)), x186, cs188, rfl, hq126, h189, hn190, hE.pick _ ⟨rfl, rfl, rfl, rfl, rfl, rfl, rfl, rfl, rfl, rfl, rfl, trivial⟩, hS⟩
            · replace hq126 := iteF hc140 hq126
              subst hK139
              refine W.exit rfl ?_
              exact ⟨q132, q133, cs137, Option.some.inj hq126, h136, hn138, hE.pick _ ⟨rfl, rfl, rfl, rfl, rfl, rfl, rfl, rfl, trivial⟩, hS⟩
          · clear hE hS a w; rintro a w ⟨q132, q133, cs137, rfl, h136, hn138, hE, hS⟩
            dsimp only at hq100
            refine W.region ?_
            refine WL.vS hS hE (runs_plain rfl) (Gives.p hE rfl) rfl ?_; clear hE a; intro a hE
            refine WL.vS hS hE (runs_plain rfl) (Gives.p hE rfl) rfl ?_; clear hE a; intro a hE
            refine WL.nil ?_
            subst hK113
            exact ⟨n102, Nat.lt_succ_self _, n102, (w64 (q106 + 1)), q133, cs137, rfl, hq100, h136, hn138, hE.pick _ ⟨rfl, rfl, rfl, rfl, rfl, rfl, rfl, rfl, trivial⟩, hS⟩
        · replace hq100 := iteF hc114 hq100
          subst hK113
          refine W.exit rfl ?_
          exact ⟨q106, q107, cs111, Option.some.inj hq100, h110, hn112, hE.pick _ ⟨rfl, trivial⟩, hS⟩
      · clear hE hS a w; rintro a w ⟨q106, q107, cs111, rfl, h110, hn112, hE, hS⟩
        dsimp only at hr
        refine W.seq ?_
        refine W.region ?_
        refine WL.vS hS hE (runs_plain rfl) (Gives.p hE rfl) rfl ?_; clear hE a; intro a hE
        refine WL.vS hS hE (runs_plain rfl) (Gives.p hE rfl) rfl ?_; clear hE a; intro a hE
        refine WL.nil ?_
        refine W.ret ?_
        have hF := hS.fixA 0 rfl h110 hn112 (by decide); clear hS; obtain ⟨s191, hle192, hS, h193⟩ := hF
        refine finG (fn := Try.f87) (rs := [.tmp 10, .tmp 11]) (vs := [_, _]) hE rfl ⟨rfl, rfl, trivial⟩ ?_
        obtain rfl := Option.some.inj hr
        exact ⟨(some ⟨b84, 0, none⟩), s191, rfl, hle192, h193, hS⟩
set_option maxHeartbeats 8000000 in
theorem PlanBoundsbetween_ok {fu : Nat}  {w : World} {s : Sg} {R : List HP} {x0 : Option (List Int)} {a0 : Option Addr} {x1 : Int} {x2 : Int} {x3 : Int} {x4 : Int} {x5 : Int} (hS : St w s (R)) (h0 : Pt 64 (RA .i64 64) s a0 x0) {r : (Option (List Int)) × Bool} (hr : PlanBoundsbetween fu x0 x1 x2 x3 x4 x5 = some r) :
    Calls Try.prog 72 [.pointer a0, .int .i64 x1, .int .i64 x2, .int .i64 x3, .int .i64 x4, .int .i64 x5].toArray w (fun e w => ∃ (a0 : Option Addr) (t : Sg), e = .returned (.tuple #[.pointer a0, .bool r.2]) ∧ s.Le t ∧ Pt 64 (RA .i64 64) t a0 r.1 ∧ St w t (R)) := by
  refine enter Try.func72 rfl rfl rfl fun a hE => ?_
  rw [PlanBoundsbetween] at hr
  refine W.seq ?_
  refine W.region ?_
  refine WL.vS hS hE (runs_plain rfl) (Gives.p hE rfl) rfl ?_; clear hE a; intro a hE
  refine WL.vS hS hE (runs_plain rfl) (Gives.p hE rfl) rfl ?_; clear hE a; intro a hE
  refine WL.nil ?_
  refine W.seq ?_
  refine W.region ?_
  refine WL.vS hS hE (runs_plain rfl) (Gives.p hE rfl) rfl ?_; clear hE a; intro a hE
  refine WL.vS hS hE (runs_plain rfl) (Gives.p hE rfl) rfl ?_; clear hE a; intro a hE
  refine WL.vS hS hE (runs_plain rfl) (Gives.p hE rfl) rfl ?_; clear hE a; intro a hE
  refine WL.vS hS hE (runs_plain rfl) (Gives.p hE rfl) rfl ?_; clear hE a; intro a hE
  refine WL.vS hS hE (runs_plain rfl) (Gives.p hE rfl) rfl ?_; clear hE a; intro a hE
  obtain ⟨q51, hq52, hr⟩ := bindS hr
  have hc_ := PlanBoundsclosed_ok hS h0 hq52
  refine WL.fnq hE (hc_) (runs_plain rfl) bd87 rfl rfl rfl ?_
  clear hE hS hc_; rintro e w ⟨a53, s55, rfl, hle56, h54, hS⟩; refine ⟨_, rfl, ?_⟩; clear a; intro a hE
  replace h0 := Pt.mono RA.mono hle56 h0
  refine WL.vS hS hE (runs_plain rfl) (Gives.p hE rfl) rfl ?_; clear hE a; intro a hE
  refine WL.vS hS hE (runs_plain rfl) (Gives.p hE rfl) rfl ?_; clear hE a; intro a hE
  refine WL.vS hS hE (runs_plain rfl) (Gives.p hE rfl) rfl ?_; clear hE a; intro a hE
  refine WL.vS hS hE (runs_plain rfl) (Gives.p hE rfl) rfl ?_; clear hE a; intro a hE
  refine WL.vS hS hE (runs_plain rfl) (Gives.p hE rfl) rfl ?_; clear hE a; intro a hE
  refine WL.nil ?_
  refine W.seq ?_
  refine W.seq ?_
  refine W.region ?_
  refine WL.vS hS hE (runs_plain rfl) (Gives.p hE rfl) rfl ?_; clear hE a; intro a hE
  refine WL.vS hS hE (runs_plain rfl) (Gives.p hE rfl) rfl ?_; clear hE a; intro a hE
  refine WL.nil ?_
  refine W.cond hE rfl (fun hc57 => ?_) (fun hc57 => ?_)
  · replace hr := iteT hc57 hr
    refine W.seq ?_
    refine W.region ?_
    refine WL.vS hS hE (runs_plain rfl) (Gives.p hE rfl) rfl ?_; clear hE a; intro a hE
    refine WL.vS hS hE (runs_plain rfl) (Gives.p hE rfl) rfl ?_; clear hE a; intro a hE
    refine WL.nil ?_
    refine W.ret ?_
    refine finG (fn := Try.f72) (rs := [.tmp 12, .tmp 13]) (vs := [_, _]) hE rfl ⟨rfl, rfl, trivial⟩ ?_
    obtain rfl := Option.some.inj hr
    exact ⟨none, s55, rfl, hle56, Pt.nil, hS⟩
  · replace hr := iteF hc57 hr
    refine W.skip ?_
    refine W.seq ?_
    refine W.region ?_
    refine WL.vS hS hE (runs_plain rfl) (Gives.p hE rfl) rfl ?_; clear hE a; intro a hE
    refine WL.vS hS hE (runs_plain rfl) (Gives.p hE rfl) rfl ?_; clear hE a; intro a hE
    refine WL.vS hS hE (runs_plain rfl) (Gives.p hE rfl) rfl ?_; clear hE a; intro a hE
    refine WL.vS hS hE (runs_plain rfl) (Gives.p hE rfl) rfl ?_; clear hE a; intro a hE
    refine WL.vS hS hE (runs_plain rfl) (Gives.p hE rfl) rfl ?_; clear hE a; intro a hE
    refine WL.vS hS hE (runs_plain rfl) (Gives.p hE rfl) rfl ?_; clear hE a; intro a hE
    obtain ⟨q58, hq59, hr⟩ := bindS hr
    have hc_ := PlanBoundsclosed_ok hS h54 hq59
    refine WL.fnq hE (hc_) (runs_plain rfl) bd87 rfl rfl rfl ?_
    clear hE hS hc_; rintro e w ⟨a60, s62, rfl, hle63, h61, hS⟩; refine ⟨_, rfl, ?_⟩; clear a; intro a hE
    replace h0 := Pt.mono RA.mono hle63 h0
    replace h54 := Pt.mono RA.mono hle63 h54
    refine WL.vS hS hE (runs_plain rfl) (Gives.p hE rfl) rfl ?_; clear hE a; intro a hE
    refine WL.vS hS hE (runs_plain rfl) (Gives.p hE rfl) rfl ?_; clear hE a; intro a hE
    refine WL.vS hS hE (runs_plain rfl) (Gives.p hE rfl) rfl ?_; clear hE a; intro a hE
    refine WL.vS hS hE (runs_plain rfl) (Gives.p hE rfl) rfl ?_; clear hE a; intro a hE
    refine WL.nil ?_
    refine W.ret ?_
    refine finG (fn := Try.f72) (rs := [.tmp 12, .tmp 13]) (vs := [_, _]) hE rfl ⟨rfl, rfl, trivial⟩ ?_
    obtain rfl := Option.some.inj hr
    exact ⟨a60, s62, rfl, (Sg.Le.trans hle56 hle63), h61, hS⟩
set_option maxHeartbeats 8000000 in
theorem PlanSearchrun_v1_ok : ∀ {fu : Nat} {w : World} {s : Sg} {R : List HP} {pb0 : Nat} {pb1 : Nat} {pb2 : Nat} {pb3 : Nat} {pb4 : Nat} {x1 : Option (List Int)} {a1 : Option Addr} {y0_0 : Int} {y0_1 : Int} {y0_2 : List PlanRule} {a_y0_2 : Option Addr} {c_y0_2 : Nat} {y0_5 : List Int} {a_v0 : Option Addr} {c_v0 n_v0 : Nat} {cs_v0 : List Value} {y0_6 : List Bool} {a_v1 : Option Addr} {c_v1 n_v1 : Nat} {cs_v1 : List Value} {y1 : PlanPeriodic} {a_y1_2 : Option Addr} {c_y1_2 : Nat} {y2 : List Int} {a_y2_0 : Option Addr} {c_y2_0 : Nat} {y3 : Int} (_hS : St w s (pt pb0 (.cells #[.int .i64 y0_0, .int .i64 y0_1, .slice a_y0_2 y0_2.length c_y0_2, .func (.func 50) #[] #[.pointer (some ⟨pb1, 0, none⟩), .pointer (some ⟨pb2, 0, none⟩), .pointer (some ⟨pb3, 0, none⟩)], .func (.func 49) #[] #[.pointer (some ⟨pb2, 0, none⟩), .pointer (some ⟨pb1, 0, none⟩), .pointer (some ⟨pb4, 0, none⟩), .pointer (some ⟨pb3, 0, none⟩)], .slice a_v0 n_v0 c_v0, .slice a_v1 n_v1 c_v1] 80 (0, 0)) :: pt pb1 (.cells #[.int .i64 y1.Period, .int .i64 y1.Events, .slice a_y1_2 y1.Rules.length c_y1_2] 24 (0, 0)) :: pt pb2 (.cells #[.slice a_y2_0 y2.length c_y2_0] 29 (0, 0)) :: pt pb3 (.cells #[.int .i64 y3] 3 (0, 0)) :: pt pb4 (.cells #[.pointer (some ⟨pb0, 0, none⟩)] 74 (0, 0)) :: vecC 3 1 a_v0 c_v0 n_v0 cs_v0 :: vecC 4 1 a_v1 c_v1 n_v1 cs_v1 :: R)) (_h1 : Pt 64 (RA .i64 64) s a1 x1) (_h_y0_2 : Sl 5 RPlanRule s a_y0_2 c_y0_2 y0_2) (_h_v0 : Ev 1 (RI .i64) s cs_v0 y0_5) (_hn_v0 : y0_5.length = n_v0) (_h_v1 : Ev 1 RB s cs_v1 y0_6) (_hn_v1 : y0_6.length = n_v1) (_h_y1_2 : Sl 5 RPlanRule s a_y1_2 c_y1_2 y1.Rules) (_h_y2_0 : Sl 1 (RI .i64) s a_y2_0 c_y2_0 y2) (_hz_y2_0 : y2 = [] → a_y2_0 = none) {r : (List Int) × (List Bool) × (List Int) × Int} (_hr : PlanSearchrun_v1 fu x1 y0_0 y0_1 y0_2 y0_5 y0_6 y1 y2 y3 = some r),
    Calls Try.prog 54 [.pointer (some ⟨pb0, 0, none⟩), .pointer a1].toArray w (fun e w => ∃ (cs73 : List Value) (cs79 : List Value) (a82 : Option Addr) (c83 : Nat) (t : Sg), e = .returned (.tuple #[]) ∧ s.Le t ∧ Ev 1 (RI .i64) t cs73 r.1 ∧ r.1.length = n_v0 ∧ Ev 1 RB t cs79 r.2.1 ∧ r.2.1.length = n_v1 ∧ Sl 1 (RI .i64) t a82 c83 r.2.2.1 ∧ (r.2.2.1 = [] → a82 = none) ∧ St w t (pt pb0 (.cells #[.int .i64 y0_0, .int .i64 y0_1, .slice a_y0_2 y0_2.length c_y0_2, .func (.func 50) #[] #[.pointer (some ⟨pb1, 0, none⟩), .pointer (some ⟨pb2, 0, none⟩), .pointer (some ⟨pb3, 0, none⟩)], .func (.func 49) #[] #[.pointer (some ⟨pb2, 0, none⟩), .pointer (some ⟨pb1, 0, none⟩), .pointer (some ⟨pb4, 0, none⟩), .pointer (some ⟨pb3, 0, none⟩)], .slice a_v0 n_v0 c_v0, .slice a_v1 n_v1 c_v1] 80 (0, 0)) :: pt pb1 (.cells #[.int .i64 y1.Period, .int .i64 y1.Events, .slice a_y1_2 y1.Rules.length c_y1_2] 24 (0, 0)) :: pt pb2 (.cells #[.slice a82 r.2.2.1.length c83] 29 (0, 0)) :: pt pb3 (.cells #[.int .i64 r.2.2.2] 3 (0, 0)) :: pt pb4 (.cells #[.pointer (some ⟨pb0, 0, none⟩)] 74 (0, 0)) :: vecC 3 1 a_v0 c_v0 n_v0 cs73 :: vecC 4 1 a_v1 c_v1 n_v1 cs79 :: R)) := by
  intro fu
  induction fu with
  | zero => intro w s R pb0 pb1 pb2 pb3 pb4 x1 a1 y0_0 y0_1 y0_2 a_y0_2 c_y0_2 y0_5 a_v0 c_v0 n_v0 cs_v0 y0_6 a_v1 c_v1 n_v1 cs_v1 y1 a_y1_2 c_y1_2 y2 a_y2_0 c_y2_0 y3 hS h1 h_y0_2 h_v0 hn_v0 h_v1 hn_v1 h_y1_2 h_y2_0 hz_y2_0 r hr; rw [PlanSearchrun_v1] at hr; exact absurd hr (by simp)
  | succ fu ih_PlanSearchrun_v1 =>
    intro w s R pb0 pb1 pb2 pb3 pb4 x1 a1 y0_0 y0_1 y0_2 a_y0_2 c_y0_2 y0_5 a_v0 c_v0 n_v0 cs_v0 y0_6 a_v1 c_v1 n_v1 cs_v1 y1 a_y1_2 c_y1_2 y2 a_y2_0 c_y2_0 y3 hS h1 h_y0_2 h_v0 hn_v0 h_v1 hn_v1 h_y1_2 h_y2_0 hz_y2_0 r hr
    rw [PlanSearchrun_v1] at hr
    generalize PlanSearchrun_v1 fu = self_PlanSearchrun_v1 at hr ih_PlanSearchrun_v1
    refine enter Try.func54 rfl rfl rfl fun a hE => ?_
    subst hn_v0
    subst hn_v1
    refine W.seq ?_
    refine W.seq ?_
    refine W.region ?_
    refine WL.vS hS hE (runs_plain rfl) (Gives.p hE rfl) rfl ?_; clear hE a; intro a hE
    refine WL.vS hS hE (runs_plain rfl) (Gives.nilOk hE rfl) rfl ?_; clear hE a; intro a hE
    refine WL.vS hS hE (runs_plain rfl) (Gives.fld hE rfl fl80_2) rfl ?_; clear hE a; intro a hE
    refine WL.vS hS hE (runs_plain rfl) (Gives.loadB hE 0 rfl rfl rfl ty78) rfl ?_; clear hE a; intro a hE
    refine WL.vS hS hE (runs_plain rfl) (Gives.p hE rfl) rfl ?_; clear hE a; intro a hE
    obtain ⟨q87, hq88, hr⟩ := bindS hr
    replace hS := hS.front 6 rfl
    replace hS := hS.front 6 rfl
    replace hS := hS.front 2 rfl
    replace hS := hS.front 5 rfl
    replace hS := hS.front 6 rfl
    replace hS := hS.front 5 rfl
    replace hS := hS.front 6 rfl
    have hc_ := PlanBest_1_v1_ok (y1 := y1) hS h1 h_y2_0 hz_y2_0 h_y1_2 h_y0_2 h_v0 (rfl) h_v1 (rfl) hq88
    refine WL.fnw hE (hc_) rfl (runs_plain rfl) bd49 rfl rfl rfl ?_
    clear hE hS hc_; rintro e w ⟨rfl, hS⟩; refine ⟨_, rfl, ?_⟩; clear a; intro a hE
    refine WL.nil ?_
    refine W.cond hE rfl (fun hc89 => ?_) (fun hc89 => ?_)
    · replace hr := iteT hc89 hr
      refine W.ret ?_
      refine finG (fn := Try.f54) (rs := []) (vs := []) hE rfl trivial ?_
      obtain rfl := Option.some.inj hr
      replace hS := hS.front 6 rfl
      replace hS := hS.front 6 rfl
      replace hS := hS.front 4 rfl
      replace hS := hS.front 5 rfl
      replace hS := hS.front 4 rfl
      replace hS := hS.front 5 rfl
      replace hS := hS.front 6 rfl
      exact ⟨cs_v0, cs_v1, a_y2_0, c_y2_0, s, rfl, (Sg.Le.refl _), h_v0, (rfl), h_v1, (rfl), h_y2_0, hz_y2_0, hS⟩
    · replace hr := iteF hc89 hr
      refine W.skip ?_
      refine W.seq ?_
      refine W.region ?_
      refine WL.vS hS hE (runs_plain rfl) (Gives.p hE rfl) rfl ?_; clear hE a; intro a hE
      refine WL.vS hS hE (runs_plain rfl) (Gives.p hE rfl) rfl ?_; clear hE a; intro a hE
      refine WL.nil ?_
      refine W.seq ?_
      refine W.seq ?_
      refine W.region ?_
      refine WL.vS hS hE (runs_plain rfl) (Gives.p hE rfl) rfl ?_; clear hE a; intro a hE
      refine WL.vS hS hE (runs_plain rfl) (Gives.nilOk hE rfl) rfl ?_; clear hE a; intro a hE
      refine WL.vS hS hE (runs_plain rfl) (Gives.fld hE rfl fl80_0) rfl ?_; clear hE a; intro a hE
      refine WL.vS hS hE (runs_plain rfl) (Gives.fld hE rfl fl24_2) rfl ?_; clear hE a; intro a hE
      refine WL.vS hS hE (runs_plain rfl) (Gives.loadB hE 4 rfl rfl rfl ty22) rfl ?_; clear hE a; intro a hE
      refine WL.vS hS hE (runs_plain rfl) (Gives.len hE rfl sl22) rfl ?_; clear hE a; intro a hE
      refine WL.vS hS hE (runs_plain rfl) (Gives.p hE rfl) rfl ?_; clear hE a; intro a hE
      refine WL.nil ?_
      obtain ⟨q91, hq90, hr⟩ := bindS hr
      refine W.cut (fun a w => ∃ (q101 : Int), ∃ (q102 : List Int), ∃ (q106 : List Int), ∃ (q111 : Int), ∃ (a103 : Option Addr), ∃ (c104 : Nat), ∃ (a107 : Option Addr), ∃ (c108 : Nat), ∃ (s99 : Sg), s.Le s99 ∧ (.next (q101, q102, q106, q111)) = q91 ∧ Sl 1 (RI .i64) s99 a103 c104 q102 ∧ Sl 1 (RI .i64) s99 a107 c108 q106 ∧ (q106 = [] → a107 = none) ∧ Rep a 142 [(0, .pointer (some ⟨pb0, 0, none⟩)), (1, .pointer a1), (4, .int .i64 q101), (5, .slice a103 q102.length c104)] ∧ St w s99 (pt pb2 (.cells #[.slice a107 q106.length c108] 29 (0, 0)) :: pt pb1 (.cells #[.int .i64 y1.Period, .int .i64 y1.Events, .slice a_y1_2 y1.Rules.length c_y1_2] 24 (0, 0)) :: pt pb4 (.cells #[.pointer (some ⟨pb0, 0, none⟩)] 74 (0, 0)) :: pt pb3 (.cells #[.int .i64 q111] 3 (0, 0)) :: pt pb0 (.cells #[.int .i64 y0_0, .int .i64 y0_1, .slice a_y0_2 y0_2.length c_y0_2, .func (.func 50) #[] #[.pointer (some ⟨pb1, 0, none⟩), .pointer (some ⟨pb2, 0, none⟩), .pointer (some ⟨pb3, 0, none⟩)], .func (.func 49) #[] #[.pointer (some ⟨pb2, 0, none⟩), .pointer (some ⟨pb1, 0, none⟩), .pointer (some ⟨pb4, 0, none⟩), .pointer (some ⟨pb3, 0, none⟩)], .slice a_v0 y0_5.length c_v0, .slice a_v1 y0_6.length c_v1] 80 (0, 0)) :: vecC 3 1 a_v0 c_v0 y0_5.length cs_v0 :: vecC 4 1 a_v1 c_v1 y0_6.length cs_v1 :: R)) ?_ ?_
      · refine W.block ?_
        refine W.loop (fun m a w => ∃ (rest94 : List PlanRule) (k92 : Nat), ∃ (q101 : Int), ∃ (q102 : List Int), ∃ (q106 : List Int), ∃ (q111 : Int), ∃ (a103 : Option Addr), ∃ (c104 : Nat), ∃ (a107 : Option Addr), ∃ (c108 : Nat), ∃ (s99 : Sg), rest94.length = m ∧ y0_2.drop k92 = rest94 ∧ s.Le s99 ∧ PlanSearchrun_v1.loop1 x1 y0_0 y0_1 y0_2 y0_5 y0_6 y1 fu rest94 k92 q101 q102 q106 q111 = some q91 ∧ Sl 1 (RI .i64) s99 a103 c104 q102 ∧ Sl 1 (RI .i64) s99 a107 c108 q106 ∧ (q106 = [] → a107 = none) ∧ Rep a 142 [(0, .pointer (some ⟨pb0, 0, none⟩)), (1, .pointer a1), (4, .int .i64 q101), (5, .slice a103 q102.length c104), (24, .slice a_y0_2 y0_2.length c_y0_2), (25, .int .i64 ((y0_2).length : Int)), (26, .int .i64 ((k92 : Nat) : Int))] ∧ St w s99 (pt pb2 (.cells #[.slice a107 q106.length c108] 29 (0, 0)) :: pt pb1 (.cells #[.int .i64 y1.Period, .int .i64 y1.Events, .slice a_y1_2 y1.Rules.length c_y1_2] 24 (0, 0)) :: pt pb4 (.cells #[.pointer (some ⟨pb0, 0, none⟩)] 74 (0, 0)) :: pt pb3 (.cells #[.int .i64 q111] 3 (0, 0)) :: pt pb0 (.cells #[.int .i64 y0_0, .int .i64 y0_1, .slice a_y0_2 y0_2.length c_y0_2, .func (.func 50) #[] #[.pointer (some ⟨pb1, 0, none⟩), .pointer (some ⟨pb2, 0, none⟩), .pointer (some ⟨pb3, 0, none⟩)], .func (.func 49) #[] #[.pointer (some ⟨pb2, 0, none⟩), .pointer (some ⟨pb1, 0, none⟩), .pointer (some ⟨pb4, 0, none⟩), .pointer (some ⟨pb3, 0, none⟩)], .slice a_v0 y0_5.length c_v0, .slice a_v1 y0_6.length c_v1] 80 (0, 0)) :: vecC 3 1 a_v0 c_v0 y0_5.length cs_v0 :: vecC 4 1 a_v1 c_v1 y0_6.length cs_v1 :: R)) (m := y0_2.length) ⟨y0_2, 0, (-1), [], y2, y3, none, 0, a_y2_0, c_y2_0, s, rfl, rfl, (Sg.Le.refl _), hq90, Sl.nil, h_y2_0, hz_y2_0, hE.pick _ ⟨rfl, rfl, rfl, rfl, rfl, rfl, rfl, trivial⟩, hS⟩ ?_
        clear hE hS a w hq90; rintro m98 a w ⟨rest94, k92, q101, q102, q106, q111, a103, c104, a107, c108, s99, rfl, hd95, hle100, hq90, h105, h109, hz110, hE, hS⟩
        refine W.gen fun K112 hK112 => ?_
        replace h1 := Pt.mono RA.mono hle100 h1
        replace h_y0_2 := Sl.mono RPlanRule.mono hle100 h_y0_2
        replace h_y2_0 := Sl.mono RI.mono hle100 h_y2_0
        replace h_y1_2 := Sl.mono RPlanRule.mono hle100 h_y1_2
        replace h_v0 := Ev.mono RI.mono hle100 h_v0
        replace h_v1 := Ev.mono RB.mono hle100 h_v1
        rcases rest94 with _ | ⟨x93, rest94⟩
        · have hlt96 := drop_nil hd95
          refine W.seq ?_
          refine W.region ?_
          refine WL.vS hS hE (runs_plain rfl) (Gives.p hE rfl) rfl ?_; clear hE a; intro a hE
          refine WL.nil ?_
          refine W.seq ?_
          refine W.condF hE rfl (decide_eq_false (by omega)) ?_
          subst hK112
          refine W.exit rfl ?_
          exact ⟨q101, q102, q106, q111, a103, c104, a107, c108, s99, hle100, Option.some.inj hq90, h105, h109, hz110, hE.pick _ ⟨rfl, rfl, rfl, rfl, trivial⟩, hS⟩
        · obtain ⟨hlt96, hx97, hd95⟩ := drop_cons hd95
          rw [PlanSearchrun_v1.loop1] at hq90
          refine W.seq ?_
          refine W.region ?_
          refine WL.vS hS hE (runs_plain rfl) (Gives.p hE rfl) rfl ?_; clear hE a; intro a hE
          refine WL.nil ?_
          refine W.seq ?_
          refine W.condT hE rfl (decide_eq_true (by omega)) ?_
          refine W.skip ?_
          refine W.seq ?_
          refine W.block ?_
          refine W.seq ?_
          refine W.region ?_
          refine WL.vS hS hE (runs_plain rfl) (Gives.p hE rfl) rfl ?_; clear hE a; intro a hE
          obtain ⟨cs113, hl114, hR115, hat116⟩ := h_y0_2.at hx97
          subst hR115
          refine WL.vS hS hE (runs_plain rfl) (Gives.idx hE k92 rfl rfl sl22 rfl hlt96 (h_y0_2.aok hlt96)) rfl ?_; clear hE a; intro a hE
          refine WL.vS hS hE (runs_plain rfl) (Gives.loadA hE rfl (fun w h => hat116 w _ h) ty37) rfl ?_; clear hE a; intro a hE
          refine WL.alloc hE hS (runs_plain rfl) zr37 rfl ?_; clear hE hS a w; intro b117 a w hE hS
          refine WL.vS hS hE (runs_plain rfl) (Gives.p hE rfl) rfl ?_; clear hE a; intro a hE
          refine WL.storeI hE hS 0 rfl (PlanRule.cells x93) (runs_plain rfl) rfl rfl rfl ty37 rfl rfl rfl rfl ?_; clear hE hS a w; intro a w hE hS
          refine WL.nil ?_
          refine W.seq ?_
          refine W.seq ?_
          refine W.region ?_
          refine WL.vS hS hE (runs_plain rfl) (Gives.p hE rfl) rfl ?_; clear hE a; intro a hE
          refine WL.vS hS hE (runs_plain rfl) (Gives.nilOk hE rfl) rfl ?_; clear hE a; intro a hE
          refine WL.vS hS hE (runs_plain rfl) (Gives.fld hE rfl fl80_4) rfl ?_; clear hE a; intro a hE
          refine WL.vS hS hE (runs_plain rfl) (Gives.loadB hE 5 rfl rfl rfl ty71) rfl ?_; clear hE a; intro a hE
          refine WL.vS hS hE (runs_plain rfl) (Gives.p hE rfl) rfl ?_; clear hE a; intro a hE
          obtain ⟨x118, hx119, hq90⟩ := bindS hq90
          obtain ⟨hi120, hlt121, hy122⟩ := gx_some hx119
          obtain ⟨vs123, hl124, hR125, hd126, hget127⟩ := h_v1.at hy122
          subst hR125
          refine WL.vS hS hE (runs_plain rfl) (Gives.idx hE ((((k92 : Nat) : Int)).toNat) rfl rfl sl71 hi120 (by omega) (hS.vecAok 7 rfl (by omega : (((k92 : Nat) : Int)).toNat < y0_6.length))) rfl ?_; clear hE a; intro a hE
          refine WL.vS hS hE (runs_plain rfl) (Gives.load1 hE rfl (fun w h => St.vecSees h 7 rfl ((((k92 : Nat) : Int)).toNat * 1) _ hget127) ty4) rfl ?_; clear hE a; intro a hE
          refine WL.vS hS hE (runs_plain rfl) (Gives.p hE rfl) rfl ?_; clear hE a; intro a hE
          refine WL.nil ?_
          refine W.cond hE rfl (fun hc128 => ?_) (fun hc128 => ?_)
          · replace hq90 := iteT hc128 hq90
            refine W.exit rfl ?_
            refine W.region ?_
            refine WL.vS hS hE (runs_plain rfl) (Gives.inc hE rfl (by have := h_y0_2.small; omega)) rfl ?_; clear hE a; intro a hE
            refine WL.vS hS hE (runs_plain rfl) (Gives.p hE rfl) rfl ?_; clear hE a; intro a hE
            refine WL.nil ?_
            replace hS := hS.tail
            subst hK112
            exact ⟨rest94.length, Nat.lt_succ_self _, rest94, k92 + 1, q101, q102, q106, q111, a103, c104, a107, c108, s99, rfl, hd95, hle100, hq90, h105, h109, hz110, hE.pick _ ⟨rfl, rfl, rfl, rfl, rfl, rfl, rfl, trivial⟩, hS⟩
          · replace hq90 := iteF hc128 hq90
            refine W.skip ?_
            refine W.seq ?_
            refine W.region ?_
            refine WL.vS hS hE (runs_plain rfl) (Gives.p hE rfl) rfl ?_; clear hE a; intro a hE
            refine WL.vS hS hE (runs_plain rfl) (Gives.p hE rfl) rfl ?_; clear hE a; intro a hE
            refine WL.vS hS hE (runs_plain rfl) (Gives.loadBA hE 0 rfl rfl ty37) rfl ?_; clear hE a; intro a hE
            obtain ⟨q129, hq130, hq90⟩ := bindS hq90
            replace hS := hS.front 7 rfl
            replace hS := hS.front 7 rfl
            replace hS := hS.front 5 rfl
            replace hS := hS.front 6 rfl
            replace hS := hS.front 5 rfl
            replace hS := hS.front 6 rfl
            replace hS := hS.front 7 rfl
            have hc_ := PlanSearchchoices_v1_ok (y1 := y1) hS h1 h_y0_2 h_v0 (rfl) h_v1 (rfl) h_y1_2 h109 hz110 hq130
            refine WL.fnq hE (hc_) (runs_plain rfl) bd82 rfl rfl rfl ?_
            clear hE hS hc_; rintro e w ⟨a131, c132, n133, cs134, rfl, h135, rfl, hS⟩; refine ⟨_, rfl, ?_⟩; clear a; intro a hE
            refine WL.vS hS hE (runs_plain rfl) (Gives.p hE rfl) rfl ?_; clear hE a; intro a hE
            refine WL.nil ?_
            refine W.seq ?_
            refine W.seq ?_
            obtain ⟨q138, hq137, hq90⟩ := bndS hq90
            refine W.cut (fun a w => ∃ (q141 : Bool), q141 = q138 ∧ Rep a 142 [(0, .pointer (some ⟨pb0, 0, none⟩)), (1, .pointer a1), (4, .int .i64 q101), (5, .slice a103 q102.length c104), (6, .int .i64 ((k92 : Nat) : Int)), (8, .slice a131 q129.length c132), (24, .slice a_y0_2 y0_2.length c_y0_2), (25, .int .i64 ((y0_2).length : Int)), (26, .int .i64 ((k92 : Nat) : Int)), (51, .bool q141)] ∧ St w s99 (vecC 3 1 a131 c132 q129.length cs134 :: pt pb0 (.cells #[.int .i64 y0_0, .int .i64 y0_1, .slice a_y0_2 y0_2.length c_y0_2, .func (.func 50) #[] #[.pointer (some ⟨pb1, 0, none⟩), .pointer (some ⟨pb2, 0, none⟩), .pointer (some ⟨pb3, 0, none⟩)], .func (.func 49) #[] #[.pointer (some ⟨pb2, 0, none⟩), .pointer (some ⟨pb1, 0, none⟩), .pointer (some ⟨pb4, 0, none⟩), .pointer (some ⟨pb3, 0, none⟩)], .slice a_v0 y0_5.length c_v0, .slice a_v1 y0_6.length c_v1] 80 (0, 0)) :: pt pb1 (.cells #[.int .i64 y1.Period, .int .i64 y1.Events, .slice a_y1_2 y1.Rules.length c_y1_2] 24 (0, 0)) :: pt pb2 (.cells #[.slice a107 q106.length c108] 29 (0, 0)) :: pt pb3 (.cells #[.int .i64 q111] 3 (0, 0)) :: pt pb4 (.cells #[.pointer (some ⟨pb0, 0, none⟩)] 74 (0, 0)) :: vecC 3 1 a_v0 c_v0 y0_5.length cs_v0 :: vecC 4 1 a_v1 c_v1 y0_6.length cs_v1 :: pt b117 (.cells (PlanRule.cells x93).toArray 37 (0, 0)) :: R)) ?_ ?_
            · refine W.gen fun K142 hK142 => ?_
              refine W.region ?_
              refine WL.vS hS hE (runs_plain rfl) (Gives.p hE rfl) rfl ?_; clear hE a; intro a hE
              refine WL.vS hS hE (runs_plain rfl) (Gives.p hE rfl) rfl ?_; clear hE a; intro a hE
              refine WL.vS hS hE (runs_plain rfl) (Gives.p hE rfl) rfl ?_; clear hE a; intro a hE
              rcases Bool.eq_false_or_eq_true (decide (q101 < 0)) with hg143 | hg143
              · replace hq137 := iteT hg143 hq137
                refine WL.no hE (runs_not hE rfl rfl rfl (by rw [hg143]; decide)) rfl ?_; clear hE a; intro a hE
                refine WL.no hE (runs_not hE rfl rfl rfl (by rw [hg143]; decide)) rfl ?_; clear hE a; intro a hE
                refine WL.no hE (runs_not hE rfl rfl rfl (by rw [hg143]; decide)) rfl ?_; clear hE a; intro a hE
                refine WL.no hE (runs_not hE rfl rfl rfl (by rw [hg143]; decide)) rfl ?_; clear hE a; intro a hE
                refine WL.no hE (runs_not hE rfl rfl rfl (by rw [hg143]; decide)) rfl ?_; clear hE a; intro a hE
                refine WL.vS hS hE (runs_plain rfl) (Gives.pickT hE rfl hg143 rfl) rfl ?_; clear hE a; intro a hE
                refine WL.nil ?_
                subst hK142
                exact ⟨true, hq137, hE.pick _ ⟨rfl, rfl, rfl, rfl, rfl, rfl, rfl, rfl, rfl, rfl, trivial⟩, hS⟩
              · replace hq137 := iteF hg143 hq137
                refine WL.vS hS hE (runs_if hE rfl rfl rfl hg143) (Gives.p hE rfl) rfl ?_; clear hE a; intro a hE
                refine WL.vS hS hE (runs_if hE rfl rfl rfl hg143) (Gives.len hE rfl sl29) rfl ?_; clear hE a; intro a hE
                refine WL.vS hS hE (runs_if hE rfl rfl rfl hg143) (Gives.p hE rfl) rfl ?_; clear hE a; intro a hE
                refine WL.vS hS hE (runs_if hE rfl rfl rfl hg143) (Gives.len hE rfl sl29) rfl ?_; clear hE a; intro a hE
                refine WL.vS hS hE (runs_if hE rfl rfl rfl hg143) (Gives.p hE rfl) rfl ?_; clear hE a; intro a hE
                refine WL.vS hS hE (runs_plain rfl) (Gives.pickF hE rfl hg143 rfl) rfl ?_; clear hE a; intro a hE
                refine WL.nil ?_
                subst hK142
                exact ⟨decide (((q129.length : Nat) : Int) < ((q102).length : Int)), hq137, hE.pick _ ⟨rfl, rfl, rfl, rfl, rfl, rfl, rfl, rfl, rfl, rfl, trivial⟩, hS⟩
            · clear hE hS a w; rintro a w ⟨q141, rfl, hE, hS⟩
              have hF := hS.fixD RI.mono 0 rfl h135 rfl; clear hS; obtain ⟨s144, hle145, hS, h146⟩ := hF
              replace h1 := Pt.mono RA.mono hle145 h1
              replace h105 := Sl.mono RI.mono hle145 h105
              replace h_y0_2 := Sl.mono RPlanRule.mono hle145 h_y0_2
              replace h_y1_2 := Sl.mono RPlanRule.mono hle145 h_y1_2
              replace h109 := Sl.mono RI.mono hle145 h109
              replace h_v0 := Ev.mono RI.mono hle145 h_v0
              replace h_v1 := Ev.mono RB.mono hle145 h_v1
              obtain ⟨q148, hq147, hq90⟩ := bndS hq90
              refine W.cut (fun a w => ∃ (q151 : Int), ∃ (q152 : List Int), ∃ (a153 : Option Addr), ∃ (c154 : Nat), (q151, q152) = q148 ∧ Sl 1 (RI .i64) s144 a153 c154 q152 ∧ Rep a 142 [(0, .pointer (some ⟨pb0, 0, none⟩)), (1, .pointer a1), (4, .int .i64 q151), (5, .slice a153 q152.length c154), (8, .slice a131 q129.length c132), (24, .slice a_y0_2 y0_2.length c_y0_2), (25, .int .i64 ((y0_2).length : Int)), (26, .int .i64 ((k92 : Nat) : Int))] ∧ St w s144 (pt pb0 (.cells #[.int .i64 y0_0, .int .i64 y0_1, .slice a_y0_2 y0_2.length c_y0_2, .func (.func 50) #[] #[.pointer (some ⟨pb1, 0, none⟩), .pointer (some ⟨pb2, 0, none⟩), .pointer (some ⟨pb3, 0, none⟩)], .func (.func 49) #[] #[.pointer (some ⟨pb2, 0, none⟩), .pointer (some ⟨pb1, 0, none⟩), .pointer (some ⟨pb4, 0, none⟩), .pointer (some ⟨pb3, 0, none⟩)], .slice a_v0 y0_5.length c_v0, .slice a_v1 y0_6.length c_v1] 80 (0, 0)) :: pt pb1 (.cells #[.int .i64 y1.Period, .int .i64 y1.Events, .slice a_y1_2 y1.Rules.length c_y1_2] 24 (0, 0)) :: pt pb2 (.cells #[.slice a107 q106.length c108] 29 (0, 0)) :: pt pb3 (.cells #[.int .i64 q111] 3 (0, 0)) :: pt pb4 (.cells #[.pointer (some ⟨pb0, 0, none⟩)] 74 (0, 0)) :: vecC 3 1 a_v0 c_v0 y0_5.length cs_v0 :: vecC 4 1 a_v1 c_v1 y0_6.length cs_v1 :: pt b117 (.cells (PlanRule.cells x93).toArray 37 (0, 0)) :: R)) ?_ ?_
              · refine W.gen fun K156 hK156 => ?_
                refine W.cond hE rfl (fun hc157 => ?_) (fun hc157 => ?_)
                · replace hq147 := iteT hc157 hq147
                  refine W.region ?_
                  refine WL.vS hS hE (runs_plain rfl) (Gives.p hE rfl) rfl ?_; clear hE a; intro a hE
                  refine WL.vS hS hE (runs_plain rfl) (Gives.p hE rfl) rfl ?_; clear hE a; intro a hE
                  refine WL.vS hS hE (runs_plain rfl) (Gives.p hE rfl) rfl ?_; clear hE a; intro a hE
                  refine WL.vS hS hE (runs_plain rfl) (Gives.p hE rfl) rfl ?_; clear hE a; intro a hE
                  refine WL.nil ?_
                  subst hK156
                  exact ⟨((k92 : Nat) : Int), q129, a131, c132, hq147, h146, hE.pick _ ⟨rfl, rfl, rfl, rfl, rfl, rfl, rfl, rfl, trivial⟩, hS⟩
                · replace hq147 := iteF hc157 hq147
                  refine W.skip ?_
                  subst hK156
                  exact ⟨q101, q102, a103, c104, hq147, h105, hE.pick _ ⟨rfl, rfl, rfl, rfl, rfl, rfl, rfl, rfl, trivial⟩, hS⟩
              · clear hE hS a w; rintro a w ⟨q151, q152, a153, c154, rfl, h155, hE, hS⟩
                dsimp only at hq90
                refine W.seq ?_
                refine W.region ?_
                refine WL.vS hS hE (runs_plain rfl) (Gives.p hE rfl) rfl ?_; clear hE a; intro a hE
                refine WL.vS hS hE (runs_plain rfl) (Gives.len hE rfl sl29) rfl ?_; clear hE a; intro a hE
                refine WL.vS hS hE (runs_plain rfl) (Gives.p hE rfl) rfl ?_; clear hE a; intro a hE
                refine WL.nil ?_
                refine W.cond hE rfl (fun hc158 => ?_) (fun hc158 => ?_)
                · replace hq90 := iteT hc158 hq90
                  refine W.ret ?_
                  subst hK112
                  rw [← Option.some.inj hq90] at hr
                  dsimp only at hr
                  refine finG (fn := Try.f54) (rs := []) (vs := []) hE rfl trivial ?_
                  obtain rfl := Option.some.inj hr
                  replace hS := hS.dropAt 7
                  exact ⟨cs_v0, cs_v1, a107, c108, s144, rfl, (Sg.Le.trans hle100 hle145), h_v0, (rfl), h_v1, (rfl), h109, hz110, hS⟩
                · replace hq90 := iteF hc158 hq90
                  refine W.skip ?_
                  refine W.region ?_
                  refine WL.vS hS hE (runs_plain rfl) (Gives.inc hE rfl (by have := h_y0_2.small; omega)) rfl ?_; clear hE a; intro a hE
                  refine WL.vS hS hE (runs_plain rfl) (Gives.p hE rfl) rfl ?_; clear hE a; intro a hE
                  refine WL.nil ?_
                  replace hS := hS.dropAt 7
                  replace hS := hS.front 6 rfl
                  replace hS := hS.front 6 rfl
                  replace hS := hS.front 2 rfl
                  replace hS := hS.front 5 rfl
                  replace hS := hS.front 6 rfl
                  replace hS := hS.front 5 rfl
                  replace hS := hS.front 6 rfl
                  subst hK112
                  exact ⟨rest94.length, Nat.lt_succ_self _, rest94, k92 + 1, q151, q152, q106, q111, a153, c154, a107, c108, s144, rfl, hd95, (Sg.Le.trans hle100 hle145), hq90, h155, h109, hz110, hE.pick _ ⟨rfl, rfl, rfl, rfl, rfl, rfl, rfl, trivial⟩, hS⟩
      · clear hE hS a w; rintro a w ⟨q101, q102, q106, q111, a103, c104, a107, c108, s99, hle100, rfl, h105, h109, hz110, hE, hS⟩
        dsimp only at hr
        replace h1 := Pt.mono RA.mono hle100 h1
        replace h_y0_2 := Sl.mono RPlanRule.mono hle100 h_y0_2
        replace h_y2_0 := Sl.mono RI.mono hle100 h_y2_0
        replace h_y1_2 := Sl.mono RPlanRule.mono hle100 h_y1_2
        replace h_v0 := Ev.mono RI.mono hle100 h_v0
        replace h_v1 := Ev.mono RB.mono hle100 h_v1
        refine W.seq ?_
        refine W.seq ?_
        refine W.region ?_
        refine WL.vS hS hE (runs_plain rfl) (Gives.p hE rfl) rfl ?_; clear hE a; intro a hE
        refine WL.vS hS hE (runs_plain rfl) (Gives.p hE rfl) rfl ?_; clear hE a; intro a hE
        refine WL.nil ?_
        refine W.cond hE rfl (fun hc159 => ?_) (fun hc159 => ?_)
        · replace hr := iteT hc159 hr
          refine W.seq ?_
          refine W.gen fun K160 hK160 => ?_
          refine W.regionE (sel (fun w => St w s99 (pt pb2 (.cells #[.slice a107 q106.length c108] 29 (0, 0)) :: pt pb1 (.cells #[.int .i64 y1.Period, .int .i64 y1.Events, .slice a_y1_2 y1.Rules.length c_y1_2] 24 (0, 0)) :: pt pb4 (.cells #[.pointer (some ⟨pb0, 0, none⟩)] 74 (0, 0)) :: pt pb3 (.cells #[.int .i64 q111] 3 (0, 0)) :: pt pb0 (.cells #[.int .i64 y0_0, .int .i64 y0_1, .slice a_y0_2 y0_2.length c_y0_2, .func (.func 50) #[] #[.pointer (some ⟨pb1, 0, none⟩), .pointer (some ⟨pb2, 0, none⟩), .pointer (some ⟨pb3, 0, none⟩)], .func (.func 49) #[] #[.pointer (some ⟨pb2, 0, none⟩), .pointer (some ⟨pb1, 0, none⟩), .pointer (some ⟨pb4, 0, none⟩), .pointer (some ⟨pb3, 0, none⟩)], .slice a_v0 y0_5.length c_v0, .slice a_v1 y0_6.length c_v1] 80 (0, 0)) :: vecC 3 1 a_v0 c_v0 y0_5.length cs_v0 :: vecC 4 1 a_v1 c_v1 y0_6.length cs_v1 :: R)) (fun w => St w s99 (pt pb1 (.cells #[.int .i64 y1.Period, .int .i64 y1.Events, .slice a_y1_2 y1.Rules.length c_y1_2] 24 (0, 0)) :: pt pb4 (.cells #[.pointer (some ⟨pb0, 0, none⟩)] 74 (0, 0)) :: pt pb0 (.cells #[.int .i64 y0_0, .int .i64 y0_1, .slice a_y0_2 y0_2.length c_y0_2, .func (.func 50) #[] #[.pointer (some ⟨pb1, 0, none⟩), .pointer (some ⟨pb2, 0, none⟩), .pointer (some ⟨pb3, 0, none⟩)], .func (.func 49) #[] #[.pointer (some ⟨pb2, 0, none⟩), .pointer (some ⟨pb1, 0, none⟩), .pointer (some ⟨pb4, 0, none⟩), .pointer (some ⟨pb3, 0, none⟩)], .slice a_v0 y0_5.length c_v0, .slice a_v1 y0_6.length c_v1] 80 (0, 0)) :: vecC 3 1 a_v0 c_v0 y0_5.length cs_v0 :: vecC 4 1 a_v1 c_v1 y0_6.length cs_v1 :: R))) (fun b i => cond b ([0, 1, 2, 3, 4, 5, 6, 7, 8].contains i) ([0, 1, 2, 3, 4, 5, 6, 7, 8, 9].contains i)) mixed ?_
          replace hS := hS.drew
          refine Rg.takeP (i := 0) hE rfl (by kernel_rfl) (runs_plain rfl) (Gives.p hE rfl) rfl (tw_sel (fun _ => hS) (fun _ => ((hS.tail).dropAt 2))) ?_; clear hE a; intro a hE
          have hT := tw_sel (A := fun w => St w s99 (pt pb2 (.cells #[.slice a107 q106.length c108] 29 (0, 0)) :: pt pb1 (.cells #[.int .i64 y1.Period, .int .i64 y1.Events, .slice a_y1_2 y1.Rules.length c_y1_2] 24 (0, 0)) :: pt pb4 (.cells #[.pointer (some ⟨pb0, 0, none⟩)] 74 (0, 0)) :: pt pb3 (.cells #[.int .i64 q111] 3 (0, 0)) :: pt pb0 (.cells #[.int .i64 y0_0, .int .i64 y0_1, .slice a_y0_2 y0_2.length c_y0_2, .func (.func 50) #[] #[.pointer (some ⟨pb1, 0, none⟩), .pointer (some ⟨pb2, 0, none⟩), .pointer (some ⟨pb3, 0, none⟩)], .func (.func 49) #[] #[.pointer (some ⟨pb2, 0, none⟩), .pointer (some ⟨pb1, 0, none⟩), .pointer (some ⟨pb4, 0, none⟩), .pointer (some ⟨pb3, 0, none⟩)], .slice a_v0 y0_5.length c_v0, .slice a_v1 y0_6.length c_v1] 80 (0, 0)) :: vecC 3 1 a_v0 c_v0 y0_5.length cs_v0 :: vecC 4 1 a_v1 c_v1 y0_6.length cs_v1 :: R)) (B := fun w => St w s99 (pt pb1 (.cells #[.int .i64 y1.Period, .int .i64 y1.Events, .slice a_y1_2 y1.Rules.length c_y1_2] 24 (0, 0)) :: pt pb4 (.cells #[.pointer (some ⟨pb0, 0, none⟩)] 74 (0, 0)) :: pt pb0 (.cells #[.int .i64 y0_0, .int .i64 y0_1, .slice a_y0_2 y0_2.length c_y0_2, .func (.func 50) #[] #[.pointer (some ⟨pb1, 0, none⟩), .pointer (some ⟨pb2, 0, none⟩), .pointer (some ⟨pb3, 0, none⟩)], .func (.func 49) #[] #[.pointer (some ⟨pb2, 0, none⟩), .pointer (some ⟨pb1, 0, none⟩), .pointer (some ⟨pb4, 0, none⟩), .pointer (some ⟨pb3, 0, none⟩)], .slice a_v0 y0_5.length c_v0, .slice a_v1 y0_6.length c_v1] 80 (0, 0)) :: vecC 3 1 a_v0 c_v0 y0_5.length cs_v0 :: vecC 4 1 a_v1 c_v1 y0_6.length cs_v1 :: R)) (w := _) (x := true) (y := true) (fun _ => hS) (fun _ => ((hS.tail).dropAt 2))
          have hF := hS; replace hS := ((hS.tail).dropAt 2)
          refine Rg.take (i := 1) false rfl hE rfl (by kernel_rfl) (runs_plain rfl) (Gives.nilOk hE rfl) rfl hT ?_; clear hE a; intro a hE
          replace hS := hF; clear hF hT
          refine Rg.takeP (i := 2) hE rfl (by kernel_rfl) (runs_plain rfl) (Gives.fld hE rfl fl80_1) rfl (tw_sel (fun _ => hS) (fun _ => ((hS.tail).dropAt 2))) ?_; clear hE a; intro a hE
          have hT := tw_sel (A := fun w => St w s99 (pt pb2 (.cells #[.slice a107 q106.length c108] 29 (0, 0)) :: pt pb1 (.cells #[.int .i64 y1.Period, .int .i64 y1.Events, .slice a_y1_2 y1.Rules.length c_y1_2] 24 (0, 0)) :: pt pb4 (.cells #[.pointer (some ⟨pb0, 0, none⟩)] 74 (0, 0)) :: pt pb3 (.cells #[.int .i64 q111] 3 (0, 0)) :: pt pb0 (.cells #[.int .i64 y0_0, .int .i64 y0_1, .slice a_y0_2 y0_2.length c_y0_2, .func (.func 50) #[] #[.pointer (some ⟨pb1, 0, none⟩), .pointer (some ⟨pb2, 0, none⟩), .pointer (some ⟨pb3, 0, none⟩)], .func (.func 49) #[] #[.pointer (some ⟨pb2, 0, none⟩), .pointer (some ⟨pb1, 0, none⟩), .pointer (some ⟨pb4, 0, none⟩), .pointer (some ⟨pb3, 0, none⟩)], .slice a_v0 y0_5.length c_v0, .slice a_v1 y0_6.length c_v1] 80 (0, 0)) :: vecC 3 1 a_v0 c_v0 y0_5.length cs_v0 :: vecC 4 1 a_v1 c_v1 y0_6.length cs_v1 :: R)) (B := fun w => St w s99 (pt pb1 (.cells #[.int .i64 y1.Period, .int .i64 y1.Events, .slice a_y1_2 y1.Rules.length c_y1_2] 24 (0, 0)) :: pt pb4 (.cells #[.pointer (some ⟨pb0, 0, none⟩)] 74 (0, 0)) :: pt pb0 (.cells #[.int .i64 y0_0, .int .i64 y0_1, .slice a_y0_2 y0_2.length c_y0_2, .func (.func 50) #[] #[.pointer (some ⟨pb1, 0, none⟩), .pointer (some ⟨pb2, 0, none⟩), .pointer (some ⟨pb3, 0, none⟩)], .func (.func 49) #[] #[.pointer (some ⟨pb2, 0, none⟩), .pointer (some ⟨pb1, 0, none⟩), .pointer (some ⟨pb4, 0, none⟩), .pointer (some ⟨pb3, 0, none⟩)], .slice a_v0 y0_5.length c_v0, .slice a_v1 y0_6.length c_v1] 80 (0, 0)) :: vecC 3 1 a_v0 c_v0 y0_5.length cs_v0 :: vecC 4 1 a_v1 c_v1 y0_6.length cs_v1 :: R)) (w := _) (x := true) (y := true) (fun _ => hS) (fun _ => ((hS.tail).dropAt 2))
          have hF := hS; replace hS := hS
          refine Rg.take (i := 3) true rfl hE rfl (by kernel_rfl) (runs_plain rfl) (Gives.loadB hE 4 rfl rfl rfl ty77) rfl hT ?_; clear hE a; intro a hE
          replace hS := hF; clear hF hT
          refine Rg.takeP (i := 4) hE rfl (by kernel_rfl) (runs_plain rfl) (Gives.p hE rfl) rfl (tw_sel (fun _ => hS) (fun _ => ((hS.tail).dropAt 2))) ?_; clear hE a; intro a hE
          refine Rg.takeP (i := 5) hE rfl (by kernel_rfl) (runs_plain rfl) (Gives.p hE rfl) rfl (tw_sel (fun _ => hS) (fun _ => ((hS.tail).dropAt 2))) ?_; clear hE a; intro a hE
          have hT := tw_sel (A := fun w => St w s99 (pt pb2 (.cells #[.slice a107 q106.length c108] 29 (0, 0)) :: pt pb1 (.cells #[.int .i64 y1.Period, .int .i64 y1.Events, .slice a_y1_2 y1.Rules.length c_y1_2] 24 (0, 0)) :: pt pb4 (.cells #[.pointer (some ⟨pb0, 0, none⟩)] 74 (0, 0)) :: pt pb3 (.cells #[.int .i64 q111] 3 (0, 0)) :: pt pb0 (.cells #[.int .i64 y0_0, .int .i64 y0_1, .slice a_y0_2 y0_2.length c_y0_2, .func (.func 50) #[] #[.pointer (some ⟨pb1, 0, none⟩), .pointer (some ⟨pb2, 0, none⟩), .pointer (some ⟨pb3, 0, none⟩)], .func (.func 49) #[] #[.pointer (some ⟨pb2, 0, none⟩), .pointer (some ⟨pb1, 0, none⟩), .pointer (some ⟨pb4, 0, none⟩), .pointer (some ⟨pb3, 0, none⟩)], .slice a_v0 y0_5.length c_v0, .slice a_v1 y0_6.length c_v1] 80 (0, 0)) :: vecC 3 1 a_v0 c_v0 y0_5.length cs_v0 :: vecC 4 1 a_v1 c_v1 y0_6.length cs_v1 :: R)) (B := fun w => St w s99 (pt pb1 (.cells #[.int .i64 y1.Period, .int .i64 y1.Events, .slice a_y1_2 y1.Rules.length c_y1_2] 24 (0, 0)) :: pt pb4 (.cells #[.pointer (some ⟨pb0, 0, none⟩)] 74 (0, 0)) :: pt pb0 (.cells #[.int .i64 y0_0, .int .i64 y0_1, .slice a_y0_2 y0_2.length c_y0_2, .func (.func 50) #[] #[.pointer (some ⟨pb1, 0, none⟩), .pointer (some ⟨pb2, 0, none⟩), .pointer (some ⟨pb3, 0, none⟩)], .func (.func 49) #[] #[.pointer (some ⟨pb2, 0, none⟩), .pointer (some ⟨pb1, 0, none⟩), .pointer (some ⟨pb4, 0, none⟩), .pointer (some ⟨pb3, 0, none⟩)], .slice a_v0 y0_5.length c_v0, .slice a_v1 y0_6.length c_v1] 80 (0, 0)) :: vecC 3 1 a_v0 c_v0 y0_5.length cs_v0 :: vecC 4 1 a_v1 c_v1 y0_6.length cs_v1 :: R)) (w := _) (x := true) (y := true) (fun _ => hS) (fun _ => ((hS.tail).dropAt 2))
          have hF := hS; replace hS := ((hS.tail).dropAt 2)
          refine Rg.take (i := 6) false rfl hE rfl (by kernel_rfl) (runs_plain rfl) (Gives.nilOk hE rfl) rfl hT ?_; clear hE a; intro a hE
          replace hS := hF; clear hF hT
          refine Rg.takeP (i := 7) hE rfl (by kernel_rfl) (runs_plain rfl) (Gives.fld hE rfl fl80_3) rfl (tw_sel (fun _ => hS) (fun _ => ((hS.tail).dropAt 2))) ?_; clear hE a; intro a hE
          have hT := tw_sel (A := fun w => St w s99 (pt pb2 (.cells #[.slice a107 q106.length c108] 29 (0, 0)) :: pt pb1 (.cells #[.int .i64 y1.Period, .int .i64 y1.Events, .slice a_y1_2 y1.Rules.length c_y1_2] 24 (0, 0)) :: pt pb4 (.cells #[.pointer (some ⟨pb0, 0, none⟩)] 74 (0, 0)) :: pt pb3 (.cells #[.int .i64 q111] 3 (0, 0)) :: pt pb0 (.cells #[.int .i64 y0_0, .int .i64 y0_1, .slice a_y0_2 y0_2.length c_y0_2, .func (.func 50) #[] #[.pointer (some ⟨pb1, 0, none⟩), .pointer (some ⟨pb2, 0, none⟩), .pointer (some ⟨pb3, 0, none⟩)], .func (.func 49) #[] #[.pointer (some ⟨pb2, 0, none⟩), .pointer (some ⟨pb1, 0, none⟩), .pointer (some ⟨pb4, 0, none⟩), .pointer (some ⟨pb3, 0, none⟩)], .slice a_v0 y0_5.length c_v0, .slice a_v1 y0_6.length c_v1] 80 (0, 0)) :: vecC 3 1 a_v0 c_v0 y0_5.length cs_v0 :: vecC 4 1 a_v1 c_v1 y0_6.length cs_v1 :: R)) (B := fun w => St w s99 (pt pb1 (.cells #[.int .i64 y1.Period, .int .i64 y1.Events, .slice a_y1_2 y1.Rules.length c_y1_2] 24 (0, 0)) :: pt pb4 (.cells #[.pointer (some ⟨pb0, 0, none⟩)] 74 (0, 0)) :: pt pb0 (.cells #[.int .i64 y0_0, .int .i64 y0_1, .slice a_y0_2 y0_2.length c_y0_2, .func (.func 50) #[] #[.pointer (some ⟨pb1, 0, none⟩), .pointer (some ⟨pb2, 0, none⟩), .pointer (some ⟨pb3, 0, none⟩)], .func (.func 49) #[] #[.pointer (some ⟨pb2, 0, none⟩), .pointer (some ⟨pb1, 0, none⟩), .pointer (some ⟨pb4, 0, none⟩), .pointer (some ⟨pb3, 0, none⟩)], .slice a_v0 y0_5.length c_v0, .slice a_v1 y0_6.length c_v1] 80 (0, 0)) :: vecC 3 1 a_v0 c_v0 y0_5.length cs_v0 :: vecC 4 1 a_v1 c_v1 y0_6.length cs_v1 :: R)) (w := _) (x := true) (y := true) (fun _ => hS) (fun _ => ((hS.tail).dropAt 2))
          have hF := hS; replace hS := hS
          refine Rg.take (i := 8) true rfl hE rfl (by kernel_rfl) (runs_plain rfl) (Gives.loadB hE 4 rfl rfl rfl ty29) rfl hT ?_; clear hE a; intro a hE
          replace hS := hF; clear hF hT
          refine Rg.one (i := 9) false true rfl (by kernel_rfl) (by kernel_rfl) (by kernel_rfl) ?_
          obtain ⟨q161, hq162, hr⟩ := bindS hr
          replace hS := hS.front 5 rfl
          replace hS := hS.front 4 rfl
          replace hS := hS.front 2 rfl
          replace hS := hS.front 3 rfl
          have hc_ := PlanBest_2_v2_ok (y0 := y1) hS h1 h_v0 (rfl) h_y1_2 h109 hz110 hq162
          refine WL.fnw hE (hc_) rfl (runs_plain rfl) bd50 rfl rfl rfl ?_
          clear hE hS hc_; rintro e w ⟨a163, c164, s167, rfl, hle168, h165, hz166, hS⟩; refine ⟨_, rfl, ?_⟩; clear a; intro a hE
          replace h1 := Pt.mono RA.mono hle168 h1
          replace h105 := Sl.mono RI.mono hle168 h105
          replace h_y1_2 := Sl.mono RPlanRule.mono hle168 h_y1_2
          replace h109 := Sl.mono RI.mono hle168 h109
          replace h_v0 := Ev.mono RI.mono hle168 h_v0
          replace h_y0_2 := Sl.mono RPlanRule.mono hle168 h_y0_2
          replace h_v1 := Ev.mono RB.mono hle168 h_v1
          refine WL.nil ?_
          refine ⟨⟨fun h => absurd h (by decide), fun _ => (St.down hle168 (St.front (St.front (St.front (St.front (St.front ((hS.dropAt 1).dropAt 1) 4 rfl) 2 rfl) 4 rfl) 4 rfl) 4 rfl))⟩, ?_⟩
          refine Rg.done (by kernel_rfl) ?_
          subst hK160
          refine W.ret ?_
          refine finG (fn := Try.f54) (rs := []) (vs := []) hE rfl trivial ?_
          obtain rfl := Option.some.inj hr
          replace hS := hS.front 6 rfl
          replace hS := hS.front 4 rfl
          replace hS := hS.front 5 rfl
          replace hS := hS.front 5 rfl
          replace hS := hS.front 5 rfl
          replace hS := hS.front 5 rfl
          replace hS := hS.front 6 rfl
          exact ⟨cs_v0, cs_v1, a163, c164, s167, rfl, (Sg.Le.trans hle100 hle168), h_v0, (rfl), h_v1, (rfl), h165, hz166, hS⟩
        · replace hr := iteF hc159 hr
          refine W.skip ?_
          refine W.seq ?_
          refine W.region ?_
          refine WL.vS hS hE (runs_plain rfl) (Gives.p hE rfl) rfl ?_; clear hE a; intro a hE
          refine WL.vS hS hE (runs_plain rfl) (Gives.nilOk hE rfl) rfl ?_; clear hE a; intro a hE
          refine WL.vS hS hE (runs_plain rfl) (Gives.fld hE rfl fl80_0) rfl ?_; clear hE a; intro a hE
          refine WL.vS hS hE (runs_plain rfl) (Gives.fld hE rfl fl24_2) rfl ?_; clear hE a; intro a hE
          refine WL.vS hS hE (runs_plain rfl) (Gives.loadB hE 4 rfl rfl rfl ty22) rfl ?_; clear hE a; intro a hE
          refine WL.vS hS hE (runs_plain rfl) (Gives.p hE rfl) rfl ?_; clear hE a; intro a hE
          obtain ⟨x169, hx170, hr⟩ := bindS hr
          obtain ⟨hi171, hlt172, hy173⟩ := gx_some hx170
          obtain ⟨cs174, hl175, hR176, hat177⟩ := h_y0_2.at hy173
          subst hR176
          refine WL.vS hS hE (runs_plain rfl) (Gives.idx hE (q101).toNat rfl rfl sl22 hi171 hlt172 (h_y0_2.aok hlt172)) rfl ?_; clear hE a; intro a hE
          refine WL.vS hS hE (runs_plain rfl) (Gives.loadA hE rfl (fun w h => hat177 w _ h) ty37) rfl ?_; clear hE a; intro a hE
          refine WL.alloc hE hS (runs_plain rfl) zr37 rfl ?_; clear hE hS a w; intro b178 a w hE hS
          refine WL.storeI hE hS 0 rfl (PlanRule.cells x169) (runs_plain rfl) rfl rfl rfl ty37 rfl rfl rfl rfl ?_; clear hE hS a w; intro a w hE hS
          refine WL.nil ?_
          refine W.seq ?_
          refine W.region ?_
          refine WL.vS hS hE (runs_plain rfl) (Gives.p hE rfl) rfl ?_; clear hE a; intro a hE
          refine WL.vS hS hE (runs_plain rfl) (Gives.nilOk hE rfl) rfl ?_; clear hE a; intro a hE
          refine WL.vS hS hE (runs_plain rfl) (Gives.fld hE rfl fl80_4) rfl ?_; clear hE a; intro a hE
          refine WL.vS hS hE (runs_plain rfl) (Gives.loadB hE 5 rfl rfl rfl ty71) rfl ?_; clear hE a; intro a hE
          refine WL.vS hS hE (runs_plain rfl) (Gives.p hE rfl) rfl ?_; clear hE a; intro a hE
          obtain ⟨_, hx180, hr⟩ := bindS hr
          obtain ⟨h181, h182⟩ := ix_some hx180
          refine WL.vS hS hE (runs_plain rfl) (Gives.idx hE ((q101).toNat) rfl rfl sl71 h181 (by omega) (hS.vecAok 7 rfl (by omega : (q101).toNat < y0_6.length))) rfl ?_; clear hE a; intro a hE
          obtain ⟨x184, hx185, hr⟩ := bindS hr
          refine WL.setD hE hS 7 rfl (runs_plain rfl) rfl rfl (vs := [.bool false]) rfl ty4 rfl rfl rfl h_v1 (rfl) (sx_some hx185).1 hx185 rfl rfl ?_; clear hE hS a w; intro cs186 a w h187 hn188 hE hS
          refine WL.nil ?_
          refine W.seq ?_
          refine W.seq ?_
          refine W.region ?_
          refine WL.vS hS hE (runs_plain rfl) (Gives.p hE rfl) rfl ?_; clear hE a; intro a hE
          refine WL.vS hS hE (runs_plain rfl) (Gives.len hE rfl sl29) rfl ?_; clear hE a; intro a hE
          refine WL.vS hS hE (runs_plain rfl) (Gives.p hE rfl) rfl ?_; clear hE a; intro a hE
          refine WL.nil ?_
          obtain ⟨q190, hq189, hr⟩ := bindS hr
          refine W.cut (fun a w => ∃ (q200 : List Int), ∃ (q206 : List Bool), ∃ (q212 : List Int), ∃ (q217 : Int), ∃ (cs204 : List Value), ∃ (cs210 : List Value), ∃ (a213 : Option Addr), ∃ (c214 : Nat), ∃ (s198 : Sg), s99.Le s198 ∧ (q200, q206, q212, q217) = q190 ∧ Ev 1 (RI .i64) s198 cs204 q200 ∧ q200.length = y0_5.length ∧ Ev 1 RB s198 cs210 q206 ∧ q206.length = y0_6.length ∧ Sl 1 (RI .i64) s198 a213 c214 q212 ∧ (q212 = [] → a213 = none) ∧ Rep a 142 [(0, .pointer (some ⟨pb0, 0, none⟩)), (4, .int .i64 q101)] ∧ St w s198 (pt b178 (.cells (PlanRule.cells x169).toArray 37 (0, 0)) :: pt pb2 (.cells #[.slice a213 q212.length c214] 29 (0, 0)) :: pt pb1 (.cells #[.int .i64 y1.Period, .int .i64 y1.Events, .slice a_y1_2 y1.Rules.length c_y1_2] 24 (0, 0)) :: pt pb4 (.cells #[.pointer (some ⟨pb0, 0, none⟩)] 74 (0, 0)) :: pt pb3 (.cells #[.int .i64 q217] 3 (0, 0)) :: pt pb0 (.cells #[.int .i64 y0_0, .int .i64 y0_1, .slice a_y0_2 y0_2.length c_y0_2, .func (.func 50) #[] #[.pointer (some ⟨pb1, 0, none⟩), .pointer (some ⟨pb2, 0, none⟩), .pointer (some ⟨pb3, 0, none⟩)], .func (.func 49) #[] #[.pointer (some ⟨pb2, 0, none⟩), .pointer (some ⟨pb1, 0, none⟩), .pointer (some ⟨pb4, 0, none⟩), .pointer (some ⟨pb3, 0, none⟩)], .slice a_v0 y0_5.length c_v0, .slice a_v1 y0_6.length c_v1] 80 (0, 0)) :: vecC 3 1 a_v0 c_v0 y0_5.length cs204 :: vecC 4 1 a_v1 c_v1 y0_6.length cs210 :: R)) ?_ ?_
          · refine W.block ?_
            refine W.loop (fun m a w => ∃ (rest193 : List Int) (k191 : Nat), ∃ (q200 : List Int), ∃ (q206 : List Bool), ∃ (q212 : List Int), ∃ (q217 : Int), ∃ (cs204 : List Value), ∃ (cs210 : List Value), ∃ (a213 : Option Addr), ∃ (c214 : Nat), ∃ (s198 : Sg), rest193.length = m ∧ q102.drop k191 = rest193 ∧ s99.Le s198 ∧ PlanSearchrun_v1.loop2 x1 y0_0 y0_1 y0_2 y1 fu self_PlanSearchrun_v1 q101 x169 rest193 q200 q206 q212 q217 = some q190 ∧ Ev 1 (RI .i64) s198 cs204 q200 ∧ q200.length = y0_5.length ∧ Ev 1 RB s198 cs210 q206 ∧ q206.length = y0_6.length ∧ Sl 1 (RI .i64) s198 a213 c214 q212 ∧ (q212 = [] → a213 = none) ∧ Rep a 142 [(0, .pointer (some ⟨pb0, 0, none⟩)), (1, .pointer a1), (4, .int .i64 q101), (9, .pointer (some ⟨b178, 0, none⟩)), (84, .slice a103 q102.length c104), (85, .int .i64 ((q102).length : Int)), (86, .int .i64 ((k191 : Nat) : Int))] ∧ St w s198 (pt b178 (.cells (PlanRule.cells x169).toArray 37 (0, 0)) :: pt pb2 (.cells #[.slice a213 q212.length c214] 29 (0, 0)) :: pt pb1 (.cells #[.int .i64 y1.Period, .int .i64 y1.Events, .slice a_y1_2 y1.Rules.length c_y1_2] 24 (0, 0)) :: pt pb4 (.cells #[.pointer (some ⟨pb0, 0, none⟩)] 74 (0, 0)) :: pt pb3 (.cells #[.int .i64 q217] 3 (0, 0)) :: pt pb0 (.cells #[.int .i64 y0_0, .int .i64 y0_1, .slice a_y0_2 y0_2.length c_y0_2, .func (.func 50) #[] #[.pointer (some ⟨pb1, 0, none⟩), .pointer (some ⟨pb2, 0, none⟩), .pointer (some ⟨pb3, 0, none⟩)], .func (.func 49) #[] #[.pointer (some ⟨pb2, 0, none⟩), .pointer (some ⟨pb1, 0, none⟩), .pointer (some ⟨pb4, 0, none⟩), .pointer (some ⟨pb3, 0, none⟩)], .slice a_v0 y0_5.length c_v0, .slice a_v1 y0_6.length c_v1] 80 (0, 0)) :: vecC 3 1 a_v0 c_v0 y0_5.length cs204 :: vecC 4 1 a_v1 c_v1 y0_6.length cs210 :: R)) (m := q102.length) ⟨q102, 0, y0_5, x184, q106, q111, cs_v0, cs186, a107, c108, s99, rfl, rfl, (Sg.Le.refl _), hq189, h_v0, (rfl), h187, hn188, h109, hz110, hE.pick _ ⟨rfl, rfl, rfl, rfl, rfl, rfl, rfl, trivial⟩, hS⟩ ?_
            clear hE hS a w hq189; rintro m197 a w ⟨rest193, k191, q200, q206, q212, q217, cs204, cs210, a213, c214, s198, rfl, hd194, hle199, hq189, h203, hn205, h209, hn211, h215, hz216, hE, hS⟩
            refine W.gen fun K218 hK218 => ?_
            replace h1 := Pt.mono RA.mono hle199 h1
            replace h105 := Sl.mono RI.mono hle199 h105
            replace h_y0_2 := Sl.mono RPlanRule.mono hle199 h_y0_2
            replace h109 := Sl.mono RI.mono hle199 h109
            replace h_y1_2 := Sl.mono RPlanRule.mono hle199 h_y1_2
            replace h_v0 := Ev.mono RI.mono hle199 h_v0
            replace h187 := Ev.mono RB.mono hle199 h187
            rcases rest193 with _ | ⟨x192, rest193⟩
            · have hlt195 := drop_nil hd194
              refine W.seq ?_
              refine W.region ?_
              refine WL.vS hS hE (runs_plain rfl) (Gives.p hE rfl) rfl ?_; clear hE a; intro a hE
              refine WL.nil ?_
              refine W.seq ?_
              refine W.condF hE rfl (decide_eq_false (by omega)) ?_
              subst hK218
              refine W.exit rfl ?_
              exact ⟨q200, q206, q212, q217, cs204, cs210, a213, c214, s198, hle199, Option.some.inj hq189, h203, hn205, h209, hn211, h215, hz216, hE.pick _ ⟨rfl, rfl, trivial⟩, hS⟩
            · obtain ⟨hlt195, hx196, hd194⟩ := drop_cons hd194
              rw [PlanSearchrun_v1.loop2] at hq189
              refine W.seq ?_
              refine W.region ?_
              refine WL.vS hS hE (runs_plain rfl) (Gives.p hE rfl) rfl ?_; clear hE a; intro a hE
              refine WL.nil ?_
              refine W.seq ?_
              refine W.condT hE rfl (decide_eq_true (by omega)) ?_
              refine W.skip ?_
              refine W.seq ?_
              refine W.block ?_
              refine W.seq ?_
              refine W.region ?_
              obtain ⟨cs219, hl220, hR221, hat222⟩ := h105.at hx196
              subst hR221
              refine WL.vS hS hE (runs_plain rfl) (Gives.idx hE k191 rfl rfl sl29 rfl hlt195 (h105.aok hlt195)) rfl ?_; clear hE a; intro a hE
              refine WL.vS hS hE (runs_plain rfl) (Gives.load1 hE rfl (fun w h => hat222 w _ h) ty3) rfl ?_; clear hE a; intro a hE
              refine WL.vS hS hE (runs_plain rfl) (Gives.p hE rfl) rfl ?_; clear hE a; intro a hE
              refine WL.nil ?_
              refine W.seq ?_
              refine W.gen fun K223 hK223 => ?_
              refine W.regionE (sel (fun w => St w s198 (pt b178 (.cells (PlanRule.cells x169).toArray 37 (0, 0)) :: pt pb2 (.cells #[.slice a213 q212.length c214] 29 (0, 0)) :: pt pb1 (.cells #[.int .i64 y1.Period, .int .i64 y1.Events, .slice a_y1_2 y1.Rules.length c_y1_2] 24 (0, 0)) :: pt pb4 (.cells #[.pointer (some ⟨pb0, 0, none⟩)] 74 (0, 0)) :: pt pb3 (.cells #[.int .i64 q217] 3 (0, 0)) :: pt pb0 (.cells #[.int .i64 y0_0, .int .i64 y0_1, .slice a_y0_2 y0_2.length c_y0_2, .func (.func 50) #[] #[.pointer (some ⟨pb1, 0, none⟩), .pointer (some ⟨pb2, 0, none⟩), .pointer (some ⟨pb3, 0, none⟩)], .func (.func 49) #[] #[.pointer (some ⟨pb2, 0, none⟩), .pointer (some ⟨pb1, 0, none⟩), .pointer (some ⟨pb4, 0, none⟩), .pointer (some ⟨pb3, 0, none⟩)], .slice a_v0 y0_5.length c_v0, .slice a_v1 y0_6.length c_v1] 80 (0, 0)) :: vecC 3 1 a_v0 c_v0 y0_5.length cs204 :: vecC 4 1 a_v1 c_v1 y0_6.length cs210 :: R)) (fun w => St w s198 (pt b178 (.cells (PlanRule.cells x169).toArray 37 (0, 0)) :: pt pb2 (.cells #[.slice a213 q212.length c214] 29 (0, 0)) :: pt pb1 (.cells #[.int .i64 y1.Period, .int .i64 y1.Events, .slice a_y1_2 y1.Rules.length c_y1_2] 24 (0, 0)) :: pt pb4 (.cells #[.pointer (some ⟨pb0, 0, none⟩)] 74 (0, 0)) :: pt pb3 (.cells #[.int .i64 q217] 3 (0, 0)) :: pt pb0 (.cells #[.int .i64 y0_0, .int .i64 y0_1, .slice a_y0_2 y0_2.length c_y0_2, .func (.func 50) #[] #[.pointer (some ⟨pb1, 0, none⟩), .pointer (some ⟨pb2, 0, none⟩), .pointer (some ⟨pb3, 0, none⟩)], .func (.func 49) #[] #[.pointer (some ⟨pb2, 0, none⟩), .pointer (some ⟨pb1, 0, none⟩), .pointer (some ⟨pb4, 0, none⟩), .pointer (some ⟨pb3, 0, none⟩)], .slice a_v0 y0_5.length c_v0, .slice a_v1 y0_6.length c_v1] 80 (0, 0)) :: vecC 3 1 a_v0 c_v0 y0_5.length cs204 :: vecC 4 1 a_v1 c_v1 y0_6.length cs210 :: R))) (fun b i => cond b ([0, 1, 2, 3, 4, 5, 6, 7, 8, 9, 10, 11, 12, 13, 14, 15, 16, 17, 18, 19, 20, 21, 22, 23, 24, 25, 26, 27, 28, 29, 30, 31, 32, 33, 34, 35].contains i) ([0, 1, 2, 3, 4, 5, 6, 7, 8, 9, 10, 11, 12, 13, 14, 15, 16, 17, 18, 19, 20, 21, 22, 23, 24, 25, 26, 27, 28, 29, 30, 31, 32, 33, 34, 35].contains i)) mixed ?_
              replace hS := hS.drew
              refine Rg.takeP (i := 0) hE rfl (by kernel_rfl) (runs_plain rfl) (Gives.p hE rfl) rfl (tw_sel (fun _ => hS) (fun _ => hS)) ?_; clear hE a; intro a hE
              refine Rg.takeP (i := 1) hE rfl (by kernel_rfl) (runs_plain rfl) (Gives.p hE rfl) rfl (tw_sel (fun _ => hS) (fun _ => hS)) ?_; clear hE a; intro a hE
              have hT := tw_sel (A := fun w => St w s198 (pt b178 (.cells (PlanRule.cells x169).toArray 37 (0, 0)) :: pt pb2 (.cells #[.slice a213 q212.length c214] 29 (0, 0)) :: pt pb1 (.cells #[.int .i64 y1.Period, .int .i64 y1.Events, .slice a_y1_2 y1.Rules.length c_y1_2] 24 (0, 0)) :: pt pb4 (.cells #[.pointer (some ⟨pb0, 0, none⟩)] 74 (0, 0)) :: pt pb3 (.cells #[.int .i64 q217] 3 (0, 0)) :: pt pb0 (.cells #[.int .i64 y0_0, .int .i64 y0_1, .slice a_y0_2 y0_2.length c_y0_2, .func (.func 50) #[] #[.pointer (some ⟨pb1, 0, none⟩), .pointer (some ⟨pb2, 0, none⟩), .pointer (some ⟨pb3, 0, none⟩)], .func (.func 49) #[] #[.pointer (some ⟨pb2, 0, none⟩), .pointer (some ⟨pb1, 0, none⟩), .pointer (some ⟨pb4, 0, none⟩), .pointer (some ⟨pb3, 0, none⟩)], .slice a_v0 y0_5.length c_v0, .slice a_v1 y0_6.length c_v1] 80 (0, 0)) :: vecC 3 1 a_v0 c_v0 y0_5.length cs204 :: vecC 4 1 a_v1 c_v1 y0_6.length cs210 :: R)) (B := fun w => St w s198 (pt b178 (.cells (PlanRule.cells x169).toArray 37 (0, 0)) :: pt pb2 (.cells #[.slice a213 q212.length c214] 29 (0, 0)) :: pt pb1 (.cells #[.int .i64 y1.Period, .int .i64 y1.Events, .slice a_y1_2 y1.Rules.length c_y1_2] 24 (0, 0)) :: pt pb4 (.cells #[.pointer (some ⟨pb0, 0, none⟩)] 74 (0, 0)) :: pt pb3 (.cells #[.int .i64 q217] 3 (0, 0)) :: pt pb0 (.cells #[.int .i64 y0_0, .int .i64 y0_1, .slice a_y0_2 y0_2.length c_y0_2, .func (.func 50) #[] #[.pointer (some ⟨pb1, 0, none⟩), .pointer (some ⟨pb2, 0, none⟩), .pointer (some ⟨pb3, 0, none⟩)], .func (.func 49) #[] #[.pointer (some ⟨pb2, 0, none⟩), .pointer (some ⟨pb1, 0, none⟩), .pointer (some ⟨pb4, 0, none⟩), .pointer (some ⟨pb3, 0, none⟩)], .slice a_v0 y0_5.length c_v0, .slice a_v1 y0_6.length c_v1] 80 (0, 0)) :: vecC 3 1 a_v0 c_v0 y0_5.length cs204 :: vecC 4 1 a_v1 c_v1 y0_6.length cs210 :: R)) (w := _) (x := true) (y := true) (fun _ => hS) (fun _ => hS)
              have hF := hS; replace hS := hS
              refine Rg.take (i := 2) true rfl hE rfl (by kernel_rfl) (runs_plain rfl) (Gives.nilOk hE rfl) rfl hT ?_; clear hE a; intro a hE
              replace hS := hF; clear hF hT
              refine Rg.takeP (i := 3) hE rfl (by kernel_rfl) (runs_plain rfl) (Gives.fld hE rfl fl80_0) rfl (tw_sel (fun _ => hS) (fun _ => hS)) ?_; clear hE a; intro a hE
              refine Rg.takeP (i := 4) hE rfl (by kernel_rfl) (runs_plain rfl) (Gives.fld hE rfl fl24_1) rfl (tw_sel (fun _ => hS) (fun _ => hS)) ?_; clear hE a; intro a hE
              have hT := tw_sel (A := fun w => St w s198 (pt b178 (.cells (PlanRule.cells x169).toArray 37 (0, 0)) :: pt pb2 (.cells #[.slice a213 q212.length c214] 29 (0, 0)) :: pt pb1 (.cells #[.int .i64 y1.Period, .int .i64 y1.Events, .slice a_y1_2 y1.Rules.length c_y1_2] 24 (0, 0)) :: pt pb4 (.cells #[.pointer (some ⟨pb0, 0, none⟩)] 74 (0, 0)) :: pt pb3 (.cells #[.int .i64 q217] 3 (0, 0)) :: pt pb0 (.cells #[.int .i64 y0_0, .int .i64 y0_1, .slice a_y0_2 y0_2.length c_y0_2, .func (.func 50) #[] #[.pointer (some ⟨pb1, 0, none⟩), .pointer (some ⟨pb2, 0, none⟩), .pointer (some ⟨pb3, 0, none⟩)], .func (.func 49) #[] #[.pointer (some ⟨pb2, 0, none⟩), .pointer (some ⟨pb1, 0, none⟩), .pointer (some ⟨pb4, 0, none⟩), .pointer (some ⟨pb3, 0, none⟩)], .slice a_v0 y0_5.length c_v0, .slice a_v1 y0_6.length c_v1] 80 (0, 0)) :: vecC 3 1 a_v0 c_v0 y0_5.length cs204 :: vecC 4 1 a_v1 c_v1 y0_6.length cs210 :: R)) (B := fun w => St w s198 (pt b178 (.cells (PlanRule.cells x169).toArray 37 (0, 0)) :: pt pb2 (.cells #[.slice a213 q212.length c214] 29 (0, 0)) :: pt pb1 (.cells #[.int .i64 y1.Period, .int .i64 y1.Events, .slice a_y1_2 y1.Rules.length c_y1_2] 24 (0, 0)) :: pt pb4 (.cells #[.pointer (some ⟨pb0, 0, none⟩)] 74 (0, 0)) :: pt pb3 (.cells #[.int .i64 q217] 3 (0, 0)) :: pt pb0 (.cells #[.int .i64 y0_0, .int .i64 y0_1, .slice a_y0_2 y0_2.length c_y0_2, .func (.func 50) #[] #[.pointer (some ⟨pb1, 0, none⟩), .pointer (some ⟨pb2, 0, none⟩), .pointer (some ⟨pb3, 0, none⟩)], .func (.func 49) #[] #[.pointer (some ⟨pb2, 0, none⟩), .pointer (some ⟨pb1, 0, none⟩), .pointer (some ⟨pb4, 0, none⟩), .pointer (some ⟨pb3, 0, none⟩)], .slice a_v0 y0_5.length c_v0, .slice a_v1 y0_6.length c_v1] 80 (0, 0)) :: vecC 3 1 a_v0 c_v0 y0_5.length cs204 :: vecC 4 1 a_v1 c_v1 y0_6.length cs210 :: R)) (w := _) (x := true) (y := true) (fun _ => hS) (fun _ => hS)
              have hF := hS; replace hS := hS
              refine Rg.take (i := 5) true rfl hE rfl (by kernel_rfl) (runs_plain rfl) (Gives.loadB hE 5 rfl rfl rfl ty3) rfl hT ?_; clear hE a; intro a hE
              replace hS := hF; clear hF hT
              refine Rg.takeP (i := 6) hE rfl (by kernel_rfl) (runs_plain rfl) (Gives.fld hE rfl fl37_0) rfl (tw_sel (fun _ => hS) (fun _ => hS)) ?_; clear hE a; intro a hE
              have hT := tw_sel (A := fun w => St w s198 (pt b178 (.cells (PlanRule.cells x169).toArray 37 (0, 0)) :: pt pb2 (.cells #[.slice a213 q212.length c214] 29 (0, 0)) :: pt pb1 (.cells #[.int .i64 y1.Period, .int .i64 y1.Events, .slice a_y1_2 y1.Rules.length c_y1_2] 24 (0, 0)) :: pt pb4 (.cells #[.pointer (some ⟨pb0, 0, none⟩)] 74 (0, 0)) :: pt pb3 (.cells #[.int .i64 q217] 3 (0, 0)) :: pt pb0 (.cells #[.int .i64 y0_0, .int .i64 y0_1, .slice a_y0_2 y0_2.length c_y0_2, .func (.func 50) #[] #[.pointer (some ⟨pb1, 0, none⟩), .pointer (some ⟨pb2, 0, none⟩), .pointer (some ⟨pb3, 0, none⟩)], .func (.func 49) #[] #[.pointer (some ⟨pb2, 0, none⟩), .pointer (some ⟨pb1, 0, none⟩), .pointer (some ⟨pb4, 0, none⟩), .pointer (some ⟨pb3, 0, none⟩)], .slice a_v0 y0_5.length c_v0, .slice a_v1 y0_6.length c_v1] 80 (0, 0)) :: vecC 3 1 a_v0 c_v0 y0_5.length cs204 :: vecC 4 1 a_v1 c_v1 y0_6.length cs210 :: R)) (B := fun w => St w s198 (pt b178 (.cells (PlanRule.cells x169).toArray 37 (0, 0)) :: pt pb2 (.cells #[.slice a213 q212.length c214] 29 (0, 0)) :: pt pb1 (.cells #[.int .i64 y1.Period, .int .i64 y1.Events, .slice a_y1_2 y1.Rules.length c_y1_2] 24 (0, 0)) :: pt pb4 (.cells #[.pointer (some ⟨pb0, 0, none⟩)] 74 (0, 0)) :: pt pb3 (.cells #[.int .i64 q217] 3 (0, 0)) :: pt pb0 (.cells #[.int .i64 y0_0, .int .i64 y0_1, .slice a_y0_2 y0_2.length c_y0_2, .func (.func 50) #[] #[.pointer (some ⟨pb1, 0, none⟩), .pointer (some ⟨pb2, 0, none⟩), .pointer (some ⟨pb3, 0, none⟩)], .func (.func 49) #[] #[.pointer (some ⟨pb2, 0, none⟩), .pointer (some ⟨pb1, 0, none⟩), .pointer (some ⟨pb4, 0, none⟩), .pointer (some ⟨pb3, 0, none⟩)], .slice a_v0 y0_5.length c_v0, .slice a_v1 y0_6.length c_v1] 80 (0, 0)) :: vecC 3 1 a_v0 c_v0 y0_5.length cs204 :: vecC 4 1 a_v1 c_v1 y0_6.length cs210 :: R)) (w := _) (x := true) (y := true) (fun _ => hS) (fun _ => hS)
              have hF := hS; replace hS := hS
              refine Rg.take (i := 7) true rfl hE rfl (by kernel_rfl) (runs_plain rfl) (Gives.loadB hE 0 rfl rfl rfl ty3) rfl hT ?_; clear hE a; intro a hE
              replace hS := hF; clear hF hT
              refine Rg.takeP (i := 8) hE rfl (by kernel_rfl) (runs_plain rfl) (Gives.fld hE rfl fl37_1) rfl (tw_sel (fun _ => hS) (fun _ => hS)) ?_; clear hE a; intro a hE
              have hT := tw_sel (A := fun w => St w s198 (pt b178 (.cells (PlanRule.cells x169).toArray 37 (0, 0)) :: pt pb2 (.cells #[.slice a213 q212.length c214] 29 (0, 0)) :: pt pb1 (.cells #[.int .i64 y1.Period, .int .i64 y1.Events, .slice a_y1_2 y1.Rules.length c_y1_2] 24 (0, 0)) :: pt pb4 (.cells #[.pointer (some ⟨pb0, 0, none⟩)] 74 (0, 0)) :: pt pb3 (.cells #[.int .i64 q217] 3 (0, 0)) :: pt pb0 (.cells #[.int .i64 y0_0, .int .i64 y0_1, .slice a_y0_2 y0_2.length c_y0_2, .func (.func 50) #[] #[.pointer (some ⟨pb1, 0, none⟩), .pointer (some ⟨pb2, 0, none⟩), .pointer (some ⟨pb3, 0, none⟩)], .func (.func 49) #[] #[.pointer (some ⟨pb2, 0, none⟩), .pointer (some ⟨pb1, 0, none⟩), .pointer (some ⟨pb4, 0, none⟩), .pointer (some ⟨pb3, 0, none⟩)], .slice a_v0 y0_5.length c_v0, .slice a_v1 y0_6.length c_v1] 80 (0, 0)) :: vecC 3 1 a_v0 c_v0 y0_5.length cs204 :: vecC 4 1 a_v1 c_v1 y0_6.length cs210 :: R)) (B := fun w => St w s198 (pt b178 (.cells (PlanRule.cells x169).toArray 37 (0, 0)) :: pt pb2 (.cells #[.slice a213 q212.length c214] 29 (0, 0)) :: pt pb1 (.cells #[.int .i64 y1.Period, .int .i64 y1.Events, .slice a_y1_2 y1.Rules.length c_y1_2] 24 (0, 0)) :: pt pb4 (.cells #[.pointer (some ⟨pb0, 0, none⟩)] 74 (0, 0)) :: pt pb3 (.cells #[.int .i64 q217] 3 (0, 0)) :: pt pb0 (.cells #[.int .i64 y0_0, .int .i64 y0_1, .slice a_y0_2 y0_2.length c_y0_2, .func (.func 50) #[] #[.pointer (some ⟨pb1, 0, none⟩), .pointer (some ⟨pb2, 0, none⟩), .pointer (some ⟨pb3, 0, none⟩)], .func (.func 49) #[] #[.pointer (some ⟨pb2, 0, none⟩), .pointer (some ⟨pb1, 0, none⟩), .pointer (some ⟨pb4, 0, none⟩), .pointer (some ⟨pb3, 0, none⟩)], .slice a_v0 y0_5.length c_v0, .slice a_v1 y0_6.length c_v1] 80 (0, 0)) :: vecC 3 1 a_v0 c_v0 y0_5.length cs204 :: vecC 4 1 a_v1 c_v1 y0_6.length cs210 :: R)) (w := _) (x := true) (y := true) (fun _ => hS) (fun _ => hS)
              have hF := hS; replace hS := hS
              refine Rg.take (i := 9) true rfl hE rfl (by kernel_rfl) (runs_plain rfl) (Gives.loadB hE 0 rfl rfl rfl ty3) rfl hT ?_; clear hE a; intro a hE
              replace hS := hF; clear hF hT
              refine Rg.takeP (i := 10) hE rfl (by kernel_rfl) (runs_plain rfl) (Gives.fld hE rfl fl37_2) rfl (tw_sel (fun _ => hS) (fun _ => hS)) ?_; clear hE a; intro a hE
              have hT := tw_sel (A := fun w => St w s198 (pt b178 (.cells (PlanRule.cells x169).toArray 37 (0, 0)) :: pt pb2 (.cells #[.slice a213 q212.length c214] 29 (0, 0)) :: pt pb1 (.cells #[.int .i64 y1.Period, .int .i64 y1.Events, .slice a_y1_2 y1.Rules.length c_y1_2] 24 (0, 0)) :: pt pb4 (.cells #[.pointer (some ⟨pb0, 0, none⟩)] 74 (0, 0)) :: pt pb3 (.cells #[.int .i64 q217] 3 (0, 0)) :: pt pb0 (.cells #[.int .i64 y0_0, .int .i64 y0_1, .slice a_y0_2 y0_2.length c_y0_2, .func (.func 50) #[] #[.pointer (some ⟨pb1, 0, none⟩), .pointer (some ⟨pb2, 0, none⟩), .pointer (some ⟨pb3, 0, none⟩)], .func (.func 49) #[] #[.pointer (some ⟨pb2, 0, none⟩), .pointer (some ⟨pb1, 0, none⟩), .pointer (some ⟨pb4, 0, none⟩), .pointer (some ⟨pb3, 0, none⟩)], .slice a_v0 y0_5.length c_v0, .slice a_v1 y0_6.length c_v1] 80 (0, 0)) :: vecC 3 1 a_v0 c_v0 y0_5.length cs204 :: vecC 4 1 a_v1 c_v1 y0_6.length cs210 :: R)) (B := fun w => St w s198 (pt b178 (.cells (PlanRule.cells x169).toArray 37 (0, 0)) :: pt pb2 (.cells #[.slice a213 q212.length c214] 29 (0, 0)) :: pt pb1 (.cells #[.int .i64 y1.Period, .int .i64 y1.Events, .slice a_y1_2 y1.Rules.length c_y1_2] 24 (0, 0)) :: pt pb4 (.cells #[.pointer (some ⟨pb0, 0, none⟩)] 74 (0, 0)) :: pt pb3 (.cells #[.int .i64 q217] 3 (0, 0)) :: pt pb0 (.cells #[.int .i64 y0_0, .int .i64 y0_1, .slice a_y0_2 y0_2.length c_y0_2, .func (.func 50) #[] #[.pointer (some ⟨pb1, 0, none⟩), .pointer (some ⟨pb2, 0, none⟩), .pointer (some ⟨pb3, 0, none⟩)], .func (.func 49) #[] #[.pointer (some ⟨pb2, 0, none⟩), .pointer (some ⟨pb1, 0, none⟩), .pointer (some ⟨pb4, 0, none⟩), .pointer (some ⟨pb3, 0, none⟩)], .slice a_v0 y0_5.length c_v0, .slice a_v1 y0_6.length c_v1] 80 (0, 0)) :: vecC 3 1 a_v0 c_v0 y0_5.length cs204 :: vecC 4 1 a_v1 c_v1 y0_6.length cs210 :: R)) (w := _) (x := true) (y := true) (fun _ => hS) (fun _ => hS)
              have hF := hS; replace hS := hS
              refine Rg.take (i := 11) true rfl hE rfl (by kernel_rfl) (runs_plain rfl) (Gives.loadB hE 0 rfl rfl rfl ty3) rfl hT ?_; clear hE a; intro a hE
              replace hS := hF; clear hF hT
              refine Rg.takeP (i := 12) hE rfl (by kernel_rfl) (runs_plain rfl) (Gives.p hE rfl) rfl (tw_sel (fun _ => hS) (fun _ => hS)) ?_; clear hE a; intro a hE
              refine Rg.takeP (i := 13) hE rfl (by kernel_rfl) (runs_plain rfl) (Gives.p hE rfl) rfl (tw_sel (fun _ => hS) (fun _ => hS)) ?_; clear hE a; intro a hE
              have hT := tw_sel (A := fun w => St w s198 (pt b178 (.cells (PlanRule.cells x169).toArray 37 (0, 0)) :: pt pb2 (.cells #[.slice a213 q212.length c214] 29 (0, 0)) :: pt pb1 (.cells #[.int .i64 y1.Period, .int .i64 y1.Events, .slice a_y1_2 y1.Rules.length c_y1_2] 24 (0, 0)) :: pt pb4 (.cells #[.pointer (some ⟨pb0, 0, none⟩)] 74 (0, 0)) :: pt pb3 (.cells #[.int .i64 q217] 3 (0, 0)) :: pt pb0 (.cells #[.int .i64 y0_0, .int .i64 y0_1, .slice a_y0_2 y0_2.length c_y0_2, .func (.func 50) #[] #[.pointer (some ⟨pb1, 0, none⟩), .pointer (some ⟨pb2, 0, none⟩), .pointer (some ⟨pb3, 0, none⟩)], .func (.func 49) #[] #[.pointer (some ⟨pb2, 0, none⟩), .pointer (some ⟨pb1, 0, none⟩), .pointer (some ⟨pb4, 0, none⟩), .pointer (some ⟨pb3, 0, none⟩)], .slice a_v0 y0_5.length c_v0, .slice a_v1 y0_6.length c_v1] 80 (0, 0)) :: vecC 3 1 a_v0 c_v0 y0_5.length cs204 :: vecC 4 1 a_v1 c_v1 y0_6.length cs210 :: R)) (B := fun w => St w s198 (pt b178 (.cells (PlanRule.cells x169).toArray 37 (0, 0)) :: pt pb2 (.cells #[.slice a213 q212.length c214] 29 (0, 0)) :: pt pb1 (.cells #[.int .i64 y1.Period, .int .i64 y1.Events, .slice a_y1_2 y1.Rules.length c_y1_2] 24 (0, 0)) :: pt pb4 (.cells #[.pointer (some ⟨pb0, 0, none⟩)] 74 (0, 0)) :: pt pb3 (.cells #[.int .i64 q217] 3 (0, 0)) :: pt pb0 (.cells #[.int .i64 y0_0, .int .i64 y0_1, .slice a_y0_2 y0_2.length c_y0_2, .func (.func 50) #[] #[.pointer (some ⟨pb1, 0, none⟩), .pointer (some ⟨pb2, 0, none⟩), .pointer (some ⟨pb3, 0, none⟩)], .func (.func 49) #[] #[.pointer (some ⟨pb2, 0, none⟩), .pointer (some ⟨pb1, 0, none⟩), .pointer (some ⟨pb4, 0, none⟩), .pointer (some ⟨pb3, 0, none⟩)], .slice a_v0 y0_5.length c_v0, .slice a_v1 y0_6.length c_v1] 80 (0, 0)) :: vecC 3 1 a_v0 c_v0 y0_5.length cs204 :: vecC 4 1 a_v1 c_v1 y0_6.length cs210 :: R)) (w := _) (x := true) (y := true) (fun _ => hS) (fun _ => hS)
              have hF := hS; replace hS := hS
              refine Rg.take (i := 14) true rfl hE rfl (by kernel_rfl) (runs_plain rfl) (Gives.nilOk hE rfl) rfl hT ?_; clear hE a; intro a hE
              replace hS := hF; clear hF hT
              refine Rg.takeP (i := 15) hE rfl (by kernel_rfl) (runs_plain rfl) (Gives.fld hE rfl fl80_0) rfl (tw_sel (fun _ => hS) (fun _ => hS)) ?_; clear hE a; intro a hE
              refine Rg.takeP (i := 16) hE rfl (by kernel_rfl) (runs_plain rfl) (Gives.fld hE rfl fl24_0) rfl (tw_sel (fun _ => hS) (fun _ => hS)) ?_; clear hE a; intro a hE
              have hT := tw_sel (A := fun w => St w s198 (pt b178 (.cells (PlanRule.cells x169).toArray 37 (0, 0)) :: pt pb2 (.cells #[.slice a213 q212.length c214] 29 (0, 0)) :: pt pb1 (.cells #[.int .i64 y1.Period, .int .i64 y1.Events, .slice a_y1_2 y1.Rules.length c_y1_2] 24 (0, 0)) :: pt pb4 (.cells #[.pointer (some ⟨pb0, 0, none⟩)] 74 (0, 0)) :: pt pb3 (.cells #[.int .i64 q217] 3 (0, 0)) :: pt pb0 (.cells #[.int .i64 y0_0, .int .i64 y0_1, .slice a_y0_2 y0_2.length c_y0_2, .func (.func 50) #[] #[.pointer (some ⟨pb1, 0, none⟩), .pointer (some ⟨pb2, 0, none⟩), .pointer (some ⟨pb3, 0, none⟩)], .func (.func 49) #[] #[.pointer (some ⟨pb2, 0, none⟩), .pointer (some ⟨pb1, 0, none⟩), .pointer (some ⟨pb4, 0, none⟩), .pointer (some ⟨pb3, 0, none⟩)], .slice a_v0 y0_5.length c_v0, .slice a_v1 y0_6.length c_v1] 80 (0, 0)) :: vecC 3 1 a_v0 c_v0 y0_5.length cs204 :: vecC 4 1 a_v1 c_v1 y0_6.length cs210 :: R)) (B := fun w => St w s198 (pt b178 (.cells (PlanRule.cells x169).toArray 37 (0, 0)) :: pt pb2 (.cells #[.slice a213 q212.length c214] 29 (0, 0)) :: pt pb1 (.cells #[.int .i64 y1.Period, .int .i64 y1.Events, .slice a_y1_2 y1.Rules.length c_y1_2] 24 (0, 0)) :: pt pb4 (.cells #[.pointer (some ⟨pb0, 0, none⟩)] 74 (0, 0)) :: pt pb3 (.cells #[.int .i64 q217] 3 (0, 0)) :: pt pb0 (.cells #[.int .i64 y0_0, .int .i64 y0_1, .slice a_y0_2 y0_2.length c_y0_2, .func (.func 50) #[] #[.pointer (some ⟨pb1, 0, none⟩), .pointer (some ⟨pb2, 0, none⟩), .pointer (some ⟨pb3, 0, none⟩)], .func (.func 49) #[] #[.pointer (some ⟨pb2, 0, none⟩), .pointer (some ⟨pb1, 0, none⟩), .pointer (some ⟨pb4, 0, none⟩), .pointer (some ⟨pb3, 0, none⟩)], .slice a_v0 y0_5.length c_v0, .slice a_v1 y0_6.length c_v1] 80 (0, 0)) :: vecC 3 1 a_v0 c_v0 y0_5.length cs204 :: vecC 4 1 a_v1 c_v1 y0_6.length cs210 :: R)) (w := _) (x := true) (y := true) (fun _ => hS) (fun _ => hS)
              have hF := hS; replace hS := hS
              refine Rg.take (i := 17) true rfl hE rfl (by kernel_rfl) (runs_plain rfl) (Gives.loadB hE 5 rfl rfl rfl ty3) rfl hT ?_; clear hE a; intro a hE
              replace hS := hF; clear hF hT
              refine Rg.takeP (i := 18) hE rfl (by kernel_rfl) (runs_plain rfl) (Gives.p hE rfl) rfl (tw_sel (fun _ => hS) (fun _ => hS)) ?_; clear hE a; intro a hE
              refine Rg.takeP (i := 19) hE rfl (by kernel_rfl) (runs_plain rfl) (Gives.p hE rfl) rfl (tw_sel (fun _ => hS) (fun _ => hS)) ?_; clear hE a; intro a hE
              refine Rg.takeP (i := 20) hE rfl (by kernel_rfl) (runs_plain rfl) (Gives.fld hE rfl fl37_3) rfl (tw_sel (fun _ => hS) (fun _ => hS)) ?_; clear hE a; intro a hE
              have hT := tw_sel (A := fun w => St w s198 (pt b178 (.cells (PlanRule.cells x169).toArray 37 (0, 0)) :: pt pb2 (.cells #[.slice a213 q212.length c214] 29 (0, 0)) :: pt pb1 (.cells #[.int .i64 y1.Period, .int .i64 y1.Events, .slice a_y1_2 y1.Rules.length c_y1_2] 24 (0, 0)) :: pt pb4 (.cells #[.pointer (some ⟨pb0, 0, none⟩)] 74 (0, 0)) :: pt pb3 (.cells #[.int .i64 q217] 3 (0, 0)) :: pt pb0 (.cells #[.int .i64 y0_0, .int .i64 y0_1, .slice a_y0_2 y0_2.length c_y0_2, .func (.func 50) #[] #[.pointer (some ⟨pb1, 0, none⟩), .pointer (some ⟨pb2, 0, none⟩), .pointer (some ⟨pb3, 0, none⟩)], .func (.func 49) #[] #[.pointer (some ⟨pb2, 0, none⟩), .pointer (some ⟨pb1, 0, none⟩), .pointer (some ⟨pb4, 0, none⟩), .pointer (some ⟨pb3, 0, none⟩)], .slice a_v0 y0_5.length c_v0, .slice a_v1 y0_6.length c_v1] 80 (0, 0)) :: vecC 3 1 a_v0 c_v0 y0_5.length cs204 :: vecC 4 1 a_v1 c_v1 y0_6.length cs210 :: R)) (B := fun w => St w s198 (pt b178 (.cells (PlanRule.cells x169).toArray 37 (0, 0)) :: pt pb2 (.cells #[.slice a213 q212.length c214] 29 (0, 0)) :: pt pb1 (.cells #[.int .i64 y1.Period, .int .i64 y1.Events, .slice a_y1_2 y1.Rules.length c_y1_2] 24 (0, 0)) :: pt pb4 (.cells #[.pointer (some ⟨pb0, 0, none⟩)] 74 (0, 0)) :: pt pb3 (.cells #[.int .i64 q217] 3 (0, 0)) :: pt pb0 (.cells #[.int .i64 y0_0, .int .i64 y0_1, .slice a_y0_2 y0_2.length c_y0_2, .func (.func 50) #[] #[.pointer (some ⟨pb1, 0, none⟩), .pointer (some ⟨pb2, 0, none⟩), .pointer (some ⟨pb3, 0, none⟩)], .func (.func 49) #[] #[.pointer (some ⟨pb2, 0, none⟩), .pointer (some ⟨pb1, 0, none⟩), .pointer (some ⟨pb4, 0, none⟩), .pointer (some ⟨pb3, 0, none⟩)], .slice a_v0 y0_5.length c_v0, .slice a_v1 y0_6.length c_v1] 80 (0, 0)) :: vecC 3 1 a_v0 c_v0 y0_5.length cs204 :: vecC 4 1 a_v1 c_v1 y0_6.length cs210 :: R)) (w := _) (x := true) (y := true) (fun _ => hS) (fun _ => hS)
              have hF := hS; replace hS := hS
              refine Rg.take (i := 21) true rfl hE rfl (by kernel_rfl) (runs_plain rfl) (Gives.loadB hE 0 rfl rfl rfl ty3) rfl hT ?_; clear hE a; intro a hE
              replace hS := hF; clear hF hT
              refine Rg.takeP (i := 22) hE rfl (by kernel_rfl) (runs_plain rfl) (Gives.p hE rfl) rfl (tw_sel (fun _ => hS) (fun _ => hS)) ?_; clear hE a; intro a hE
              refine Rg.takeP (i := 23) hE rfl (by kernel_rfl) (runs_plain rfl) (Gives.p hE rfl) rfl (tw_sel (fun _ => hS) (fun _ => hS)) ?_; clear hE a; intro a hE
              have hT := tw_sel (A := fun w => St w s198 (pt b178 (.cells (PlanRule.cells x169).toArray 37 (0, 0)) :: pt pb2 (.cells #[.slice a213 q212.length c214] 29 (0, 0)) :: pt pb1 (.cells #[.int .i64 y1.Period, .int .i64 y1.Events, .slice a_y1_2 y1.Rules.length c_y1_2] 24 (0, 0)) :: pt pb4 (.cells #[.pointer (some ⟨pb0, 0, none⟩)] 74 (0, 0)) :: pt pb3 (.cells #[.int .i64 q217] 3 (0, 0)) :: pt pb0 (.cells #[.int .i64 y0_0, .int .i64 y0_1, .slice a_y0_2 y0_2.length c_y0_2, .func (.func 50) #[] #[.pointer (some ⟨pb1, 0, none⟩), .pointer (some ⟨pb2, 0, none⟩), .pointer (some ⟨pb3, 0, none⟩)], .func (.func 49) #[] #[.pointer (some ⟨pb2, 0, none⟩), .pointer (some ⟨pb1, 0, none⟩), .pointer (some ⟨pb4, 0, none⟩), .pointer (some ⟨pb3, 0, none⟩)], .slice a_v0 y0_5.length c_v0, .slice a_v1 y0_6.length c_v1] 80 (0, 0)) :: vecC 3 1 a_v0 c_v0 y0_5.length cs204 :: vecC 4 1 a_v1 c_v1 y0_6.length cs210 :: R)) (B := fun w => St w s198 (pt b178 (.cells (PlanRule.cells x169).toArray 37 (0, 0)) :: pt pb2 (.cells #[.slice a213 q212.length c214] 29 (0, 0)) :: pt pb1 (.cells #[.int .i64 y1.Period, .int .i64 y1.Events, .slice a_y1_2 y1.Rules.length c_y1_2] 24 (0, 0)) :: pt pb4 (.cells #[.pointer (some ⟨pb0, 0, none⟩)] 74 (0, 0)) :: pt pb3 (.cells #[.int .i64 q217] 3 (0, 0)) :: pt pb0 (.cells #[.int .i64 y0_0, .int .i64 y0_1, .slice a_y0_2 y0_2.length c_y0_2, .func (.func 50) #[] #[.pointer (some ⟨pb1, 0, none⟩), .pointer (some ⟨pb2, 0, none⟩), .pointer (some ⟨pb3, 0, none⟩)], .func (.func 49) #[] #[.pointer (some ⟨pb2, 0, none⟩), .pointer (some ⟨pb1, 0, none⟩), .pointer (some ⟨pb4, 0, none⟩), .pointer (some ⟨pb3, 0, none⟩)], .slice a_v0 y0_5.length c_v0, .slice a_v1 y0_6.length c_v1] 80 (0, 0)) :: vecC 3 1 a_v0 c_v0 y0_5.length cs204 :: vecC 4 1 a_v1 c_v1 y0_6.length cs210 :: R)) (w := _) (x := true) (y := true) (fun _ => hS) (fun _ => hS)
              have hF := hS; replace hS := hS
              refine Rg.take (i := 24) true rfl hE rfl (by kernel_rfl) (runs_plain rfl) (Gives.nilOk hE rfl) rfl hT ?_; clear hE a; intro a hE
              replace hS := hF; clear hF hT
              refine Rg.takeP (i := 25) hE rfl (by kernel_rfl) (runs_plain rfl) (Gives.fld hE rfl fl80_0) rfl (tw_sel (fun _ => hS) (fun _ => hS)) ?_; clear hE a; intro a hE
              refine Rg.takeP (i := 26) hE rfl (by kernel_rfl) (runs_plain rfl) (Gives.fld hE rfl fl24_0) rfl (tw_sel (fun _ => hS) (fun _ => hS)) ?_; clear hE a; intro a hE
              have hT := tw_sel (A := fun w => St w s198 (pt b178 (.cells (PlanRule.cells x169).toArray 37 (0, 0)) :: pt pb2 (.cells #[.slice a213 q212.length c214] 29 (0, 0)) :: pt pb1 (.cells #[.int .i64 y1.Period, .int .i64 y1.Events, .slice a_y1_2 y1.Rules.length c_y1_2] 24 (0, 0)) :: pt pb4 (.cells #[.pointer (some ⟨pb0, 0, none⟩)] 74 (0, 0)) :: pt pb3 (.cells #[.int .i64 q217] 3 (0, 0)) :: pt pb0 (.cells #[.int .i64 y0_0, .int .i64 y0_1, .slice a_y0_2 y0_2.length c_y0_2, .func (.func 50) #[] #[.pointer (some ⟨pb1, 0, none⟩), .pointer (some ⟨pb2, 0, none⟩), .pointer (some ⟨pb3, 0, none⟩)], .func (.func 49) #[] #[.pointer (some ⟨pb2, 0, none⟩), .pointer (some ⟨pb1, 0, none⟩), .pointer (some ⟨pb4, 0, none⟩), .pointer (some ⟨pb3, 0, none⟩)], .slice a_v0 y0_5.length c_v0, .slice a_v1 y0_6.length c_v1] 80 (0, 0)) :: vecC 3 1 a_v0 c_v0 y0_5.length cs204 :: vecC 4 1 a_v1 c_v1 y0_6.length cs210 :: R)) (B := fun w => St w s198 (pt b178 (.cells (PlanRule.cells x169).toArray 37 (0, 0)) :: pt pb2 (.cells #[.slice a213 q212.length c214] 29 (0, 0)) :: pt pb1 (.cells #[.int .i64 y1.Period, .int .i64 y1.Events, .slice a_y1_2 y1.Rules.length c_y1_2] 24 (0, 0)) :: pt pb4 (.cells #[.pointer (some ⟨pb0, 0, none⟩)] 74 (0, 0)) :: pt pb3 (.cells #[.int .i64 q217] 3 (0, 0)) :: pt pb0 (.cells #[.int .i64 y0_0, .int .i64 y0_1, .slice a_y0_2 y0_2.length c_y0_2, .func (.func 50) #[] #[.pointer (some ⟨pb1, 0, none⟩), .pointer (some ⟨pb2, 0, none⟩), .pointer (some ⟨pb3, 0, none⟩)], .func (.func 49) #[] #[.pointer (some ⟨pb2, 0, none⟩), .pointer (some ⟨pb1, 0, none⟩), .pointer (some ⟨pb4, 0, none⟩), .pointer (some ⟨pb3, 0, none⟩)], .slice a_v0 y0_5.length c_v0, .slice a_v1 y0_6.length c_v1] 80 (0, 0)) :: vecC 3 1 a_v0 c_v0 y0_5.length cs204 :: vecC 4 1 a_v1 c_v1 y0_6.length cs210 :: R)) (w := _) (x := true) (y := true) (fun _ => hS) (fun _ => hS)
              have hF := hS; replace hS := hS
              refine Rg.take (i := 27) true rfl hE rfl (by kernel_rfl) (runs_plain rfl) (Gives.loadB hE 5 rfl rfl rfl ty3) rfl hT ?_; clear hE a; intro a hE
              replace hS := hF; clear hF hT
              refine Rg.takeP (i := 28) hE rfl (by kernel_rfl) (runs_plain rfl) (Gives.p hE rfl) rfl (tw_sel (fun _ => hS) (fun _ => hS)) ?_; clear hE a; intro a hE
              refine Rg.takeP (i := 29) hE rfl (by kernel_rfl) (runs_plain rfl) (Gives.p hE rfl) rfl (tw_sel (fun _ => hS) (fun _ => hS)) ?_; clear hE a; intro a hE
              refine Rg.one (i := 30) true true rfl (by kernel_rfl) (by kernel_rfl) (by kernel_rfl) ?_
              obtain ⟨q224, hq225, hq189⟩ := bindS hq189
              have hc_ := PlanBoundsbetween_ok hS h1 hq225
              refine WL.fnq hE (hc_) (runs_plain rfl) bd72 rfl rfl rfl ?_
              clear hE hS hc_; rintro e w ⟨a226, s228, rfl, hle229, h227, hS⟩; refine ⟨_, rfl, ?_⟩; clear a; intro a hE
              replace h1 := Pt.mono RA.mono hle229 h1
              replace h105 := Sl.mono RI.mono hle229 h105
              replace h215 := Sl.mono RI.mono hle229 h215
              replace h_y1_2 := Sl.mono RPlanRule.mono hle229 h_y1_2
              replace h_y0_2 := Sl.mono RPlanRule.mono hle229 h_y0_2
              replace h203 := Ev.mono RI.mono hle229 h203
              replace h209 := Ev.mono RB.mono hle229 h209
              refine WL.nil ?_
              refine ⟨⟨fun _ => (St.down hle229 hS), fun _ => (St.down hle229 hS)⟩, ?_⟩
              refine Rg.takeP (i := 31) hE rfl (by kernel_rfl) (runs_plain rfl) (Gives.p hE rfl) rfl (tw_sel (fun _ => (St.down hle229 hS)) (fun _ => (St.down hle229 hS))) ?_; clear hE a; intro a hE
              refine Rg.takeP (i := 32) hE rfl (by kernel_rfl) (runs_plain rfl) (Gives.p hE rfl) rfl (tw_sel (fun _ => (St.down hle229 hS)) (fun _ => (St.down hle229 hS))) ?_; clear hE a; intro a hE
              refine Rg.takeP (i := 33) hE rfl (by kernel_rfl) (runs_plain rfl) (Gives.p hE rfl) rfl (tw_sel (fun _ => (St.down hle229 hS)) (fun _ => (St.down hle229 hS))) ?_; clear hE a; intro a hE
              refine Rg.takeP (i := 34) hE rfl (by kernel_rfl) (runs_plain rfl) (Gives.p hE rfl) rfl (tw_sel (fun _ => (St.down hle229 hS)) (fun _ => (St.down hle229 hS))) ?_; clear hE a; intro a hE
              refine Rg.takeP (i := 35) hE rfl (by kernel_rfl) (runs_plain rfl) (Gives.p hE rfl) rfl (tw_sel (fun _ => (St.down hle229 hS)) (fun _ => (St.down hle229 hS))) ?_; clear hE a; intro a hE
              refine Rg.done (by kernel_rfl) ?_
              subst hK223
              refine W.seq ?_
              refine W.region ?_
              refine WL.vS hS hE (runs_plain rfl) (Gives.p hE rfl) rfl ?_; clear hE a; intro a hE
              refine WL.nil ?_
              obtain ⟨q231, hq230, hq189⟩ := bindS hq189
              refine W.cut (fun a w => ∃ (q234 : List Int), ∃ (q240 : List Bool), ∃ (q246 : List Int), ∃ (q251 : Int), ∃ (cs238 : List Value), ∃ (cs244 : List Value), ∃ (a247 : Option Addr), ∃ (c248 : Nat), ∃ (s232 : Sg), s228.Le s232 ∧ (q234, q240, q246, q251) = q231 ∧ Ev 1 (RI .i64) s232 cs238 q234 ∧ q234.length = y0_5.length ∧ Ev 1 RB s232 cs244 q240 ∧ q240.length = y0_6.length ∧ Sl 1 (RI .i64) s232 a247 c248 q246 ∧ (q246 = [] → a247 = none) ∧ Rep a 142 [(0, .pointer (some ⟨pb0, 0, none⟩)), (1, .pointer a1), (4, .int .i64 q101), (9, .pointer (some ⟨b178, 0, none⟩)), (84, .slice a103 q102.length c104), (85, .int .i64 ((q102).length : Int)), (86, .int .i64 ((k191 : Nat) : Int))] ∧ St w s232 (pt b178 (.cells (PlanRule.cells x169).toArray 37 (0, 0)) :: pt pb2 (.cells #[.slice a247 q246.length c248] 29 (0, 0)) :: pt pb1 (.cells #[.int .i64 y1.Period, .int .i64 y1.Events, .slice a_y1_2 y1.Rules.length c_y1_2] 24 (0, 0)) :: pt pb4 (.cells #[.pointer (some ⟨pb0, 0, none⟩)] 74 (0, 0)) :: pt pb3 (.cells #[.int .i64 q251] 3 (0, 0)) :: pt pb0 (.cells #[.int .i64 y0_0, .int .i64 y0_1, .slice a_y0_2 y0_2.length c_y0_2, .func (.func 50) #[] #[.pointer (some ⟨pb1, 0, none⟩), .pointer (some ⟨pb2, 0, none⟩), .pointer (some ⟨pb3, 0, none⟩)], .func (.func 49) #[] #[.pointer (some ⟨pb2, 0, none⟩), .pointer (some ⟨pb1, 0, none⟩), .pointer (some ⟨pb4, 0, none⟩), .pointer (some ⟨pb3, 0, none⟩)], .slice a_v0 y0_5.length c_v0, .slice a_v1 y0_6.length c_v1] 80 (0, 0)) :: vecC 3 1 a_v0 c_v0 y0_5.length cs238 :: vecC 4 1 a_v1 c_v1 y0_6.length cs244 :: R)) ?_ ?_
              · refine W.gen fun K252 hK252 => ?_
                refine W.cond hE rfl (fun hc253 => ?_) (fun hc253 => ?_)
                · replace hq230 := iteT hc253 hq230
                  refine W.seq ?_
                  refine W.region ?_
                  refine WL.vS hS hE (runs_plain rfl) (Gives.p hE rfl) rfl ?_; clear hE a; intro a hE
                  refine WL.vS hS hE (runs_plain rfl) (Gives.nilOk hE rfl) rfl ?_; clear hE a; intro a hE
                  refine WL.vS hS hE (runs_plain rfl) (Gives.fld hE rfl fl80_3) rfl ?_; clear hE a; intro a hE
                  refine WL.vS hS hE (runs_plain rfl) (Gives.loadB hE 5 rfl rfl rfl ty29) rfl ?_; clear hE a; intro a hE
                  refine WL.vS hS hE (runs_plain rfl) (Gives.p hE rfl) rfl ?_; clear hE a; intro a hE
                  refine WL.vS hS hE (runs_plain rfl) (Gives.p hE rfl) rfl ?_; clear hE a; intro a hE
                  obtain ⟨_, hx255, hq230⟩ := bindS hq230
                  obtain ⟨h256, h257⟩ := ix_some hx255
                  refine WL.vS hS hE (runs_plain rfl) (Gives.idx hE ((q101).toNat) rfl rfl sl29 h256 (by have := hn205; omega) (hS.vecAok 6 rfl (by have := hn205; omega : (q101).toNat < y0_5.length))) rfl ?_; clear hE a; intro a hE
                  obtain ⟨x259, hx260, hq230⟩ := bindS hq230
                  refine WL.setD hE hS 6 rfl (runs_plain rfl) rfl rfl (vs := [.int .i64 x192]) rfl ty3 rfl rfl rfl h203 hn205 (sx_some hx260).1 hx260 rfl rfl ?_; clear hE hS a w; intro cs261 a w h262 hn263 hE hS
                  refine WL.nil ?_
                  refine W.region ?_
                  refine WL.vS hS hE (runs_plain rfl) (Gives.p hE rfl) rfl ?_; clear hE a; intro a hE
                  refine WL.vS hS hE (runs_plain rfl) (Gives.p hE rfl) rfl ?_; clear hE a; intro a hE
                  obtain ⟨q264, hq265, hq230⟩ := bindS hq230
                  replace hS := hS.front 7 rfl
                  replace hS := hS.front 7 rfl
                  replace hS := hS.front 5 rfl
                  replace hS := hS.front 6 rfl
                  replace hS := hS.front 5 rfl
                  replace hS := hS.front 6 rfl
                  replace hS := hS.front 7 rfl
                  have hc_ := ih_PlanSearchrun_v1 (y1 := y1) hS h227 h_y0_2 h262 hn263 h209 hn211 h_y1_2 h215 hz216 hq265
                  refine WL.fnq hE (hc_) (runs_plain rfl) bd54 rfl rfl rfl ?_
                  clear hE hS hc_; rintro e w ⟨cs266, cs269, a272, c273, s276, rfl, hle277, h267, hn268, h270, hn271, h274, hz275, hS⟩; refine ⟨_, rfl, ?_⟩; clear a; intro a hE
                  replace h1 := Pt.mono RA.mono hle277 h1
                  replace h105 := Sl.mono RI.mono hle277 h105
                  replace h227 := Pt.mono RA.mono hle277 h227
                  replace h_y0_2 := Sl.mono RPlanRule.mono hle277 h_y0_2
                  replace h_y1_2 := Sl.mono RPlanRule.mono hle277 h_y1_2
                  replace h215 := Sl.mono RI.mono hle277 h215
                  replace h262 := Ev.mono RI.mono hle277 h262
                  replace h209 := Ev.mono RB.mono hle277 h209
                  refine WL.nil ?_
                  replace hS := hS.front 6 rfl
                  replace hS := hS.front 6 rfl
                  replace hS := hS.front 2 rfl
                  replace hS := hS.front 5 rfl
                  replace hS := hS.front 6 rfl
                  replace hS := hS.front 5 rfl
                  replace hS := hS.front 6 rfl
                  replace hS := hS.front 7 rfl
                  subst hK252
                  exact ⟨q264.1, q264.2.1, q264.2.2.1, q264.2.2.2, cs266, cs269, a272, c273, s276, hle277, Option.some.inj hq230, h267, hn268, h270, hn271, h274, hz275, hE.pick _ ⟨rfl, rfl, rfl, rfl, rfl, rfl, rfl, trivial⟩, hS⟩
                · replace hq230 := iteF hc253 hq230
                  refine W.skip ?_
                  subst hK252
                  exact ⟨q200, q206, q212, q217, cs204, cs210, a213, c214, s228, (Sg.Le.refl _), Option.some.inj hq230, h203, hn205, h209, hn211, h215, hz216, hE.pick _ ⟨rfl, rfl, rfl, rfl, rfl, rfl, rfl, trivial⟩, hS⟩
              · clear hE hS a w; rintro a w ⟨q234, q240, q246, q251, cs238, cs244, a247, c248, s232, hle233, rfl, h237, hn239, h243, hn245, h249, hz250, hE, hS⟩
                dsimp only at hq189
                replace h1 := Pt.mono RA.mono hle233 h1
                replace h105 := Sl.mono RI.mono hle233 h105
                replace h215 := Sl.mono RI.mono hle233 h215
                replace h_y1_2 := Sl.mono RPlanRule.mono hle233 h_y1_2
                replace h_y0_2 := Sl.mono RPlanRule.mono hle233 h_y0_2
                replace h203 := Ev.mono RI.mono hle233 h203
                replace h209 := Ev.mono RB.mono hle233 h209
                refine W.region ?_
                refine WL.vS hS hE (runs_plain rfl) (Gives.inc hE rfl (by have := h105.small; omega)) rfl ?_; clear hE a; intro a hE
                refine WL.vS hS hE (runs_plain rfl) (Gives.p hE rfl) rfl ?_; clear hE a; intro a hE
                refine WL.nil ?_
                subst hK218
                exact ⟨rest193.length, Nat.lt_succ_self _, rest193, k191 + 1, q234, q240, q246, q251, cs238, cs244, a247, c248, s232, rfl, hd194, (Sg.Le.trans (Sg.Le.trans hle199 hle229) hle233), hq189, h237, hn239, h243, hn245, h249, hz250, hE.pick _ ⟨rfl, rfl, rfl, rfl, rfl, rfl, rfl, trivial⟩, hS⟩
          · clear hE hS a w; rintro a w ⟨q200, q206, q212, q217, cs204, cs210, a213, c214, s198, hle199, rfl, h203, hn205, h209, hn211, h215, hz216, hE, hS⟩
            dsimp only at hr
            replace h1 := Pt.mono RA.mono hle199 h1
            replace h105 := Sl.mono RI.mono hle199 h105
            replace h_y0_2 := Sl.mono RPlanRule.mono hle199 h_y0_2
            replace h109 := Sl.mono RI.mono hle199 h109
            replace h_y1_2 := Sl.mono RPlanRule.mono hle199 h_y1_2
            replace h_v0 := Ev.mono RI.mono hle199 h_v0
            replace h187 := Ev.mono RB.mono hle199 h187
            refine W.region ?_
            refine WL.vS hS hE (runs_plain rfl) (Gives.p hE rfl) rfl ?_; clear hE a; intro a hE
            refine WL.vS hS hE (runs_plain rfl) (Gives.nilOk hE rfl) rfl ?_; clear hE a; intro a hE
            refine WL.vS hS hE (runs_plain rfl) (Gives.fld hE rfl fl80_4) rfl ?_; clear hE a; intro a hE
            refine WL.vS hS hE (runs_plain rfl) (Gives.loadB hE 5 rfl rfl rfl ty71) rfl ?_; clear hE a; intro a hE
            refine WL.vS hS hE (runs_plain rfl) (Gives.p hE rfl) rfl ?_; clear hE a; intro a hE
            obtain ⟨_, hx279, hr⟩ := bindS hr
            obtain ⟨h280, h281⟩ := ix_some hx279
            refine WL.vS hS hE (runs_plain rfl) (Gives.idx hE ((q101).toNat) rfl rfl sl71 h280 (by have := hn211; omega) (hS.vecAok 7 rfl (by have := hn211; omega : (q101).toNat < y0_6.length))) rfl ?_; clear hE a; intro a hE
            obtain ⟨x283, hx284, hr⟩ := bindS hr
            refine WL.setD hE hS 7 rfl (runs_plain rfl) rfl rfl (vs := [.bool true]) rfl ty4 rfl rfl rfl h209 hn211 (sx_some hx284).1 hx284 rfl rfl ?_; clear hE hS a w; intro cs285 a w h286 hn287 hE hS
            refine WL.nil ?_
            refine finG (fn := Try.f54) (rs := []) (vs := []) hE rfl trivial ?_
            obtain rfl := Option.some.inj hr
            replace hS := hS.front 7 rfl
            replace hS := hS.front 7 rfl
            replace hS := hS.front 5 rfl
            replace hS := hS.front 6 rfl
            replace hS := hS.front 5 rfl
            replace hS := hS.front 6 rfl
            replace hS := hS.front 7 rfl
            replace hS := hS.dropAt 7
            exact ⟨cs204, cs285, a213, c214, s198, rfl, (Sg.Le.trans hle100 hle199), h203, hn205, h286, hn287, h215, hz216, hS⟩
set_option maxHeartbeats 8000000 in
theorem PlanBest_ok {fu : Nat}  {w : World} {s : Sg} {R : List HP} {x0 : PlanPeriodic} {a0_0 : Option Addr} {c0_0 : Nat} (hS : St w s (R)) (h0_0 : Sl 5 RPlanRule s a0_0 c0_0 x0.Rules) {r : (List Int) × Int × Int} (hr : PlanBest fu x0 = some r) :
    Calls Try.prog 24 [.agg [.int .i64 x0.Period, .int .i64 x0.Events, .slice a0_0 x0.Rules.length c0_0].toArray].toArray w (fun e w => ∃ (a0 : Option Addr) (c0 : Nat) (t : Sg), e = .returned (.tuple #[.slice a0 r.1.length c0, .int .i64 r.2.1, .int .i64 r.2.2]) ∧ s.Le t ∧ Sl 1 (RI .i64) t a0 c0 r.1 ∧ St w t (R)) := by
  refine enter Try.func24 rfl rfl rfl fun a hE => ?_
  rw [PlanBest] at hr
  refine W.seq ?_
  refine W.region ?_
  refine WL.box hE hS (runs_plain rfl) rfl rfl rfl ?_; clear hE hS a w; intro b51 a w hE hS
  refine WL.vS hS hE (runs_plain rfl) (Gives.p hE rfl) rfl ?_; clear hE a; intro a hE
  refine WL.vS hS hE (runs_plain rfl) (Gives.p hE rfl) rfl ?_; clear hE a; intro a hE
  refine WL.vS hS hE (runs_plain rfl) (Gives.p hE rfl) rfl ?_; clear hE a; intro a hE
  refine WL.nil ?_
  refine W.seq ?_
  refine W.seq ?_
  refine W.region ?_
  refine WL.vS hS hE (runs_plain rfl) (Gives.loadBA hE 0 rfl rfl ty24) rfl ?_; clear hE a; intro a hE
  refine WL.fnq hE (PlanCheckPeriodic_ok hS h0_0 rfl (r := PlanCheckPeriodic x0)) (runs_plain rfl) bd10 rfl rfl rfl ?_
  clear hE hS; rintro e w ⟨rfl, hS⟩; refine ⟨_, rfl, ?_⟩; clear a; intro a hE
  refine WL.vS hS hE (runs_plain rfl) (Gives.p hE rfl) rfl ?_; clear hE a; intro a hE
  refine WL.nil ?_
  refine W.seq ?_
  refine W.region ?_
  refine WL.vS hS hE (runs_plain rfl) (Gives.p hE rfl) rfl ?_; clear hE a; intro a hE
  refine WL.vS hS hE (runs_plain rfl) (Gives.p hE rfl) rfl ?_; clear hE a; intro a hE
  refine WL.nil ?_
  refine W.cond hE rfl (fun hc52 => ?_) (fun hc52 => ?_)
  · replace hr := iteT hc52 hr
    refine W.seq ?_
    refine W.region ?_
    refine WL.vS hS hE (runs_plain rfl) (Gives.p hE rfl) rfl ?_; clear hE a; intro a hE
    refine WL.vS hS hE (runs_plain rfl) (Gives.p hE rfl) rfl ?_; clear hE a; intro a hE
    refine WL.vS hS hE (runs_plain rfl) (Gives.p hE rfl) rfl ?_; clear hE a; intro a hE
    refine WL.vS hS hE (runs_plain rfl) (Gives.p hE rfl) rfl ?_; clear hE a; intro a hE
    refine WL.nil ?_
    refine W.ret ?_
    refine finG (fn := Try.f24) (rs := [.tmp 2, .tmp 3, .tmp 4]) (vs := [_, _, _]) hE rfl ⟨rfl, rfl, rfl, trivial⟩ ?_
    obtain rfl := Option.some.inj hr
    replace hS := hS.tail
    exact ⟨none, 0, s, rfl, (Sg.Le.refl _), Sl.nil, hS⟩
  · replace hr := iteF hc52 hr
    refine W.skip ?_
    refine W.seq ?_
    refine W.seq ?_
    refine W.region ?_
    refine WL.vS hS hE (runs_plain rfl) (Gives.fld hE rfl fl24_1) rfl ?_; clear hE a; intro a hE
    refine WL.vS hS hE (runs_plain rfl) (Gives.loadB hE 0 rfl rfl rfl ty3) rfl ?_; clear hE a; intro a hE
    refine WL.vS hS hE (runs_plain rfl) (Gives.p hE rfl) rfl ?_; clear hE a; intro a hE
    refine WL.nil ?_
    refine W.cond hE rfl (fun hc53 => ?_) (fun hc53 => ?_)
    · replace hr := iteT hc53 hr
      refine W.seq ?_
      refine W.region ?_
      refine WL.vS hS hE (runs_plain rfl) (Gives.p hE rfl) rfl ?_; clear hE a; intro a hE
      refine WL.vS hS hE (runs_plain rfl) (Gives.p hE rfl) rfl ?_; clear hE a; intro a hE
      refine WL.vS hS hE (runs_plain rfl) (Gives.p hE rfl) rfl ?_; clear hE a; intro a hE
      refine WL.nil ?_
      refine W.ret ?_
      refine finG (fn := Try.f24) (rs := [.tmp 2, .tmp 3, .tmp 4]) (vs := [_, _, _]) hE rfl ⟨rfl, rfl, rfl, trivial⟩ ?_
      obtain rfl := Option.some.inj hr
      replace hS := hS.tail
      exact ⟨none, 0, s, rfl, (Sg.Le.refl _), Sl.nil, hS⟩
    · replace hr := iteF hc53 hr
      refine W.skip ?_
      refine W.seq ?_
      refine W.region ?_
      refine WL.vS hS hE (runs_plain rfl) (Gives.loadBA hE 0 rfl rfl ty24) rfl ?_; clear hE a; intro a hE
      obtain ⟨q54, hq55, hr⟩ := bindS hr
      have hc_ := PlannewSearch_ok hS h0_0 hq55
      refine WL.fnq hE (hc_) (runs_plain rfl) bd48 rfl rfl rfl ?_
      clear hE hS hc_; rintro e w ⟨b56, a57, c58, a60, c61, n62, cs63, a66, c67, n68, cs69, s72, rfl, hle73, h59, h64, rfl, h70, rfl, hS⟩; refine ⟨_, rfl, ?_⟩; clear a; intro a hE
      replace h0_0 := Sl.mono RPlanRule.mono hle73 h0_0
      refine WL.alloc hE hS (runs_plain rfl) zr74 rfl ?_; clear hE hS a w; intro b74 a w hE hS
      refine WL.storeI hE hS 0 rfl [.pointer (some ⟨b56, 0, none⟩)] (runs_plain rfl) rfl rfl rfl ty74 rfl rfl rfl rfl ?_; clear hE hS a w; intro a w hE hS
      refine WL.nil ?_
      refine W.seq ?_
      refine W.region ?_
      refine WL.alloc hE hS (runs_plain rfl) zr29 rfl ?_; clear hE hS a w; intro b75 a w hE hS
      refine WL.nil ?_
      refine W.seq ?_
      refine W.region ?_
      refine WL.alloc hE hS (runs_plain rfl) zr3 rfl ?_; clear hE hS a w; intro b76 a w hE hS
      refine WL.storeI hE hS 0 rfl [.int .i64 0] (runs_plain rfl) rfl rfl rfl ty3 rfl rfl rfl rfl ?_; clear hE hS a w; intro a w hE hS
      refine WL.nil ?_
      refine W.seq ?_
      refine W.region ?_
      refine WL.vS hS hE (runs_plain rfl) (Gives.loadB hE 2 rfl rfl rfl ty74) rfl ?_; clear hE a; intro a hE
      refine WL.vS hS hE (runs_plain rfl) (Gives.mkfn hE (vs := [.pointer (some ⟨b75, 0, none⟩), .pointer (some ⟨b51, 0, none⟩), .pointer (some ⟨b74, 0, none⟩), .pointer (some ⟨b76, 0, none⟩)]) rfl) rfl ?_; clear hE a; intro a hE
      refine WL.vS hS hE (runs_plain rfl) (Gives.nilOk hE rfl) rfl ?_; clear hE a; intro a hE
      refine WL.vS hS hE (runs_plain rfl) (Gives.fld hE rfl fl80_2) rfl ?_; clear hE a; intro a hE
      refine WL.storeI hE hS 3 rfl [.int .i64 q54.1, .int .i64 q54.2.1, .slice a57 q54.2.2.1.length c58, .nilFunc, .func (.func 49) #[] #[.pointer (some ⟨b75, 0, none⟩), .pointer (some ⟨b51, 0, none⟩), .pointer (some ⟨b74, 0, none⟩), .pointer (some ⟨b76, 0, none⟩)], .slice a60 q54.2.2.2.1.length c61, .slice a66 q54.2.2.2.2.length c67] (runs_plain rfl) rfl rfl rfl ty78 rfl rfl rfl rfl ?_; clear hE hS a w; intro a w hE hS
      refine WL.nil ?_
      refine W.seq ?_
      refine W.region ?_
      refine WL.vS hS hE (runs_plain rfl) (Gives.loadB hE 2 rfl rfl rfl ty74) rfl ?_; clear hE a; intro a hE
      refine WL.vS hS hE (runs_plain rfl) (Gives.mkfn hE (vs := [.pointer (some ⟨b51, 0, none⟩), .pointer (some ⟨b75, 0, none⟩), .pointer (some ⟨b76, 0, none⟩)]) rfl) rfl ?_; clear hE a; intro a hE
      refine WL.vS hS hE (runs_plain rfl) (Gives.nilOk hE rfl) rfl ?_; clear hE a; intro a hE
      refine WL.vS hS hE (runs_plain rfl) (Gives.fld hE rfl fl80_1) rfl ?_; clear hE a; intro a hE
      refine WL.storeI hE hS 3 rfl [.int .i64 q54.1, .int .i64 q54.2.1, .slice a57 q54.2.2.1.length c58, .func (.func 50) #[] #[.pointer (some ⟨b51, 0, none⟩), .pointer (some ⟨b75, 0, none⟩), .pointer (some ⟨b76, 0, none⟩)], .func (.func 49) #[] #[.pointer (some ⟨b75, 0, none⟩), .pointer (some ⟨b51, 0, none⟩), .pointer (some ⟨b74, 0, none⟩), .pointer (some ⟨b76, 0, none⟩)], .slice a60 q54.2.2.2.1.length c61, .slice a66 q54.2.2.2.2.length c67] (runs_plain rfl) rfl rfl rfl ty77 rfl rfl rfl rfl ?_; clear hE hS a w; intro a w hE hS
      refine WL.nil ?_
      refine W.seq ?_
      refine W.region ?_
      refine WL.vS hS hE (runs_plain rfl) (Gives.loadB hE 2 rfl rfl rfl ty74) rfl ?_; clear hE a; intro a hE
      obtain ⟨q77, hq78, hr⟩ := bindS hr
      replace hS := hS.front 5 rfl
      replace hS := hS.front 5 rfl
      replace hS := hS.front 4 rfl
      replace hS := hS.front 3 rfl
      replace hS := hS.front 4 rfl
      replace hS := hS.front 6 rfl
      replace hS := hS.front 6 rfl
      have hc_ := PlanSearchstart_v1_ok (y1 := x0) hS h59 h64 rfl h70 rfl h0_0 Sl.nil (fun _ => rfl) hq78
      refine WL.fnq hE (hc_) (runs_plain rfl) bd53 rfl rfl rfl ?_
      clear hE hS hc_; rintro e w ⟨a79, s81, rfl, hle82, h80, hS⟩; refine ⟨_, rfl, ?_⟩; clear a; intro a hE
      replace h0_0 := Sl.mono RPlanRule.mono hle82 h0_0
      replace h59 := Sl.mono RPlanRule.mono hle82 h59
      replace h64 := Ev.mono RI.mono hle82 h64
      replace h70 := Ev.mono RB.mono hle82 h70
      refine WL.vS hS hE (runs_plain rfl) (Gives.p hE rfl) rfl ?_; clear hE a; intro a hE
      refine WL.nil ?_
      refine W.seq ?_
      refine W.region ?_
      refine WL.vS hS hE (runs_plain rfl) (Gives.loadB hE 4 rfl rfl rfl ty74) rfl ?_; clear hE a; intro a hE
      refine WL.vS hS hE (runs_plain rfl) (Gives.p hE rfl) rfl ?_; clear hE a; intro a hE
      obtain ⟨q83, hq84, hr⟩ := bindS hr
      have hc_ := PlanSearchrun_v1_ok (y1 := x0) hS h80 h59 h64 rfl h70 rfl h0_0 Sl.nil (fun _ => rfl) hq84
      refine WL.fnq hE (hc_) (runs_plain rfl) bd54 rfl rfl rfl ?_
      clear hE hS hc_; rintro e w ⟨cs85, cs88, a91, c92, s95, rfl, hle96, h86, hn87, h89, hn90, h93, hz94, hS⟩; refine ⟨_, rfl, ?_⟩; clear a; intro a hE
      replace h0_0 := Sl.mono RPlanRule.mono hle96 h0_0
      replace h80 := Pt.mono RA.mono hle96 h80
      replace h59 := Sl.mono RPlanRule.mono hle96 h59
      replace h64 := Ev.mono RI.mono hle96 h64
      replace h70 := Ev.mono RB.mono hle96 h70
      refine WL.nil ?_
      refine W.seq ?_
      refine W.seq ?_
      refine W.region ?_
      refine WL.vS hS hE (runs_plain rfl) (Gives.loadB hE 2 rfl rfl rfl ty29) rfl ?_; clear hE a; intro a hE
      refine WL.vS hS hE (runs_plain rfl) (Gives.isNilZ hE (isNone_eq h93 hz94) rfl rfl isl29) rfl ?_; clear hE a; intro a hE
      refine WL.nil ?_
      refine W.cond hE rfl (fun hc97 => ?_) (fun hc97 => ?_)
      · replace hr := iteT hc97 hr
        refine W.seq ?_
        refine W.region ?_
        refine WL.vS hS hE (runs_plain rfl) (Gives.p hE rfl) rfl ?_; clear hE a; intro a hE
        refine WL.vS hS hE (runs_plain rfl) (Gives.p hE rfl) rfl ?_; clear hE a; intro a hE
        refine WL.vS hS hE (runs_plain rfl) (Gives.p hE rfl) rfl ?_; clear hE a; intro a hE
        refine WL.nil ?_
        refine W.ret ?_
        refine finG (fn := Try.f24) (rs := [.tmp 2, .tmp 3, .tmp 4]) (vs := [_, _, _]) hE rfl ⟨rfl, rfl, rfl, trivial⟩ ?_
        obtain rfl := Option.some.inj hr
        replace hS := hS.tail
        replace hS := hS.tail
        replace hS := hS.tail
        replace hS := hS.tail
        replace hS := hS.tail
        replace hS := hS.tail
        replace hS := hS.tail
        exact ⟨none, 0, s95, rfl, (Sg.Le.trans (Sg.Le.trans hle73 hle82) hle96), Sl.nil, hS⟩
      · replace hr := iteF hc97 hr
        refine W.skip ?_
        refine W.seq ?_
        refine W.regionQ (C := fun w => St w s95 (pt b56 (.cells #[.int .i64 q54.1, .int .i64 q54.2.1, .slice a57 q54.2.2.1.length c58, .func (.func 50) #[] #[.pointer (some ⟨b51, 0, none⟩), .pointer (some ⟨b75, 0, none⟩), .pointer (some ⟨b76, 0, none⟩)], .func (.func 49) #[] #[.pointer (some ⟨b75, 0, none⟩), .pointer (some ⟨b51, 0, none⟩), .pointer (some ⟨b74, 0, none⟩), .pointer (some ⟨b76, 0, none⟩)], .slice a60 q54.2.2.2.1.length c61, .slice a66 q54.2.2.2.2.length c67] 80 (0, 0)) :: pt b51 (.cells #[.int .i64 x0.Period, .int .i64 x0.Events, .slice a0_0 x0.Rules.length c0_0] 24 (0, 0)) :: pt b75 (.cells #[.slice a91 q83.2.2.1.length c92] 29 (0, 0)) :: pt b76 (.cells #[.int .i64 q83.2.2.2] 3 (0, 0)) :: pt b74 (.cells #[.pointer (some ⟨b56, 0, none⟩)] 74 (0, 0)) :: vecC 3 1 a60 c61 q54.2.2.2.1.length cs85 :: vecC 4 1 a66 c67 q54.2.2.2.2.length cs88 :: R)) mixed (by kernel_rfl) hS.drew ?_
        refine QL.v hE (runs_plain rfl) (Gives.loadB hE 2 rfl rfl rfl ty29) rfl ?_; clear hE a; intro a hE
        refine QL.v hE (runs_plain rfl) (Gives.loadB hE 3 rfl rfl rfl ty3) rfl ?_; clear hE a; intro a hE
        refine QL.v hE (runs_plain rfl) (Gives.p hE rfl) rfl ?_; clear hE a; intro a hE
        refine QL.v hE (runs_plain rfl) (Gives.p hE rfl) rfl ?_; clear hE a; intro a hE
        refine QL.v hE (runs_plain rfl) (Gives.p hE rfl) rfl ?_; clear hE a; intro a hE
        refine QL.nil ?_; clear hS w; intro w hS
        refine W.ret ?_
        refine finG (fn := Try.f24) (rs := [.tmp 2, .tmp 3, .tmp 4]) (vs := [_, _, _]) hE rfl ⟨rfl, rfl, rfl, trivial⟩ ?_
        obtain rfl := Option.some.inj hr
        replace hS := hS.tail
        replace hS := hS.tail
        replace hS := hS.tail
        replace hS := hS.tail
        replace hS := hS.tail
        replace hS := hS.tail
        replace hS := hS.tail
        exact ⟨a91, c92, s95, rfl, (Sg.Le.trans (Sg.Le.trans hle73 hle82) hle96), h93, hS⟩
set_option maxHeartbeats 8000000 in
theorem Fishref2within_ok  {w : World} {s : Sg} {R : List HP} {x0 : Int} {x1 : Int} {x2 : Int} (hS : St w s (R))  {r : Bool} (hr : Fishref2within x0 x1 x2 = r) :
    Calls Try.prog 36 [.int .i64 x0, .int .i64 x1, .int .i64 x2].toArray w (fun e w => e = .returned (.bool r) ∧ St w s (R)) := by
  refine enter Try.func36 rfl rfl rfl fun a hE => ?_
  rw [Fishref2within] at hr
  refine W.seq ?_
  refine W.region ?_
  refine WL.vS hS hE (runs_plain rfl) (Gives.p hE rfl) rfl ?_; clear hE a; intro a hE
  refine WL.nil ?_
  refine W.seq ?_
  obtain ⟨q52, hq51, hr⟩ := bndS hr
  refine W.cut (fun a w => ∃ (q55 : Bool), q55 = q52 ∧ Rep a 15 [(6, .bool q55)] ∧ St w s (R)) ?_ ?_
  · refine W.gen fun K56 hK56 => ?_
    refine W.region ?_
    refine WL.vS hS hE (runs_plain rfl) (Gives.p hE rfl) rfl ?_; clear hE a; intro a hE
    refine WL.vS hS hE (runs_plain rfl) (Gives.p hE rfl) rfl ?_; clear hE a; intro a hE
    refine WL.vS hS hE (runs_plain rfl) (Gives.p hE rfl) rfl ?_; clear hE a; intro a hE
    refine WL.vS hS hE (runs_plain rfl) (Gives.p hE rfl) rfl ?_; clear hE a; intro a hE
    rcases Bool.eq_false_or_eq_true (decide (x0 ≥ x1)) with hg57 | hg57
    · replace hq51 := iteT hg57 hq51
      refine WL.vS hS hE (runs_if hE rfl rfl rfl hg57) (Gives.p hE rfl) rfl ?_; clear hE a; intro a hE
      refine WL.vS hS hE (runs_if hE rfl rfl rfl hg57) (Gives.p hE rfl) rfl ?_; clear hE a; intro a hE
      refine WL.vS hS hE (runs_if hE rfl rfl rfl hg57) (Gives.p hE rfl) rfl ?_; clear hE a; intro a hE
      refine WL.vS hS hE (runs_plain rfl) (Gives.pickT hE rfl hg57 rfl) rfl ?_; clear hE a; intro a hE
      refine WL.vS hS hE (runs_plain rfl) (Gives.p hE rfl) rfl ?_; clear hE a; intro a hE
      refine WL.nil ?_
      subst hK56
      exact ⟨decide (x0 ≤ x2), hq51, hE.pick _ ⟨rfl, trivial⟩, hS⟩
    · replace hq51 := iteF hg57 hq51
      refine WL.no hE (runs_not hE rfl rfl rfl (by rw [hg57]; decide)) rfl ?_; clear hE a; intro a hE
      refine WL.no hE (runs_not hE rfl rfl rfl (by rw [hg57]; decide)) rfl ?_; clear hE a; intro a hE
      refine WL.no hE (runs_not hE rfl rfl rfl (by rw [hg57]; decide)) rfl ?_; clear hE a; intro a hE
      refine WL.vS hS hE (runs_plain rfl) (Gives.pickF hE rfl hg57 rfl) rfl ?_; clear hE a; intro a hE
      refine WL.vS hS hE (runs_plain rfl) (Gives.p hE rfl) rfl ?_; clear hE a; intro a hE
      refine WL.nil ?_
      subst hK56
      exact ⟨false, hq51, hE.pick _ ⟨rfl, trivial⟩, hS⟩
  · clear hE hS a w; rintro a w ⟨q55, rfl, hE, hS⟩
    refine W.ret ?_
    refine finG (fn := Try.f36) (rs := [.tmp 6]) (vs := [_]) hE rfl ⟨rfl, trivial⟩ ?_
    subst hr
    exact ⟨rfl, hS⟩
set_option maxHeartbeats 8000000 in
theorem Fishref2PeriodicFault_ok  {w : World} {s : Sg} {R : List HP} {x0 : PlanPeriodic} {a0_0 : Option Addr} {c0_0 : Nat} (hS : St w s (R)) (h0_0 : Sl 5 RPlanRule s a0_0 c0_0 x0.Rules) {r : Int} (hr : Fishref2PeriodicFault x0 = r) :
    Calls Try.prog 11 [.agg [.int .i64 x0.Period, .int .i64 x0.Events, .slice a0_0 x0.Rules.length c0_0].toArray].toArray w (fun e w => e = .returned (.int .i64 r) ∧ St w s (R)) := by
  refine enter Try.func11 rfl rfl rfl fun a hE => ?_
  rw [Fishref2PeriodicFault] at hr
  refine W.seq ?_
  refine W.region ?_
  refine WL.box hE hS (runs_plain rfl) rfl rfl rfl ?_; clear hE hS a w; intro b51 a w hE hS
  refine WL.vS hS hE (runs_plain rfl) (Gives.p hE rfl) rfl ?_; clear hE a; intro a hE
  refine WL.nil ?_
  refine W.seq ?_
  refine W.seq ?_
  obtain ⟨q53, hq52, hr⟩ := bndS hr
  refine W.cut (fun a w => ∃ (q56 : Bool), q56 = q53 ∧ Rep a 79 [(1, .pointer (some ⟨b51, 0, none⟩)), (14, .bool q56)] ∧ St w s (pt b51 (.cells #[.int .i64 x0.Period, .int .i64 x0.Events, .slice a0_0 x0.Rules.length c0_0] 24 (0, 0)) :: R)) ?_ ?_
  · refine W.gen fun K57 hK57 => ?_
    refine W.region ?_
    refine WL.vS hS hE (runs_plain rfl) (Gives.fld hE rfl fl24_0) rfl ?_; clear hE a; intro a hE
    refine WL.vS hS hE (runs_plain rfl) (Gives.loadB hE 0 rfl rfl rfl ty3) rfl ?_; clear hE a; intro a hE
    refine WL.fnq hE (Fishref2within_ok hS  rfl (r := Fishref2within x0.Period 2 3600)) (runs_plain rfl) bd36 rfl rfl rfl ?_
    clear hE hS; rintro e w ⟨rfl, hS⟩; refine ⟨_, rfl, ?_⟩; clear a; intro a hE
    refine WL.vS hS hE (runs_plain rfl) (Gives.p hE rfl) rfl ?_; clear hE a; intro a hE
    refine WL.vS hS hE (runs_plain rfl) (Gives.p hE rfl) rfl ?_; clear hE a; intro a hE
    rcases Bool.eq_false_or_eq_true (!(Fishref2within x0.Period 2 3600)) with hg58 | hg58
    · replace hq52 := iteT hg58 hq52
      refine WL.no hE (runs_not hE rfl rfl rfl (by rw [hg58]; decide)) rfl ?_; clear hE a; intro a hE
      refine WL.no hE (runs_not hE rfl rfl rfl (by rw [hg58]; decide)) rfl ?_; clear hE a; intro a hE
      refine WL.no hE (runs_not hE rfl rfl rfl (by rw [hg58]; decide)) rfl ?_; clear hE a; intro a hE
      refine WL.no hE (runs_not hE rfl rfl rfl (by rw [hg58]; decide)) rfl ?_; clear hE a; intro a hE
      refine WL.vS hS hE (runs_plain rfl) (Gives.pickT hE rfl hg58 rfl) rfl ?_; clear hE a; intro a hE
      refine WL.nil ?_
      subst hK57
      exact ⟨true, hq52, hE.pick _ ⟨rfl, rfl, trivial⟩, hS⟩
    · replace hq52 := iteF hg58 hq52
      refine WL.vS hS hE (runs_if hE rfl rfl rfl hg58) (Gives.fld hE rfl fl24_1) rfl ?_; clear hE a; intro a hE
      refine WL.vS hS hE (runs_if hE rfl rfl rfl hg58) (Gives.loadB hE 0 rfl rfl rfl ty3) rfl ?_; clear hE a; intro a hE
      refine WL.fnq hE (Fishref2within_ok hS  rfl (r := Fishref2within x0.Events 1 8)) (runs_if hE rfl rfl rfl hg58) bd36 rfl rfl rfl ?_
      clear hE hS; rintro e w ⟨rfl, hS⟩; refine ⟨_, rfl, ?_⟩; clear a; intro a hE
      refine WL.vS hS hE (runs_if hE rfl rfl rfl hg58) (Gives.p hE rfl) rfl ?_; clear hE a; intro a hE
      refine WL.vS hS hE (runs_plain rfl) (Gives.pickF hE rfl hg58 rfl) rfl ?_; clear hE a; intro a hE
      refine WL.nil ?_
      subst hK57
      exact ⟨!(Fishref2within x0.Events 1 8), hq52, hE.pick _ ⟨rfl, rfl, trivial⟩, hS⟩
  · clear hE hS a w; rintro a w ⟨q56, rfl, hE, hS⟩
    refine W.cond hE rfl (fun hc59 => ?_) (fun hc59 => ?_)
    · replace hr := iteT hc59 hr
      refine W.seq ?_
      refine W.region ?_
      refine WL.vS hS hE (runs_plain rfl) (Gives.p hE rfl) rfl ?_; clear hE a; intro a hE
      refine WL.nil ?_
      refine W.ret ?_
      refine finG (fn := Try.f11) (rs := [.tmp 2]) (vs := [_]) hE rfl ⟨rfl, trivial⟩ ?_
      subst hr
      replace hS := hS.tail
      exact ⟨rfl, hS⟩
    · replace hr := iteF hc59 hr
      refine W.skip ?_
      refine W.seq ?_
      refine W.seq ?_
      refine W.region ?_
      refine WL.vS hS hE (runs_plain rfl) (Gives.fld hE rfl fl24_2) rfl ?_; clear hE a; intro a hE
      refine WL.vS hS hE (runs_plain rfl) (Gives.loadB hE 0 rfl rfl rfl ty22) rfl ?_; clear hE a; intro a hE
      refine WL.vS hS hE (runs_plain rfl) (Gives.len hE rfl sl22) rfl ?_; clear hE a; intro a hE
      refine WL.vS hS hE (runs_plain rfl) (Gives.p hE rfl) rfl ?_; clear hE a; intro a hE
      refine WL.nil ?_
      refine W.cond hE rfl (fun hc60 => ?_) (fun hc60 => ?_)
      · replace hr := iteT hc60 hr
        refine W.seq ?_
        refine W.region ?_
        refine WL.vS hS hE (runs_plain rfl) (Gives.p hE rfl) rfl ?_; clear hE a; intro a hE
        refine WL.nil ?_
        refine W.ret ?_
        refine finG (fn := Try.f11) (rs := [.tmp 2]) (vs := [_]) hE rfl ⟨rfl, trivial⟩ ?_
        subst hr
        replace hS := hS.tail
        exact ⟨rfl, hS⟩
      · replace hr := iteF hc60 hr
        refine W.skip ?_
        refine W.seq ?_
        refine W.seq ?_
        refine W.region ?_
        refine WL.vS hS hE (runs_plain rfl) (Gives.fld hE rfl fl24_2) rfl ?_; clear hE a; intro a hE
        refine WL.vS hS hE (runs_plain rfl) (Gives.loadB hE 0 rfl rfl rfl ty22) rfl ?_; clear hE a; intro a hE
        refine WL.vS hS hE (runs_plain rfl) (Gives.len hE rfl sl22) rfl ?_; clear hE a; intro a hE
        refine WL.vS hS hE (runs_plain rfl) (Gives.p hE rfl) rfl ?_; clear hE a; intro a hE
        refine WL.nil ?_
        obtain ⟨q62, hq61, hr⟩ := bndS hr
        refine W.cut (fun a w => (.next ()) = q62 ∧ Rep a 79 [] ∧ St w s (pt b51 (.cells #[.int .i64 x0.Period, .int .i64 x0.Events, .slice a0_0 x0.Rules.length c0_0] 24 (0, 0)) :: R)) ?_ ?_
        · refine W.block ?_
          refine W.loop (fun m a w => ∃ (rest65 : List PlanRule) (k63 : Nat), rest65.length = m ∧ x0.Rules.drop k63 = rest65 ∧ Fishref2PeriodicFault.loop1 x0 rest65 = q62 ∧ Rep a 79 [(1, .pointer (some ⟨b51, 0, none⟩)), (20, .slice a0_0 x0.Rules.length c0_0), (21, .int .i64 ((x0.Rules).length : Int)), (22, .int .i64 ((k63 : Nat) : Int))] ∧ St w s (pt b51 (.cells #[.int .i64 x0.Period, .int .i64 x0.Events, .slice a0_0 x0.Rules.length c0_0] 24 (0, 0)) :: R)) (m := x0.Rules.length) ⟨x0.Rules, 0, rfl, rfl, hq61, hE.pick _ ⟨rfl, rfl, rfl, rfl, trivial⟩, hS⟩ ?_
          clear hE hS a w hq61; rintro m69 a w ⟨rest65, k63, rfl, hd66, hq61, hE, hS⟩
          refine W.gen fun K72 hK72 => ?_
          rcases rest65 with _ | ⟨x64, rest65⟩
          · have hlt67 := drop_nil hd66
            refine W.seq ?_
            refine W.region ?_
            refine WL.vS hS hE (runs_plain rfl) (Gives.p hE rfl) rfl ?_; clear hE a; intro a hE
            refine WL.nil ?_
            refine W.seq ?_
            refine W.condF hE rfl (decide_eq_false (by omega)) ?_
            subst hK72
            refine W.exit rfl ?_
            exact ⟨hq61, hE.pick _ trivial, hS⟩
          · obtain ⟨hlt67, hx68, hd66⟩ := drop_cons hd66
            rw [Fishref2PeriodicFault.loop1] at hq61
            refine W.seq ?_
            refine W.region ?_
            refine WL.vS hS hE (runs_plain rfl) (Gives.p hE rfl) rfl ?_; clear hE a; intro a hE
            refine WL.nil ?_
            refine W.seq ?_
            refine W.condT hE rfl (decide_eq_true (by omega)) ?_
            refine W.skip ?_
            refine W.seq ?_
            refine W.block ?_
            refine W.seq ?_
            refine W.region ?_
            obtain ⟨cs73, hl74, hR75, hat76⟩ := h0_0.at hx68
            subst hR75
            refine WL.vS hS hE (runs_plain rfl) (Gives.idx hE k63 rfl rfl sl22 rfl hlt67 (h0_0.aok hlt67)) rfl ?_; clear hE a; intro a hE
            refine WL.vS hS hE (runs_plain rfl) (Gives.loadA hE rfl (fun w h => hat76 w _ h) ty37) rfl ?_; clear hE a; intro a hE
            refine WL.alloc hE hS (runs_plain rfl) zr37 rfl ?_; clear hE hS a w; intro b77 a w hE hS
            refine WL.storeI hE hS 0 rfl (PlanRule.cells x64) (runs_plain rfl) rfl rfl rfl ty37 rfl rfl rfl rfl ?_; clear hE hS a w; intro a w hE hS
            refine WL.nil ?_
            refine W.block ?_
            refine W.seq ?_
            obtain ⟨q79, hq78, hq61⟩ := bndS hq61
            refine W.cut (fun a w => ∃ (q82 : Bool), q82 = q79 ∧ Rep a 79 [(1, .pointer (some ⟨b51, 0, none⟩)), (4, .pointer (some ⟨b77, 0, none⟩)), (20, .slice a0_0 x0.Rules.length c0_0), (21, .int .i64 ((x0.Rules).length : Int)), (22, .int .i64 ((k63 : Nat) : Int)), (26, .bool q82)] ∧ St w s (pt b77 (.cells (PlanRule.cells x64).toArray 37 (0, 0)) :: pt b51 (.cells #[.int .i64 x0.Period, .int .i64 x0.Events, .slice a0_0 x0.Rules.length c0_0] 24 (0, 0)) :: R)) ?_ ?_
            · refine W.gen fun K83 hK83 => ?_
              refine W.region ?_
              refine WL.vS hS hE (runs_plain rfl) (Gives.fld hE rfl fl37_0) rfl ?_; clear hE a; intro a hE
              refine WL.vS hS hE (runs_plain rfl) (Gives.loadB hE 0 rfl rfl rfl ty3) rfl ?_; clear hE a; intro a hE
              refine WL.vS hS hE (runs_plain rfl) (Gives.fld hE rfl fl24_1) rfl ?_; clear hE a; intro a hE
              refine WL.vS hS hE (runs_plain rfl) (Gives.loadB hE 1 rfl rfl rfl ty3) rfl ?_; clear hE a; intro a hE
              refine WL.vS hS hE (runs_plain rfl) (Gives.p hE rfl) rfl ?_; clear hE a; intro a hE
              refine WL.fnq hE (Fishref2within_ok hS  rfl (r := Fishref2within x64.From 0 (w64 (x0.Events - 1)))) (runs_plain rfl) bd36 rfl rfl rfl ?_
              clear hE hS; rintro e w ⟨rfl, hS⟩; refine ⟨_, rfl, ?_⟩; clear a; intro a hE
              refine WL.vS hS hE (runs_plain rfl) (Gives.p hE rfl) rfl ?_; clear hE a; intro a hE
              refine WL.vS hS hE (runs_plain rfl) (Gives.p hE rfl) rfl ?_; clear hE a; intro a hE
              rcases Bool.eq_false_or_eq_true (!(Fishref2within x64.From 0 (w64 (x0.Events - 1)))) with hg84 | hg84
              · replace hq78 := iteT hg84 hq78
                refine WL.no hE (runs_not hE rfl rfl rfl (by rw [hg84]; decide)) rfl ?_; clear hE a; intro a hE
                refine WL.no hE (runs_not hE rfl rfl rfl (by rw [hg84]; decide)) rfl ?_; clear hE a; intro a hE
                refine WL.no hE (runs_not hE rfl rfl rfl (by rw [hg84]; decide)) rfl ?_; clear hE a; intro a hE
                refine WL.no hE (runs_not hE rfl rfl rfl (by rw [hg84]; decide)) rfl ?_; clear hE a; intro a hE
                refine WL.no hE (runs_not hE rfl rfl rfl (by rw [hg84]; decide)) rfl ?_; clear hE a; intro a hE
                refine WL.no hE (runs_not hE rfl rfl rfl (by rw [hg84]; decide)) rfl ?_; clear hE a; intro a hE
                refine WL.no hE (runs_not hE rfl rfl rfl (by rw [hg84]; decide)) rfl ?_; clear hE a; intro a hE
                refine WL.vS hS hE (runs_plain rfl) (Gives.pickT hE rfl hg84 rfl) rfl ?_; clear hE a; intro a hE
                refine WL.vS hS hE (runs_plain rfl) (Gives.p hE rfl) rfl ?_; clear hE a; intro a hE
                refine WL.nil ?_
                subst hK83
                exact ⟨true, hq78, hE.pick _ ⟨rfl, rfl, rfl, rfl, rfl, rfl, trivial⟩, hS⟩
              · replace hq78 := iteF hg84 hq78
                refine WL.vS hS hE (runs_if hE rfl rfl rfl hg84) (Gives.fld hE rfl fl37_1) rfl ?_; clear hE a; intro a hE
                refine WL.vS hS hE (runs_if hE rfl rfl rfl hg84) (Gives.loadB hE 0 rfl rfl rfl ty3) rfl ?_; clear hE a; intro a hE
                refine WL.vS hS hE (runs_if hE rfl rfl rfl hg84) (Gives.fld hE rfl fl24_1) rfl ?_; clear hE a; intro a hE
                refine WL.vS hS hE (runs_if hE rfl rfl rfl hg84) (Gives.loadB hE 1 rfl rfl rfl ty3) rfl ?_; clear hE a; intro a hE
                refine WL.vS hS hE (runs_if hE rfl rfl rfl hg84) (Gives.p hE rfl) rfl ?_; clear hE a; intro a hE
                refine WL.fnq hE (Fishref2within_ok hS  rfl (r := Fishref2within x64.To 0 (w64 (x0.Events - 1)))) (runs_if hE rfl rfl rfl hg84) bd36 rfl rfl rfl ?_
                clear hE hS; rintro e w ⟨rfl, hS⟩; refine ⟨_, rfl, ?_⟩; clear a; intro a hE
                refine WL.vS hS hE (runs_if hE rfl rfl rfl hg84) (Gives.p hE rfl) rfl ?_; clear hE a; intro a hE
                refine WL.vS hS hE (runs_plain rfl) (Gives.pickF hE rfl hg84 rfl) rfl ?_; clear hE a; intro a hE
                refine WL.vS hS hE (runs_plain rfl) (Gives.p hE rfl) rfl ?_; clear hE a; intro a hE
                refine WL.nil ?_
                subst hK83
                exact ⟨!(Fishref2within x64.To 0 (w64 (x0.Events - 1))), hq78, hE.pick _ ⟨rfl, rfl, rfl, rfl, rfl, rfl, trivial⟩, hS⟩
            · clear hE hS a w; rintro a w ⟨q82, rfl, hE, hS⟩
              refine W.cond hE rfl (fun hc85 => ?_) (fun hc85 => ?_)
              · replace hq61 := iteT hc85 hq61
                refine W.seq ?_
                refine W.region ?_
                refine WL.vS hS hE (runs_plain rfl) (Gives.p hE rfl) rfl ?_; clear hE a; intro a hE
                refine WL.nil ?_
                refine W.ret ?_
                subst hK72
                rw [← hq61] at hr
                dsimp only at hr
                refine finG (fn := Try.f11) (rs := [.tmp 2]) (vs := [_]) hE rfl ⟨rfl, trivial⟩ ?_
                subst hr
                replace hS := hS.tail
                replace hS := hS.tail
                exact ⟨rfl, hS⟩
              · replace hq61 := iteF hc85 hq61
                refine W.seq ?_
                refine W.region ?_
                refine WL.vS hS hE (runs_plain rfl) (Gives.fld hE rfl fl37_0) rfl ?_; clear hE a; intro a hE
                refine WL.vS hS hE (runs_plain rfl) (Gives.loadB hE 0 rfl rfl rfl ty3) rfl ?_; clear hE a; intro a hE
                refine WL.vS hS hE (runs_plain rfl) (Gives.fld hE rfl fl37_1) rfl ?_; clear hE a; intro a hE
                refine WL.vS hS hE (runs_plain rfl) (Gives.loadB hE 0 rfl rfl rfl ty3) rfl ?_; clear hE a; intro a hE
                refine WL.vS hS hE (runs_plain rfl) (Gives.p hE rfl) rfl ?_; clear hE a; intro a hE
                refine WL.vS hS hE (runs_plain rfl) (Gives.p hE rfl) rfl ?_; clear hE a; intro a hE
                refine WL.nil ?_
                refine W.cond hE rfl (fun hc86 => ?_) (fun hc86 => ?_)
                · replace hq61 := iteT hc86 hq61
                  refine W.seq ?_
                  refine W.region ?_
                  refine WL.vS hS hE (runs_plain rfl) (Gives.p hE rfl) rfl ?_; clear hE a; intro a hE
                  refine WL.nil ?_
                  refine W.ret ?_
                  subst hK72
                  rw [← hq61] at hr
                  dsimp only at hr
                  refine finG (fn := Try.f11) (rs := [.tmp 2]) (vs := [_]) hE rfl ⟨rfl, trivial⟩ ?_
                  subst hr
                  replace hS := hS.tail
                  replace hS := hS.tail
                  exact ⟨rfl, hS⟩
                · replace hq61 := iteF hc86 hq61
                  refine W.seq ?_
                  obtain ⟨q88, hq87, hq61⟩ := bndS hq61
                  refine W.cut (fun a w => ∃ (q91 : Bool), q91 = q88 ∧ Rep a 79 [(1, .pointer (some ⟨b51, 0, none⟩)), (20, .slice a0_0 x0.Rules.length c0_0), (21, .int .i64 ((x0.Rules).length : Int)), (22, .int .i64 ((k63 : Nat) : Int)), (49, .bool q91)] ∧ St w s (pt b77 (.cells (PlanRule.cells x64).toArray 37 (0, 0)) :: pt b51 (.cells #[.int .i64 x0.Period, .int .i64 x0.Events, .slice a0_0 x0.Rules.length c0_0] 24 (0, 0)) :: R)) ?_ ?_
                  · refine W.gen fun K92 hK92 => ?_
                    refine W.region ?_
                    refine WL.vS hS hE (runs_plain rfl) (Gives.fld hE rfl fl37_2) rfl ?_; clear hE a; intro a hE
                    refine WL.vS hS hE (runs_plain rfl) (Gives.loadB hE 0 rfl rfl rfl ty3) rfl ?_; clear hE a; intro a hE
                    refine WL.fnq hE (Fishref2within_ok hS  rfl (r := Fishref2within x64.Min 0 3600)) (runs_plain rfl) bd36 rfl rfl rfl ?_
                    clear hE hS; rintro e w ⟨rfl, hS⟩; refine ⟨_, rfl, ?_⟩; clear a; intro a hE
                    refine WL.vS hS hE (runs_plain rfl) (Gives.p hE rfl) rfl ?_; clear hE a; intro a hE
                    refine WL.vS hS hE (runs_plain rfl) (Gives.p hE rfl) rfl ?_; clear hE a; intro a hE
                    rcases Bool.eq_false_or_eq_true (!(Fishref2within x64.Min 0 3600)) with hg93 | hg93
                    · replace hq87 := iteT hg93 hq87
                      refine WL.no hE (runs_not hE rfl rfl rfl (by rw [hg93]; decide)) rfl ?_; clear hE a; intro a hE
                      refine WL.no hE (runs_not hE rfl rfl rfl (by rw [hg93]; decide)) rfl ?_; clear hE a; intro a hE
                      refine WL.no hE (runs_not hE rfl rfl rfl (by rw [hg93]; decide)) rfl ?_; clear hE a; intro a hE
                      refine WL.no hE (runs_not hE rfl rfl rfl (by rw [hg93]; decide)) rfl ?_; clear hE a; intro a hE
                      refine WL.no hE (runs_not hE rfl rfl rfl (by rw [hg93]; decide)) rfl ?_; clear hE a; intro a hE
                      refine WL.vS hS hE (runs_plain rfl) (Gives.pickT hE rfl hg93 rfl) rfl ?_; clear hE a; intro a hE
                      refine WL.vS hS hE (runs_plain rfl) (Gives.p hE rfl) rfl ?_; clear hE a; intro a hE
                      refine WL.no hE (runs_not hE rfl rfl rfl (by decide)) rfl ?_; clear hE a; intro a hE
                      refine WL.no hE (runs_not hE rfl rfl rfl (by decide)) rfl ?_; clear hE a; intro a hE
                      refine WL.no hE (runs_not hE rfl rfl rfl (by decide)) rfl ?_; clear hE a; intro a hE
                      refine WL.no hE (runs_not hE rfl rfl rfl (by decide)) rfl ?_; clear hE a; intro a hE
                      refine WL.no hE (runs_not hE rfl rfl rfl (by decide)) rfl ?_; clear hE a; intro a hE
                      refine WL.no hE (runs_not hE rfl rfl rfl (by decide)) rfl ?_; clear hE a; intro a hE
                      refine WL.no hE (runs_not hE rfl rfl rfl (by decide)) rfl ?_; clear hE a; intro a hE
                      refine WL.no hE (runs_not hE rfl rfl rfl (by decide)) rfl ?_; clear hE a; intro a hE
                      refine WL.no hE (runs_not hE rfl rfl rfl (by decide)) rfl ?_; clear hE a; intro a hE
                      refine WL.vS hS hE (runs_plain rfl) (Gives.pickT hE rfl rfl rfl) rfl ?_; clear hE a; intro a hE
                      refine WL.vS hS hE (runs_plain rfl) (Gives.p hE rfl) rfl ?_; clear hE a; intro a hE
                      refine WL.no hE (runs_not hE rfl rfl rfl (by decide)) rfl ?_; clear hE a; intro a hE
                      refine WL.no hE (runs_not hE rfl rfl rfl (by decide)) rfl ?_; clear hE a; intro a hE
                      refine WL.no hE (runs_not hE rfl rfl rfl (by decide)) rfl ?_; clear hE a; intro a hE
                      refine WL.no hE (runs_not hE rfl rfl rfl (by decide)) rfl ?_; clear hE a; intro a hE
                      refine WL.vS hS hE (runs_plain rfl) (Gives.pickT hE rfl rfl rfl) rfl ?_; clear hE a; intro a hE
                      refine WL.vS hS hE (runs_plain rfl) (Gives.p hE rfl) rfl ?_; clear hE a; intro a hE
                      refine WL.nil ?_
                      subst hK92
                      exact ⟨true, hq87, hE.pick _ ⟨rfl, rfl, rfl, rfl, rfl, trivial⟩, hS⟩
                    · replace hq87 := iteF hg93 hq87
                      refine WL.vS hS hE (runs_if hE rfl rfl rfl hg93) (Gives.fld hE rfl fl37_3) rfl ?_; clear hE a; intro a hE
                      refine WL.vS hS hE (runs_if hE rfl rfl rfl hg93) (Gives.loadB hE 0 rfl rfl rfl ty3) rfl ?_; clear hE a; intro a hE
                      refine WL.vS hS hE (runs_if hE rfl rfl rfl hg93) (Gives.fld hE rfl fl37_2) rfl ?_; clear hE a; intro a hE
                      refine WL.vS hS hE (runs_if hE rfl rfl rfl hg93) (Gives.loadB hE 0 rfl rfl rfl ty3) rfl ?_; clear hE a; intro a hE
                      refine WL.vS hS hE (runs_if hE rfl rfl rfl hg93) (Gives.p hE rfl) rfl ?_; clear hE a; intro a hE
                      refine WL.vS hS hE (runs_plain rfl) (Gives.pickF hE rfl hg93 rfl) rfl ?_; clear hE a; intro a hE
                      refine WL.vS hS hE (runs_plain rfl) (Gives.p hE rfl) rfl ?_; clear hE a; intro a hE
                      rcases Bool.eq_false_or_eq_true (decide (x64.Max < x64.Min)) with hg94 | hg94
                      · replace hq87 := iteT hg94 hq87
                        refine WL.no hE (runs_not hE rfl rfl rfl (by rw [hg94]; decide)) rfl ?_; clear hE a; intro a hE
                        refine WL.no hE (runs_not hE rfl rfl rfl (by rw [hg94]; decide)) rfl ?_; clear hE a; intro a hE
                        refine WL.no hE (runs_not hE rfl rfl rfl (by rw [hg94]; decide)) rfl ?_; clear hE a; intro a hE
                        refine WL.no hE (runs_not hE rfl rfl rfl (by rw [hg94]; decide)) rfl ?_; clear hE a; intro a hE
                        refine WL.no hE (runs_not hE rfl rfl rfl (by rw [hg94]; decide)) rfl ?_; clear hE a; intro a hE
                        refine WL.no hE (runs_not hE rfl rfl rfl (by rw [hg94]; decide)) rfl ?_; clear hE a; intro a hE
                        refine WL.no hE (runs_not hE rfl rfl rfl (by rw [hg94]; decide)) rfl ?_; clear hE a; intro a hE
                        refine WL.no hE (runs_not hE rfl rfl rfl (by rw [hg94]; decide)) rfl ?_; clear hE a; intro a hE
                        refine WL.no hE (runs_not hE rfl rfl rfl (by rw [hg94]; decide)) rfl ?_; clear hE a; intro a hE
                        refine WL.vS hS hE (runs_plain rfl) (Gives.pickT hE rfl hg94 rfl) rfl ?_; clear hE a; intro a hE
                        refine WL.vS hS hE (runs_plain rfl) (Gives.p hE rfl) rfl ?_; clear hE a; intro a hE
                        refine WL.no hE (runs_not hE rfl rfl rfl (by decide)) rfl ?_; clear hE a; intro a hE
                        refine WL.no hE (runs_not hE rfl rfl rfl (by decide)) rfl ?_; clear hE a; intro a hE
                        refine WL.no hE (runs_not hE rfl rfl rfl (by decide)) rfl ?_; clear hE a; intro a hE
                        refine WL.no hE (runs_not hE rfl rfl rfl (by decide)) rfl ?_; clear hE a; intro a hE
                        refine WL.vS hS hE (runs_plain rfl) (Gives.pickT hE rfl rfl rfl) rfl ?_; clear hE a; intro a hE
                        refine WL.vS hS hE (runs_plain rfl) (Gives.p hE rfl) rfl ?_; clear hE a; intro a hE
                        refine WL.nil ?_
                        subst hK92
                        exact ⟨true, hq87, hE.pick _ ⟨rfl, rfl, rfl, rfl, rfl, trivial⟩, hS⟩
                      · replace hq87 := iteF hg94 hq87
                        refine WL.vS hS hE (runs_if hE rfl rfl rfl hg94) (Gives.fld hE rfl fl37_3) rfl ?_; clear hE a; intro a hE
                        refine WL.vS hS hE (runs_if hE rfl rfl rfl hg94) (Gives.loadB hE 0 rfl rfl rfl ty3) rfl ?_; clear hE a; intro a hE
                        refine WL.vS hS hE (runs_if hE rfl rfl rfl hg94) (Gives.fld hE rfl fl37_2) rfl ?_; clear hE a; intro a hE
                        refine WL.vS hS hE (runs_if hE rfl rfl rfl hg94) (Gives.loadB hE 0 rfl rfl rfl ty3) rfl ?_; clear hE a; intro a hE
                        refine WL.vS hS hE (runs_if hE rfl rfl rfl hg94) (Gives.fld hE rfl fl24_0) rfl ?_; clear hE a; intro a hE
                        refine WL.vS hS hE (runs_if hE rfl rfl rfl hg94) (Gives.loadB hE 1 rfl rfl rfl ty3) rfl ?_; clear hE a; intro a hE
                        refine WL.vS hS hE (runs_if hE rfl rfl rfl hg94) (Gives.p hE rfl) rfl ?_; clear hE a; intro a hE
                        refine WL.vS hS hE (runs_if hE rfl rfl rfl hg94) (Gives.p hE rfl) rfl ?_; clear hE a; intro a hE
                        refine WL.vS hS hE (runs_if hE rfl rfl rfl hg94) (Gives.p hE rfl) rfl ?_; clear hE a; intro a hE
                        refine WL.vS hS hE (runs_plain rfl) (Gives.pickF hE rfl hg94 rfl) rfl ?_; clear hE a; intro a hE
                        refine WL.vS hS hE (runs_plain rfl) (Gives.p hE rfl) rfl ?_; clear hE a; intro a hE
                        rcases Bool.eq_false_or_eq_true (decide (x64.Max > (w64 ((w64 (x64.Min + x0.Period)) - 1)))) with hg95 | hg95
                        · replace hq87 := iteT hg95 hq87
                          refine WL.no hE (runs_not hE rfl rfl rfl (by rw [hg95]; decide)) rfl ?_; clear hE a; intro a hE
                          refine WL.no hE (runs_not hE rfl rfl rfl (by rw [hg95]; decide)) rfl ?_; clear hE a; intro a hE
                          refine WL.no hE (runs_not hE rfl rfl rfl (by rw [hg95]; decide)) rfl ?_; clear hE a; intro a hE
                          refine WL.no hE (runs_not hE rfl rfl rfl (by rw [hg95]; decide)) rfl ?_; clear hE a; intro a hE
                          refine WL.vS hS hE (runs_plain rfl) (Gives.pickT hE rfl hg95 rfl) rfl ?_; clear hE a; intro a hE
                          refine WL.vS hS hE (runs_plain rfl) (Gives.p hE rfl) rfl ?_; clear hE a; intro a hE
                          refine WL.nil ?_
                          subst hK92
                          exact ⟨true, hq87, hE.pick _ ⟨rfl, rfl, rfl, rfl, rfl, trivial⟩, hS⟩
                        · replace hq87 := iteF hg95 hq87
                          refine WL.vS hS hE (runs_if hE rfl rfl rfl hg95) (Gives.fld hE rfl fl37_4) rfl ?_; clear hE a; intro a hE
                          refine WL.vS hS hE (runs_if hE rfl rfl rfl hg95) (Gives.loadB hE 0 rfl rfl rfl ty3) rfl ?_; clear hE a; intro a hE
                          refine WL.fnq hE (Fishref2within_ok hS  rfl (r := Fishref2within x64.Weight 0 1000)) (runs_if hE rfl rfl rfl hg95) bd36 rfl rfl rfl ?_
                          clear hE hS; rintro e w ⟨rfl, hS⟩; refine ⟨_, rfl, ?_⟩; clear a; intro a hE
                          refine WL.vS hS hE (runs_if hE rfl rfl rfl hg95) (Gives.p hE rfl) rfl ?_; clear hE a; intro a hE
                          refine WL.vS hS hE (runs_plain rfl) (Gives.pickF hE rfl hg95 rfl) rfl ?_; clear hE a; intro a hE
                          refine WL.vS hS hE (runs_plain rfl) (Gives.p hE rfl) rfl ?_; clear hE a; intro a hE
                          refine WL.nil ?_
                          subst hK92
                          exact ⟨!(Fishref2within x64.Weight 0 1000), hq87, hE.pick _ ⟨rfl, rfl, rfl, rfl, rfl, trivial⟩, hS⟩
                  · clear hE hS a w; rintro a w ⟨q91, rfl, hE, hS⟩
                    refine W.cond hE rfl (fun hc96 => ?_) (fun hc96 => ?_)
                    · replace hq61 := iteT hc96 hq61
                      refine W.seq ?_
                      refine W.region ?_
                      refine WL.vS hS hE (runs_plain rfl) (Gives.p hE rfl) rfl ?_; clear hE a; intro a hE
                      refine WL.nil ?_
                      refine W.ret ?_
                      subst hK72
                      rw [← hq61] at hr
                      dsimp only at hr
                      refine finG (fn := Try.f11) (rs := [.tmp 2]) (vs := [_]) hE rfl ⟨rfl, trivial⟩ ?_
                      subst hr
                      replace hS := hS.tail
                      replace hS := hS.tail
                      exact ⟨rfl, hS⟩
                    · replace hq61 := iteF hc96 hq61
                      refine W.skip ?_
                      refine W.region ?_
                      refine WL.vS hS hE (runs_plain rfl) (Gives.inc hE rfl (by have := h0_0.small; omega)) rfl ?_; clear hE a; intro a hE
                      refine WL.vS hS hE (runs_plain rfl) (Gives.p hE rfl) rfl ?_; clear hE a; intro a hE
                      refine WL.nil ?_
                      replace hS := hS.tail
                      subst hK72
                      exact ⟨rest65.length, Nat.lt_succ_self _, rest65, k63 + 1, rfl, hd66, hq61, hE.pick _ ⟨rfl, rfl, rfl, rfl, trivial⟩, hS⟩
        · clear hE hS a w; rintro a w ⟨rfl, hE, hS⟩
          dsimp only at hr
          refine W.seq ?_
          refine W.region ?_
          refine WL.vS hS hE (runs_plain rfl) (Gives.p hE rfl) rfl ?_; clear hE a; intro a hE
          refine WL.nil ?_
          refine W.ret ?_
          refine finG (fn := Try.f11) (rs := [.tmp 2]) (vs := [_]) hE rfl ⟨rfl, trivial⟩ ?_
          subst hr
          replace hS := hS.tail
          exact ⟨rfl, hS⟩
set_option maxHeartbeats 8000000 in
theorem PlanSearchstart_v2_ok {fu : Nat}  {w : World} {s : Sg} {R : List HP} {pb0 : Nat} {y0_0 : Int} {y0_1 : Int} {y0_2 : List PlanRule} {a_y0_2 : Option Addr} {c_y0_2 : Nat} {y0_5 : List Int} {a_v0 : Option Addr} {c_v0 n_v0 : Nat} {cs_v0 : List Value} {y0_6 : List Bool} {a_v1 : Option Addr} {c_v1 n_v1 : Nat} {cs_v1 : List Value} (hS : St w s (pt pb0 (.cells #[.int .i64 y0_0, .int .i64 y0_1, .slice a_y0_2 y0_2.length c_y0_2, .nilFunc, .func (.func 78) #[] #[], .slice a_v0 n_v0 c_v0, .slice a_v1 n_v1 c_v1] 80 (0, 0)) :: vecC 3 1 a_v0 c_v0 n_v0 cs_v0 :: vecC 4 1 a_v1 c_v1 n_v1 cs_v1 :: R)) (h_y0_2 : Sl 5 RPlanRule s a_y0_2 c_y0_2 y0_2) (h_v0 : Ev 1 (RI .i64) s cs_v0 y0_5) (hn_v0 : y0_5.length = n_v0) (h_v1 : Ev 1 RB s cs_v1 y0_6) (hn_v1 : y0_6.length = n_v1) {r : (Option (List Int))} (hr : PlanSearchstart_v2 fu y0_0 y0_1 y0_2 y0_5 y0_6 = some r) :
    Calls Try.prog 53 [.pointer (some ⟨pb0, 0, none⟩)].toArray w (fun e w => ∃ (a0 : Option Addr) (t : Sg), e = .returned (.pointer a0) ∧ s.Le t ∧ Pt 64 (RA .i64 64) t a0 r ∧ St w t (pt pb0 (.cells #[.int .i64 y0_0, .int .i64 y0_1, .slice a_y0_2 y0_2.length c_y0_2, .nilFunc, .func (.func 78) #[] #[], .slice a_v0 n_v0 c_v0, .slice a_v1 n_v1 c_v1] 80 (0, 0)) :: vecC 3 1 a_v0 c_v0 n_v0 cs_v0 :: vecC 4 1 a_v1 c_v1 n_v1 cs_v1 :: R)) := by
  refine enter Try.func53 rfl rfl rfl fun a hE => ?_
  rw [PlanSearchstart_v2] at hr
  subst hn_v0
  subst hn_v1
  refine W.seq ?_
  refine W.region ?_
  refine WL.vS hS hE (runs_plain rfl) (Gives.p hE rfl) rfl ?_; clear hE a; intro a hE
  refine WL.nil ?_
  refine W.seq ?_
  refine W.region ?_
  refine WL.vS hS hE (runs_plain rfl) (Gives.build hE (vs := []) [.int .i64 0, .int .i64 0, .int .i64 0, .int .i64 0, .int .i64 0, .int .i64 0, .int .i64 0, .int .i64 0, .int .i64 0, .int .i64 0, .int .i64 0, .int .i64 0, .int .i64 0, .int .i64 0, .int .i64 0, .int .i64 0, .int .i64 0, .int .i64 0, .int .i64 0, .int .i64 0, .int .i64 0, .int .i64 0, .int .i64 0, .int .i64 0, .int .i64 0, .int .i64 0, .int .i64 0, .int .i64 0, .int .i64 0, .int .i64 0, .int .i64 0, .int .i64 0, .int .i64 0, .int .i64 0, .int .i64 0, .int .i64 0, .int .i64 0, .int .i64 0, .int .i64 0, .int .i64 0, .int .i64 0, .int .i64 0, .int .i64 0, .int .i64 0, .int .i64 0, .int .i64 0, .int .i64 0, .int .i64 0, .int .i64 0, .int .i64 0, .int .i64 0, .int .i64 0, .int .i64 0, .int .i64 0, .int .i64 0, .int .i64 0, .int .i64 0, .int .i64 0, .int .i64 0, .int .i64 0, .int .i64 0, .int .i64 0, .int .i64 0, .int .i64 0] rfl (by kernel_rfl)) rfl ?_; clear hE a; intro a hE
  refine WL.box hE hS (runs_plain rfl) rfl rfl rfl ?_; clear hE hS a w; intro b51 a w hE hS
  replace hS := hS.ptVec (es := 1) (m := 64) rfl (by decide)
  have h52 : Ev 1 (RI .i64) s [.int .i64 0, .int .i64 0, .int .i64 0, .int .i64 0, .int .i64 0, .int .i64 0, .int .i64 0, .int .i64 0, .int .i64 0, .int .i64 0, .int .i64 0, .int .i64 0, .int .i64 0, .int .i64 0, .int .i64 0, .int .i64 0, .int .i64 0, .int .i64 0, .int .i64 0, .int .i64 0, .int .i64 0, .int .i64 0, .int .i64 0, .int .i64 0, .int .i64 0, .int .i64 0, .int .i64 0, .int .i64 0, .int .i64 0, .int .i64 0, .int .i64 0, .int .i64 0, .int .i64 0, .int .i64 0, .int .i64 0, .int .i64 0, .int .i64 0, .int .i64 0, .int .i64 0, .int .i64 0, .int .i64 0, .int .i64 0, .int .i64 0, .int .i64 0, .int .i64 0, .int .i64 0, .int .i64 0, .int .i64 0, .int .i64 0, .int .i64 0, .int .i64 0, .int .i64 0, .int .i64 0, .int .i64 0, .int .i64 0, .int .i64 0, .int .i64 0, .int .i64 0, .int .i64 0, .int .i64 0, .int .i64 0, .int .i64 0, .int .i64 0, .int .i64 0] (List.replicate 64 (0 : Int)) := (Ev.ofMap (k := .i64) (List.replicate 64 (0 : Int)))
  refine WL.vS hS hE (runs_plain rfl) (Gives.p hE rfl) rfl ?_; clear hE a; intro a hE
  refine WL.nil ?_
  refine W.seq ?_
  refine W.seq ?_
  refine W.region ?_
  refine WL.vS hS hE (runs_plain rfl) (Gives.p hE rfl) rfl ?_; clear hE a; intro a hE
  refine WL.vS hS hE (runs_plain rfl) (Gives.nilOk hE rfl) rfl ?_; clear hE a; intro a hE
  refine WL.vS hS hE (runs_plain rfl) (Gives.fld hE rfl fl80_0) rfl ?_; clear hE a; intro a hE
  refine WL.vS hS hE (runs_plain rfl) (Gives.fld hE rfl fl24_1) rfl ?_; clear hE a; intro a hE
  refine WL.vS hS hE (runs_plain rfl) (Gives.loadB hE 1 rfl rfl rfl ty3) rfl ?_; clear hE a; intro a hE
  refine WL.vS hS hE (runs_plain rfl) (Gives.p hE rfl) rfl ?_; clear hE a; intro a hE
  refine WL.nil ?_
  obtain ⟨q66, hq65, hr⟩ := bindS hr
  refine W.cut (fun a w => ∃ (q71 : Int), ∃ (q72 : List Int), ∃ (cs76 : List Value), (q71, q72) = q66 ∧ Ev 1 (RI .i64) s cs76 q72 ∧ q72.length = 64 ∧ Rep a 47 [(3, .pointer (some ⟨b51, 0, none⟩))] ∧ St w s (vecC 116 1 (some ⟨b51, 0, none⟩) 64 64 cs76 :: pt pb0 (.cells #[.int .i64 y0_0, .int .i64 y0_1, .slice a_y0_2 y0_2.length c_y0_2, .nilFunc, .func (.func 78) #[] #[], .slice a_v0 y0_5.length c_v0, .slice a_v1 y0_6.length c_v1] 80 (0, 0)) :: vecC 3 1 a_v0 c_v0 y0_5.length cs_v0 :: vecC 4 1 a_v1 c_v1 y0_6.length cs_v1 :: R)) ?_ ?_
  · refine W.block ?_
    refine W.loop (fun m a w => ∃ (n67 : Nat), ∃ (q71 : Int), ∃ (q72 : List Int), ∃ (cs76 : List Value), n67 = m ∧ PlanSearchstart_v2.loop2 y0_0 y0_1 fu n67 q71 q72 = some q66 ∧ Ev 1 (RI .i64) s cs76 q72 ∧ q72.length = 64 ∧ Rep a 47 [(0, .pointer (some ⟨pb0, 0, none⟩)), (3, .pointer (some ⟨b51, 0, none⟩)), (12, .int .i64 y0_1), (13, .int .i64 q71)] ∧ St w s (vecC 116 1 (some ⟨b51, 0, none⟩) 64 64 cs76 :: pt pb0 (.cells #[.int .i64 y0_0, .int .i64 y0_1, .slice a_y0_2 y0_2.length c_y0_2, .nilFunc, .func (.func 78) #[] #[], .slice a_v0 y0_5.length c_v0, .slice a_v1 y0_6.length c_v1] 80 (0, 0)) :: vecC 3 1 a_v0 c_v0 y0_5.length cs_v0 :: vecC 4 1 a_v1 c_v1 y0_6.length cs_v1 :: R)) (m := fu) ⟨fu, 0, (List.replicate 64 (0 : Int)), [.int .i64 0, .int .i64 0, .int .i64 0, .int .i64 0, .int .i64 0, .int .i64 0, .int .i64 0, .int .i64 0, .int .i64 0, .int .i64 0, .int .i64 0, .int .i64 0, .int .i64 0, .int .i64 0, .int .i64 0, .int .i64 0, .int .i64 0, .int .i64 0, .int .i64 0, .int .i64 0, .int .i64 0, .int .i64 0, .int .i64 0, .int .i64 0, .int .i64 0, .int .i64 0, .int .i64 0, .int .i64 0, .int .i64 0, .int .i64 0, .int .i64 0, .int .i64 0, .int .i64 0, .int .i64 0, .int .i64 0, .int .i64 0, .int .i64 0, .int .i64 0, .int .i64 0, .int .i64 0, .int .i64 0, .int .i64 0, .int .i64 0, .int .i64 0, .int .i64 0, .int .i64 0, .int .i64 0, .int .i64 0, .int .i64 0, .int .i64 0, .int .i64 0, .int .i64 0, .int .i64 0, .int .i64 0, .int .i64 0, .int .i64 0, .int .i64 0, .int .i64 0, .int .i64 0, .int .i64 0, .int .i64 0, .int .i64 0, .int .i64 0, .int .i64 0], rfl, hq65, h52, (rfl), hE.pick _ ⟨rfl, rfl, rfl, rfl, trivial⟩, hS⟩ ?_
    clear hE hS a w hq65; rintro m68 a w ⟨n67, q71, q72, cs76, rfl, hq65, h75, hn77, hE, hS⟩
    refine W.gen fun K78 hK78 => ?_
    rcases n67 with _ | n67
    · rw [PlanSearchstart_v2.loop2] at hq65; exact absurd hq65 (by simp)
    rw [PlanSearchstart_v2.loop2] at hq65
    refine W.seq ?_
    refine W.region ?_
    refine WL.vS hS hE (runs_plain rfl) (Gives.p hE rfl) rfl ?_; clear hE a; intro a hE
    refine WL.nil ?_
    refine W.seq ?_
    refine W.cond hE rfl (fun hc79 => ?_) (fun hc79 => ?_)
    · replace hq65 := iteT hc79 hq65
      refine W.skip ?_
      refine W.seq ?_
      refine W.block ?_
      refine W.seq ?_
      refine W.region ?_
      refine WL.vS hS hE (runs_plain rfl) (Gives.p hE rfl) rfl ?_; clear hE a; intro a hE
      refine WL.vS hS hE (runs_plain rfl) (Gives.p hE rfl) rfl ?_; clear hE a; intro a hE
      refine WL.nil ?_
      refine W.seq ?_
      refine W.seq ?_
      refine W.region ?_
      refine WL.vS hS hE (runs_plain rfl) (Gives.p hE rfl) rfl ?_; clear hE a; intro a hE
      refine WL.vS hS hE (runs_plain rfl) (Gives.nilOk hE rfl) rfl ?_; clear hE a; intro a hE
      refine WL.vS hS hE (runs_plain rfl) (Gives.fld hE rfl fl80_0) rfl ?_; clear hE a; intro a hE
      refine WL.vS hS hE (runs_plain rfl) (Gives.fld hE rfl fl24_1) rfl ?_; clear hE a; intro a hE
      refine WL.vS hS hE (runs_plain rfl) (Gives.loadB hE 1 rfl rfl rfl ty3) rfl ?_; clear hE a; intro a hE
      refine WL.vS hS hE (runs_plain rfl) (Gives.p hE rfl) rfl ?_; clear hE a; intro a hE
      refine WL.nil ?_
      obtain ⟨q92, hq91, hq65⟩ := bindS hq65
      refine W.cut (fun a w => ∃ (q97 : Int), ∃ (q98 : List Int), ∃ (cs102 : List Value), (q97, q98) = q92 ∧ Ev 1 (RI .i64) s cs102 q98 ∧ q98.length = 64 ∧ Rep a 47 [(0, .pointer (some ⟨pb0, 0, none⟩)), (3, .pointer (some ⟨b51, 0, none⟩)), (4, .int .i64 q71), (12, .int .i64 y0_1), (13, .int .i64 q71)] ∧ St w s (vecC 116 1 (some ⟨b51, 0, none⟩) 64 64 cs102 :: pt pb0 (.cells #[.int .i64 y0_0, .int .i64 y0_1, .slice a_y0_2 y0_2.length c_y0_2, .nilFunc, .func (.func 78) #[] #[], .slice a_v0 y0_5.length c_v0, .slice a_v1 y0_6.length c_v1] 80 (0, 0)) :: vecC 3 1 a_v0 c_v0 y0_5.length cs_v0 :: vecC 4 1 a_v1 c_v1 y0_6.length cs_v1 :: R)) ?_ ?_
      · refine W.block ?_
        refine W.loop (fun m a w => ∃ (n93 : Nat), ∃ (q97 : Int), ∃ (q98 : List Int), ∃ (cs102 : List Value), n93 = m ∧ PlanSearchstart_v2.loop4 y0_0 y0_1 q71 n93 q97 q98 = some q92 ∧ Ev 1 (RI .i64) s cs102 q98 ∧ q98.length = 64 ∧ Rep a 47 [(0, .pointer (some ⟨pb0, 0, none⟩)), (3, .pointer (some ⟨b51, 0, none⟩)), (4, .int .i64 q71), (12, .int .i64 y0_1), (13, .int .i64 q71), (20, .int .i64 y0_1), (21, .int .i64 q97)] ∧ St w s (vecC 116 1 (some ⟨b51, 0, none⟩) 64 64 cs102 :: pt pb0 (.cells #[.int .i64 y0_0, .int .i64 y0_1, .slice a_y0_2 y0_2.length c_y0_2, .nilFunc, .func (.func 78) #[] #[], .slice a_v0 y0_5.length c_v0, .slice a_v1 y0_6.length c_v1] 80 (0, 0)) :: vecC 3 1 a_v0 c_v0 y0_5.length cs_v0 :: vecC 4 1 a_v1 c_v1 y0_6.length cs_v1 :: R)) (m := fu) ⟨fu, 0, q72, cs76, rfl, hq91, h75, hn77, hE.pick _ ⟨rfl, rfl, rfl, rfl, rfl, rfl, rfl, trivial⟩, hS⟩ ?_
        clear hE hS a w hq91; rintro m94 a w ⟨n93, q97, q98, cs102, rfl, hq91, h101, hn103, hE, hS⟩
        refine W.gen fun K104 hK104 => ?_
        rcases n93 with _ | n93
        · rw [PlanSearchstart_v2.loop4] at hq91; exact absurd hq91 (by simp)
        rw [PlanSearchstart_v2.loop4] at hq91
        refine W.seq ?_
        refine W.region ?_
        refine WL.vS hS hE (runs_plain rfl) (Gives.p hE rfl) rfl ?_; clear hE a; intro a hE
        refine WL.nil ?_
        refine W.seq ?_
        refine W.cond hE rfl (fun hc105 => ?_) (fun hc105 => ?_)
        · replace hq91 := iteT hc105 hq91
          refine W.skip ?_
          refine W.seq ?_
          refine W.block ?_
          refine W.seq ?_
          refine W.region ?_
          refine WL.vS hS hE (runs_plain rfl) (Gives.p hE rfl) rfl ?_; clear hE a; intro a hE
          refine WL.vS hS hE (runs_plain rfl) (Gives.p hE rfl) rfl ?_; clear hE a; intro a hE
          refine WL.nil ?_
          refine W.seq ?_
          refine W.region ?_
          refine WL.vS hS hE (runs_plain rfl) (Gives.p hE rfl) rfl ?_; clear hE a; intro a hE
          refine WL.vS hS hE (runs_plain rfl) (Gives.p hE rfl) rfl ?_; clear hE a; intro a hE
          refine WL.vS hS hE (runs_plain rfl) (Gives.p hE rfl) rfl ?_; clear hE a; intro a hE
          refine WL.nil ?_
          obtain ⟨q107, hq106, hq91⟩ := bindS hq91
          refine W.cut (fun a w => ∃ (q110 : List Int), ∃ (cs114 : List Value), q110 = q107 ∧ Ev 1 (RI .i64) s cs114 q110 ∧ q110.length = 64 ∧ Rep a 47 [(0, .pointer (some ⟨pb0, 0, none⟩)), (3, .pointer (some ⟨b51, 0, none⟩)), (4, .int .i64 q71), (12, .int .i64 y0_1), (13, .int .i64 q71), (20, .int .i64 y0_1), (21, .int .i64 q97)] ∧ St w s (vecC 116 1 (some ⟨b51, 0, none⟩) 64 64 cs114 :: pt pb0 (.cells #[.int .i64 y0_0, .int .i64 y0_1, .slice a_y0_2 y0_2.length c_y0_2, .nilFunc, .func (.func 78) #[] #[], .slice a_v0 y0_5.length c_v0, .slice a_v1 y0_6.length c_v1] 80 (0, 0)) :: vecC 3 1 a_v0 c_v0 y0_5.length cs_v0 :: vecC 4 1 a_v1 c_v1 y0_6.length cs_v1 :: R)) ?_ ?_
          · refine W.gen fun K116 hK116 => ?_
            refine W.cond hE rfl (fun hc117 => ?_) (fun hc117 => ?_)
            · replace hq106 := iteT hc117 hq106
              refine W.gen fun K118 hK118 => ?_
              refine W.regionE (sel (fun w => St w s (vecC 116 1 (some ⟨b51, 0, none⟩) 64 64 cs102 :: pt pb0 (.cells #[.int .i64 y0_0, .int .i64 y0_1, .slice a_y0_2 y0_2.length c_y0_2, .nilFunc, .func (.func 78) #[] #[], .slice a_v0 y0_5.length c_v0, .slice a_v1 y0_6.length c_v1] 80 (0, 0)) :: vecC 3 1 a_v0 c_v0 y0_5.length cs_v0 :: vecC 4 1 a_v1 c_v1 y0_6.length cs_v1 :: R)) (fun w => St w s (pt pb0 (.cells #[.int .i64 y0_0, .int .i64 y0_1, .slice a_y0_2 y0_2.length c_y0_2, .nilFunc, .func (.func 78) #[] #[], .slice a_v0 y0_5.length c_v0, .slice a_v1 y0_6.length c_v1] 80 (0, 0)) :: vecC 3 1 a_v0 c_v0 y0_5.length cs_v0 :: vecC 4 1 a_v1 c_v1 y0_6.length cs_v1 :: R))) (fun b i => cond b ([0, 1, 2, 3, 4, 5, 6, 7, 8, 9, 10, 11].contains i) ([0, 1, 2, 3, 4, 5, 6, 7, 8, 9, 10, 11, 12].contains i)) mixed ?_
              replace hS := hS.drew
              refine Rg.takeP (i := 0) hE rfl (by kernel_rfl) (runs_plain rfl) (Gives.p hE rfl) rfl (tw_sel (fun _ => hS) (fun _ => (hS.tail))) ?_; clear hE a; intro a hE
              refine Rg.takeP (i := 1) hE rfl (by kernel_rfl) (runs_plain rfl) (Gives.p hE rfl) rfl (tw_sel (fun _ => hS) (fun _ => (hS.tail))) ?_; clear hE a; intro a hE
              refine Rg.takeP (i := 2) hE rfl (by kernel_rfl) (runs_plain rfl) (Gives.p hE rfl) rfl (tw_sel (fun _ => hS) (fun _ => (hS.tail))) ?_; clear hE a; intro a hE
              refine Rg.takeP (i := 3) hE rfl (by kernel_rfl) (runs_plain rfl) (Gives.p hE rfl) rfl (tw_sel (fun _ => hS) (fun _ => (hS.tail))) ?_; clear hE a; intro a hE
              have hT := tw_sel (A := fun w => St w s (vecC 116 1 (some ⟨b51, 0, none⟩) 64 64 cs102 :: pt pb0 (.cells #[.int .i64 y0_0, .int .i64 y0_1, .slice a_y0_2 y0_2.length c_y0_2, .nilFunc, .func (.func 78) #[] #[], .slice a_v0 y0_5.length c_v0, .slice a_v1 y0_6.length c_v1] 80 (0, 0)) :: vecC 3 1 a_v0 c_v0 y0_5.length cs_v0 :: vecC 4 1 a_v1 c_v1 y0_6.length cs_v1 :: R)) (B := fun w => St w s (pt pb0 (.cells #[.int .i64 y0_0, .int .i64 y0_1, .slice a_y0_2 y0_2.length c_y0_2, .nilFunc, .func (.func 78) #[] #[], .slice a_v0 y0_5.length c_v0, .slice a_v1 y0_6.length c_v1] 80 (0, 0)) :: vecC 3 1 a_v0 c_v0 y0_5.length cs_v0 :: vecC 4 1 a_v1 c_v1 y0_6.length cs_v1 :: R)) (w := _) (x := true) (y := true) (fun _ => hS) (fun _ => (hS.tail))
              have hF := hS; replace hS := hS
              refine Rg.take (i := 4) true rfl hE rfl (by kernel_rfl) (runs_plain rfl) (Gives.nilOk hE rfl) rfl hT ?_; clear hE a; intro a hE
              replace hS := hF; clear hF hT
              refine Rg.takeP (i := 5) hE rfl (by kernel_rfl) (runs_plain rfl) (Gives.fld hE rfl fl80_0) rfl (tw_sel (fun _ => hS) (fun _ => (hS.tail))) ?_; clear hE a; intro a hE
              refine Rg.takeP (i := 6) hE rfl (by kernel_rfl) (runs_plain rfl) (Gives.fld hE rfl fl24_0) rfl (tw_sel (fun _ => hS) (fun _ => (hS.tail))) ?_; clear hE a; intro a hE
              have hT := tw_sel (A := fun w => St w s (vecC 116 1 (some ⟨b51, 0, none⟩) 64 64 cs102 :: pt pb0 (.cells #[.int .i64 y0_0, .int .i64 y0_1, .slice a_y0_2 y0_2.length c_y0_2, .nilFunc, .func (.func 78) #[] #[], .slice a_v0 y0_5.length c_v0, .slice a_v1 y0_6.length c_v1] 80 (0, 0)) :: vecC 3 1 a_v0 c_v0 y0_5.length cs_v0 :: vecC 4 1 a_v1 c_v1 y0_6.length cs_v1 :: R)) (B := fun w => St w s (pt pb0 (.cells #[.int .i64 y0_0, .int .i64 y0_1, .slice a_y0_2 y0_2.length c_y0_2, .nilFunc, .func (.func 78) #[] #[], .slice a_v0 y0_5.length c_v0, .slice a_v1 y0_6.length c_v1] 80 (0, 0)) :: vecC 3 1 a_v0 c_v0 y0_5.length cs_v0 :: vecC 4 1 a_v1 c_v1 y0_6.length cs_v1 :: R)) (w := _) (x := true) (y := true) (fun _ => hS) (fun _ => (hS.tail))
              have hF := hS; replace hS := hS
              refine Rg.take (i := 7) true rfl hE rfl (by kernel_rfl) (runs_plain rfl) (Gives.loadB hE 1 rfl rfl rfl ty3) rfl hT ?_; clear hE a; intro a hE
              replace hS := hF; clear hF hT
              refine Rg.takeP (i := 8) hE rfl (by kernel_rfl) (runs_plain rfl) (Gives.p hE rfl) rfl (tw_sel (fun _ => hS) (fun _ => (hS.tail))) ?_; clear hE a; intro a hE
              have hT := tw_sel (A := fun w => St w s (vecC 116 1 (some ⟨b51, 0, none⟩) 64 64 cs102 :: pt pb0 (.cells #[.int .i64 y0_0, .int .i64 y0_1, .slice a_y0_2 y0_2.length c_y0_2, .nilFunc, .func (.func 78) #[] #[], .slice a_v0 y0_5.length c_v0, .slice a_v1 y0_6.length c_v1] 80 (0, 0)) :: vecC 3 1 a_v0 c_v0 y0_5.length cs_v0 :: vecC 4 1 a_v1 c_v1 y0_6.length cs_v1 :: R)) (B := fun w => St w s (pt pb0 (.cells #[.int .i64 y0_0, .int .i64 y0_1, .slice a_y0_2 y0_2.length c_y0_2, .nilFunc, .func (.func 78) #[] #[], .slice a_v0 y0_5.length c_v0, .slice a_v1 y0_6.length c_v1] 80 (0, 0)) :: vecC 3 1 a_v0 c_v0 y0_5.length cs_v0 :: vecC 4 1 a_v1 c_v1 y0_6.length cs_v1 :: R)) (w := _) (x := true) (y := true) (fun _ => hS) (fun _ => (hS.tail))
              have hF := hS; replace hS := (hS.tail)
              refine Rg.take (i := 9) false rfl hE rfl (by kernel_rfl) (runs_plain rfl) (Gives.nilOk hE rfl) rfl hT ?_; clear hE a; intro a hE
              replace hS := hF; clear hF hT
              obtain ⟨_, hx119, hq106⟩ := bindS hq106
              obtain ⟨h120, h121⟩ := bx_some hx119
              refine Rg.takeP (i := 10) hE rfl (by kernel_rfl) (runs_plain rfl) (Gives.idxG hE ((q71).toNat) rfl rfl an116 h120 h121 (hS.vecAok 0 rfl (k := 0) (by decide)) rfl) rfl (tw_sel (fun _ => hS) (fun _ => (hS.tail))) ?_; clear hE a; intro a hE
              obtain ⟨_, hx122, hq106⟩ := bindS hq106
              obtain ⟨h123, h124⟩ := bx_some hx122
              refine Rg.takeP (i := 11) hE rfl (by kernel_rfl) (runs_plain rfl) (Gives.idxG hE ((q97).toNat) rfl rfl an81 h123 h124 ⟨_, _, rfl⟩ (by show ao (some ⟨b51, 0, none⟩) + (q71).toNat * 8 + (q97).toNat * 1 = ao (some ⟨b51, 0, none⟩) + ((q71 * 8 + q97)).toNat * 1; omega)) rfl (tw_sel (fun _ => hS) (fun _ => (hS.tail))) ?_; clear hE a; intro a hE
              refine Rg.one (i := 12) false true rfl (by kernel_rfl) (by kernel_rfl) (by kernel_rfl) ?_
              obtain ⟨x125, hx126, hq106⟩ := bindS hq106
              refine WL.setD hE hS 0 rfl (runs_plain rfl) rfl rfl (vs := [.int .i64 (w64 (y0_0 - 1))]) rfl ty3 rfl rfl rfl h101 hn103 (sx_some hx126).1 hx126 rfl rfl ?_; clear hE hS a w; intro cs127 a w h128 hn129 hE hS
              refine WL.nil ?_
              refine ⟨⟨fun h => absurd h (by decide), fun _ => (hS.tail)⟩, ?_⟩
              refine Rg.done (by kernel_rfl) ?_
              subst hK118
              subst hK116
              exact ⟨x125, cs127, Option.some.inj hq106, h128, hn129, hE.pick _ ⟨rfl, rfl, rfl, rfl, rfl, rfl, rfl, trivial⟩, hS⟩
            · replace hq106 := iteF hc117 hq106
              refine W.skip ?_
              subst hK116
              exact ⟨q98, cs102, Option.some.inj hq106, h101, hn103, hE.pick _ ⟨rfl, rfl, rfl, rfl, rfl, rfl, rfl, trivial⟩, hS⟩
          · clear hE hS a w; rintro a w ⟨q110, cs114, rfl, h113, hn115, hE, hS⟩
            refine W.region ?_
            refine WL.vS hS hE (runs_plain rfl) (Gives.p hE rfl) rfl ?_; clear hE a; intro a hE
            refine WL.vS hS hE (runs_plain rfl) (Gives.p hE rfl) rfl ?_; clear hE a; intro a hE
            refine WL.nil ?_
            subst hK104
            exact ⟨n93, Nat.lt_succ_self _, n93, (w64 (q97 + 1)), q110, cs114, rfl, hq91, h113, hn115, hE.pick _ ⟨rfl, rfl, rfl, rfl, rfl, rfl, rfl, trivial⟩, hS⟩
        · replace hq91 := iteF hc105 hq91
          subst hK104
          refine W.exit rfl ?_
          exact ⟨q97, q98, cs102, Option.some.inj hq91, h101, hn103, hE.pick _ ⟨rfl, rfl, rfl, rfl, rfl, trivial⟩, hS⟩
      · clear hE hS a w; rintro a w ⟨q97, q98, cs102, rfl, h101, hn103, hE, hS⟩
        dsimp only at hq65
        refine W.region ?_
        refine WL.vS hS hE (runs_plain rfl) (Gives.p hE rfl) rfl ?_; clear hE a; intro a hE
        refine WL.vS hS hE (runs_plain rfl) (Gives.p hE rfl) rfl ?_; clear hE a; intro a hE
        refine WL.vS hS hE (runs_plain rfl) (Gives.nilOk hE rfl) rfl ?_; clear hE a; intro a hE
        obtain ⟨_, hx130, hq65⟩ := bindS hq65
        obtain ⟨h131, h132⟩ := bx_some hx130
        refine WL.vS hS hE (runs_plain rfl) (Gives.idxG hE ((q71).toNat) rfl rfl an116 h131 h132 (hS.vecAok 0 rfl (k := 0) (by decide)) rfl) rfl ?_; clear hE a; intro a hE
        obtain ⟨_, hx133, hq65⟩ := bindS hq65
        obtain ⟨h134, h135⟩ := bx_some hx133
        refine WL.vS hS hE (runs_plain rfl) (Gives.idxG hE (((0 : Int)).toNat) rfl rfl an81 h134 h135 ⟨_, _, rfl⟩ (by show ao (some ⟨b51, 0, none⟩) + (q71).toNat * 8 + ((0 : Int)).toNat * 1 = ao (some ⟨b51, 0, none⟩) + ((q71 * 8 + 0)).toNat * 1; omega)) rfl ?_; clear hE a; intro a hE
        obtain ⟨x136, hx137, hq65⟩ := bindS hq65
        refine WL.setD hE hS 0 rfl (runs_plain rfl) rfl rfl (vs := [.int .i64 0]) rfl ty3 rfl rfl rfl h101 hn103 (sx_some hx137).1 hx137 rfl rfl ?_; clear hE hS a w; intro cs138 a w h139 hn140 hE hS
        refine WL.nil ?_
        refine W.region ?_
        refine WL.vS hS hE (runs_plain rfl) (Gives.p hE rfl) rfl ?_; clear hE a; intro a hE
        refine WL.vS hS hE (runs_plain rfl) (Gives.p hE rfl) rfl ?_; clear hE a; intro a hE
        refine WL.nil ?_
        subst hK78
        exact ⟨n67, Nat.lt_succ_self _, n67, (w64 (q71 + 1)), x136, cs138, rfl, hq65, h139, hn140, hE.pick _ ⟨rfl, rfl, rfl, rfl, trivial⟩, hS⟩
    · replace hq65 := iteF hc79 hq65
      subst hK78
      refine W.exit rfl ?_
      exact ⟨q71, q72, cs76, Option.some.inj hq65, h75, hn77, hE.pick _ ⟨rfl, trivial⟩, hS⟩
  · clear hE hS a w; rintro a w ⟨q71, q72, cs76, rfl, h75, hn77, hE, hS⟩
    dsimp only at hr
    refine W.seq ?_
    refine W.region ?_
    refine WL.vS hS hE (runs_plain rfl) (Gives.p hE rfl) rfl ?_; clear hE a; intro a hE
    refine WL.vS hS hE (runs_plain rfl) (Gives.p hE rfl) rfl ?_; clear hE a; intro a hE
    refine WL.nil ?_
    refine W.ret ?_
    have hF := hS.fixA 0 rfl h75 hn77 (by decide); clear hS; obtain ⟨s141, hle142, hS, h143⟩ := hF
    replace h_y0_2 := Sl.mono RPlanRule.mono hle142 h_y0_2
    replace h_v0 := Ev.mono RI.mono hle142 h_v0
    replace h_v1 := Ev.mono RB.mono hle142 h_v1
    refine finG (fn := Try.f53) (rs := [.tmp 2]) (vs := [_]) hE rfl ⟨rfl, trivial⟩ ?_
    obtain rfl := Option.some.inj hr
    exact ⟨(some ⟨b51, 0, none⟩), s141, rfl, hle142, h143, hS⟩
set_option maxHeartbeats 8000000 in
theorem Plansolve_1_v1_ok  {w : World} {s : Sg} {R : List HP} {pb0 : Nat} {pb1 : Nat} {x0 : Option (List Int)} {a0 : Option Addr} {y0 : Int} {y1 : Int} (hS : St w s (pt pb0 (.cells #[.int .i64 y0] 3 (0, 0)) :: pt pb1 (.cells #[.int .i64 y1] 3 (0, 0)) :: R)) (h0 : Pt 64 (RA .i64 64) s a0 x0) {r : Bool} (hr : Plansolve_1_v1 x0 y0 y1 = some r) :
    Calls Try.prog 70 [.pointer a0, .pointer (some ⟨pb0, 0, none⟩), .pointer (some ⟨pb1, 0, none⟩)].toArray w (fun e w => e = .returned (.bool r) ∧ St w s (pt pb0 (.cells #[.int .i64 y0] 3 (0, 0)) :: pt pb1 (.cells #[.int .i64 y1] 3 (0, 0)) :: R)) := by
  refine enter Try.func70 rfl rfl rfl fun a hE => ?_
  rw [Plansolve_1_v1] at hr
  refine W.seq ?_
  refine W.region ?_
  refine WL.vS hS hE (runs_plain rfl) (Gives.p hE rfl) rfl ?_; clear hE a; intro a hE
  refine WL.nil ?_
  refine W.seq ?_
  refine W.regionQ (C := fun w => St w s (pt pb0 (.cells #[.int .i64 y0] 3 (0, 0)) :: pt pb1 (.cells #[.int .i64 y1] 3 (0, 0)) :: R)) mixed (by kernel_rfl) hS.drew ?_
  refine QL.v hE (runs_plain rfl) (Gives.p hE rfl) rfl ?_; clear hE a; intro a hE
  refine QL.v hE (runs_plain rfl) (Gives.loadB hE 0 rfl rfl rfl ty3) rfl ?_; clear hE a; intro a hE
  obtain ⟨x51, hx52, hr⟩ := bindS hr
  obtain ⟨b53, o54, cs55, rfl, hl56, hR57, hat58⟩ := h0.at hx52
  obtain ⟨rfl, hl59⟩ := hR57
  refine QL.v hE (runs_plain rfl) (Gives.nilOk hE rfl) rfl ?_; clear hE a; intro a hE
  obtain ⟨_, hx60, hr⟩ := bindS hr
  obtain ⟨h61, h62⟩ := bx_some hx60
  refine QL.v hE (runs_plain rfl) (Gives.idxG hE ((y0).toNat) rfl rfl an116 h61 h62 ⟨_, _, rfl⟩ rfl) rfl ?_; clear hE a; intro a hE
  obtain ⟨_, hx63, hr⟩ := bindS hr
  obtain ⟨h64, h65⟩ := bx_some hx63
  obtain ⟨x66, hx67, hr⟩ := bindS hr
  obtain ⟨hi68, hlt69, hy70⟩ := gx_some hx67
  refine QL.v hE (runs_plain rfl) (Gives.idxG hE (((0 : Int)).toNat) rfl rfl an81 h64 h65 ⟨_, _, rfl⟩ (by show ao (some ⟨b53, o54, none⟩) + (y0).toNat * 8 + ((0 : Int)).toNat * 1 = ao (some ⟨b53, o54, none⟩) + ((y0 * 8 + 0)).toNat; omega)) rfl ?_; clear hE a; intro a hE
  refine QL.v hE (runs_plain rfl) (Gives.load1 hE rfl (fun w h => Sees.cell1 (hat58 w _ h) hy70) ty3) rfl ?_; clear hE a; intro a hE
  refine QL.v hE (runs_plain rfl) (Gives.p hE rfl) rfl ?_; clear hE a; intro a hE
  refine QL.v hE (runs_plain rfl) (Gives.loadB hE 1 rfl rfl rfl ty3) rfl ?_; clear hE a; intro a hE
  refine QL.v hE (runs_plain rfl) (Gives.p hE rfl) rfl ?_; clear hE a; intro a hE
  refine QL.v hE (runs_plain rfl) (Gives.p hE rfl) rfl ?_; clear hE a; intro a hE
  refine QL.nil ?_; clear hS w; intro w hS
  refine W.ret ?_
  refine finG (fn := Try.f70) (rs := [.tmp 4]) (vs := [_]) hE rfl ⟨rfl, trivial⟩ ?_
  obtain rfl := Option.some.inj hr
  exact ⟨rfl, hS⟩
set_option maxHeartbeats 8000000 in
theorem PlanSearchchoices_v2_ok {fu : Nat}  {w : World} {s : Sg} {R : List HP} {pb0 : Nat} {pb1 : Nat} {pb2 : Nat} {x1 : Option (List Int)} {a1 : Option Addr} {x2 : PlanRule} {y0_0 : Int} {y0_1 : Int} {y0_2 : List PlanRule} {a_y0_2 : Option Addr} {c_y0_2 : Nat} {y0_5 : List Int} {a_v0 : Option Addr} {c_v0 n_v0 : Nat} {cs_v0 : List Value} {y0_6 : List Bool} {a_v1 : Option Addr} {c_v1 n_v1 : Nat} {cs_v1 : List Value} {y1 : Int} {y2 : Int} (hS : St w s (pt pb0 (.cells #[.int .i64 y0_0, .int .i64 y0_1, .slice a_y0_2 y0_2.length c_y0_2, .func (.func 71) #[] #[.pointer (some ⟨pb1, 0, none⟩), .pointer (some ⟨pb2, 0, none⟩)], .func (.func 70) #[] #[.pointer (some ⟨pb1, 0, none⟩), .pointer (some ⟨pb2, 0, none⟩)], .slice a_v0 n_v0 c_v0, .slice a_v1 n_v1 c_v1] 80 (0, 0)) :: pt pb1 (.cells #[.int .i64 y1] 3 (0, 0)) :: pt pb2 (.cells #[.int .i64 y2] 3 (0, 0)) :: vecC 3 1 a_v0 c_v0 n_v0 cs_v0 :: vecC 4 1 a_v1 c_v1 n_v1 cs_v1 :: R)) (h1 : Pt 64 (RA .i64 64) s a1 x1) (_h_y0_2 : Sl 5 RPlanRule s a_y0_2 c_y0_2 y0_2) (_h_v0 : Ev 1 (RI .i64) s cs_v0 y0_5) (hn_v0 : y0_5.length = n_v0) (_h_v1 : Ev 1 RB s cs_v1 y0_6) (hn_v1 : y0_6.length = n_v1) {r : (List Int)} (hr : PlanSearchchoices_v2 fu x1 x2 y0_0 y0_1 y0_2 y0_5 y0_6 y1 y2 = some r) :
    Calls Try.prog 82 [.pointer (some ⟨pb0, 0, none⟩), .pointer a1, .agg (PlanRule.cells x2).toArray].toArray w (fun e w => ∃ (a0 : Option Addr) (c0 n0 : Nat) (cs0 : List Value), e = .returned (.slice a0 n0 c0) ∧ Ev 1 (RI .i64) s cs0 r ∧ r.length = n0 ∧ St w s (vecC 3 1 a0 c0 n0 cs0 :: pt pb0 (.cells #[.int .i64 y0_0, .int .i64 y0_1, .slice a_y0_2 y0_2.length c_y0_2, .func (.func 71) #[] #[.pointer (some ⟨pb1, 0, none⟩), .pointer (some ⟨pb2, 0, none⟩)], .func (.func 70) #[] #[.pointer (some ⟨pb1, 0, none⟩), .pointer (some ⟨pb2, 0, none⟩)], .slice a_v0 n_v0 c_v0, .slice a_v1 n_v1 c_v1] 80 (0, 0)) :: pt pb1 (.cells #[.int .i64 y1] 3 (0, 0)) :: pt pb2 (.cells #[.int .i64 y2] 3 (0, 0)) :: vecC 3 1 a_v0 c_v0 n_v0 cs_v0 :: vecC 4 1 a_v1 c_v1 n_v1 cs_v1 :: R)) := by
  refine enter Try.func82 rfl rfl rfl fun a hE => ?_
  rw [PlanSearchchoices_v2] at hr
  subst hn_v0
  subst hn_v1
  refine W.seq ?_
  refine W.region ?_
  refine WL.box hE hS (runs_plain rfl) rfl rfl rfl ?_; clear hE hS a w; intro b51 a w hE hS
  refine WL.vS hS hE (runs_plain rfl) (Gives.p hE rfl) rfl ?_; clear hE a; intro a hE
  refine WL.nil ?_
  refine W.seq ?_
  refine W.region ?_
  replace hS := hS.vecNil 3 1
  refine WL.vS hS hE (runs_plain rfl) (Gives.p hE rfl) rfl ?_; clear hE a; intro a hE
  refine WL.nil ?_
  refine W.seq ?_
  refine W.regionQ (C := fun w => St w s (vecC 3 1 none 0 0 [] :: pt b51 (.cells (PlanRule.cells x2).toArray 37 (0, 0)) :: pt pb0 (.cells #[.int .i64 y0_0, .int .i64 y0_1, .slice a_y0_2 y0_2.length c_y0_2, .func (.func 71) #[] #[.pointer (some ⟨pb1, 0, none⟩), .pointer (some ⟨pb2, 0, none⟩)], .func (.func 70) #[] #[.pointer (some ⟨pb1, 0, none⟩), .pointer (some ⟨pb2, 0, none⟩)], .slice a_v0 y0_5.length c_v0, .slice a_v1 y0_6.length c_v1] 80 (0, 0)) :: pt pb1 (.cells #[.int .i64 y1] 3 (0, 0)) :: pt pb2 (.cells #[.int .i64 y2] 3 (0, 0)) :: vecC 3 1 a_v0 c_v0 y0_5.length cs_v0 :: vecC 4 1 a_v1 c_v1 y0_6.length cs_v1 :: R)) mixed (by kernel_rfl) hS.drew ?_
  refine QL.v hE (runs_plain rfl) (Gives.p hE rfl) rfl ?_; clear hE a; intro a hE
  refine QL.v hE (runs_plain rfl) (Gives.fld hE rfl fl37_0) rfl ?_; clear hE a; intro a hE
  refine QL.v hE (runs_plain rfl) (Gives.loadB hE 1 rfl rfl rfl ty3) rfl ?_; clear hE a; intro a hE
  refine QL.v hE (runs_plain rfl) (Gives.fld hE rfl fl37_1) rfl ?_; clear hE a; intro a hE
  refine QL.v hE (runs_plain rfl) (Gives.loadB hE 1 rfl rfl rfl ty3) rfl ?_; clear hE a; intro a hE
  obtain ⟨x53, hx54, hr⟩ := bindS hr
  obtain ⟨b55, o56, cs57, rfl, hl58, hR59, hat60⟩ := h1.at hx54
  obtain ⟨rfl, hl61⟩ := hR59
  refine QL.v hE (runs_plain rfl) (Gives.nilOk hE rfl) rfl ?_; clear hE a; intro a hE
  obtain ⟨_, hx62, hr⟩ := bindS hr
  obtain ⟨h63, h64⟩ := bx_some hx62
  refine QL.v hE (runs_plain rfl) (Gives.idxG hE ((x2.From).toNat) rfl rfl an116 h63 h64 ⟨_, _, rfl⟩ rfl) rfl ?_; clear hE a; intro a hE
  obtain ⟨_, hx65, hr⟩ := bindS hr
  obtain ⟨h66, h67⟩ := bx_some hx65
  obtain ⟨x68, hx69, hr⟩ := bindS hr
  obtain ⟨hi70, hlt71, hy72⟩ := gx_some hx69
  refine QL.v hE (runs_plain rfl) (Gives.idxG hE ((x2.To).toNat) rfl rfl an81 h66 h67 ⟨_, _, rfl⟩ (by show ao (some ⟨b55, o56, none⟩) + (x2.From).toNat * 8 + (x2.To).toNat * 1 = ao (some ⟨b55, o56, none⟩) + ((x2.From * 8 + x2.To)).toNat; omega)) rfl ?_; clear hE a; intro a hE
  refine QL.v hE (runs_plain rfl) (Gives.load1 hE rfl (fun w h => Sees.cell1 (hat60 w _ h) hy72) ty3) rfl ?_; clear hE a; intro a hE
  refine QL.v hE (runs_plain rfl) (Gives.fld hE rfl fl37_2) rfl ?_; clear hE a; intro a hE
  refine QL.v hE (runs_plain rfl) (Gives.loadB hE 1 rfl rfl rfl ty3) rfl ?_; clear hE a; intro a hE
  refine QL.v hE (runs_plain rfl) (Gives.p hE rfl) rfl ?_; clear hE a; intro a hE
  refine QL.v hE (runs_plain rfl) (Gives.p hE rfl) rfl ?_; clear hE a; intro a hE
  refine QL.v hE (runs_plain rfl) (Gives.nilOk hE rfl) rfl ?_; clear hE a; intro a hE
  refine QL.v hE (runs_plain rfl) (Gives.fld hE rfl fl80_0) rfl ?_; clear hE a; intro a hE
  refine QL.v hE (runs_plain rfl) (Gives.fld hE rfl fl24_0) rfl ?_; clear hE a; intro a hE
  refine QL.v hE (runs_plain rfl) (Gives.loadB hE 2 rfl rfl rfl ty3) rfl ?_; clear hE a; intro a hE
  obtain ⟨q73, hq74, hr⟩ := bindS hr
  refine QL.fnq hE (fun w hS => Planfloor_ok hS  hq74) (runs_plain rfl) bd91 rfl rfl rfl ?_; clear hE a; intro a hE
  refine QL.v hE (runs_plain rfl) (Gives.p hE rfl) rfl ?_; clear hE a; intro a hE
  refine QL.v hE (runs_plain rfl) (Gives.p hE rfl) rfl ?_; clear hE a; intro a hE
  refine QL.nil ?_; clear hS w; intro w hS
  refine W.seq ?_
  refine W.seq ?_
  refine W.region ?_
  refine WL.vS hS hE (runs_plain rfl) (Gives.p hE rfl) rfl ?_; clear hE a; intro a hE
  refine WL.vS hS hE (runs_plain rfl) (Gives.p hE rfl) rfl ?_; clear hE a; intro a hE
  refine WL.nil ?_
  obtain ⟨q76, hq75, hr⟩ := bindS hr
  refine W.cut (fun a w => ∃ (q81 : List Int), ∃ (q88 : Int), ∃ (a82 : Option Addr), ∃ (c83 : Nat), ∃ (n85 : Nat), ∃ (cs86 : List Value), (q81, q88) = q76 ∧ Ev 1 (RI .i64) s cs86 q81 ∧ q81.length = n85 ∧ Rep a 58 [(7, .slice a82 n85 c83)] ∧ St w s (vecC 3 1 a82 c83 n85 cs86 :: pt b51 (.cells (PlanRule.cells x2).toArray 37 (0, 0)) :: pt pb0 (.cells #[.int .i64 y0_0, .int .i64 y0_1, .slice a_y0_2 y0_2.length c_y0_2, .func (.func 71) #[] #[.pointer (some ⟨pb1, 0, none⟩), .pointer (some ⟨pb2, 0, none⟩)], .func (.func 70) #[] #[.pointer (some ⟨pb1, 0, none⟩), .pointer (some ⟨pb2, 0, none⟩)], .slice a_v0 y0_5.length c_v0, .slice a_v1 y0_6.length c_v1] 80 (0, 0)) :: pt pb1 (.cells #[.int .i64 y1] 3 (0, 0)) :: pt pb2 (.cells #[.int .i64 y2] 3 (0, 0)) :: vecC 3 1 a_v0 c_v0 y0_5.length cs_v0 :: vecC 4 1 a_v1 c_v1 y0_6.length cs_v1 :: R)) ?_ ?_
  · refine W.block ?_
    refine W.loop (fun m a w => ∃ (n77 : Nat), ∃ (q81 : List Int), ∃ (q88 : Int), ∃ (a82 : Option Addr), ∃ (c83 : Nat), ∃ (n85 : Nat), ∃ (cs86 : List Value), n77 = m ∧ PlanSearchchoices_v2.loop1 x2 y0_0 x53 n77 q81 q88 = some q76 ∧ Ev 1 (RI .i64) s cs86 q81 ∧ q81.length = n85 ∧ Rep a 58 [(0, .pointer (some ⟨pb0, 0, none⟩)), (1, .pointer (some ⟨b55, o56, none⟩)), (5, .pointer (some ⟨b51, 0, none⟩)), (7, .slice a82 n85 c83), (9, .int .i64 q88)] ∧ St w s (vecC 3 1 a82 c83 n85 cs86 :: pt b51 (.cells (PlanRule.cells x2).toArray 37 (0, 0)) :: pt pb0 (.cells #[.int .i64 y0_0, .int .i64 y0_1, .slice a_y0_2 y0_2.length c_y0_2, .func (.func 71) #[] #[.pointer (some ⟨pb1, 0, none⟩), .pointer (some ⟨pb2, 0, none⟩)], .func (.func 70) #[] #[.pointer (some ⟨pb1, 0, none⟩), .pointer (some ⟨pb2, 0, none⟩)], .slice a_v0 y0_5.length c_v0, .slice a_v1 y0_6.length c_v1] 80 (0, 0)) :: pt pb1 (.cells #[.int .i64 y1] 3 (0, 0)) :: pt pb2 (.cells #[.int .i64 y2] 3 (0, 0)) :: vecC 3 1 a_v0 c_v0 y0_5.length cs_v0 :: vecC 4 1 a_v1 c_v1 y0_6.length cs_v1 :: R)) (m := fu) ⟨fu, [], (w64 (0 - q73)), none, 0, 0, [], rfl, hq75, (Ev.nil), (rfl), hE.pick _ ⟨rfl, rfl, rfl, rfl, rfl, trivial⟩, hS⟩ ?_
    clear hE hS a w hq75; rintro m78 a w ⟨n77, q81, q88, a82, c83, n85, cs86, rfl, hq75, h84, rfl, hE, hS⟩
    refine W.gen fun K89 hK89 => ?_
    rcases n77 with _ | n77
    · rw [PlanSearchchoices_v2.loop1] at hq75; exact absurd hq75 (by simp)
    rw [PlanSearchchoices_v2.loop1] at hq75
    refine W.seq ?_
    refine W.seq ?_
    refine W.regionQ (C := fun w => St w s (vecC 3 1 a82 c83 q81.length cs86 :: pt b51 (.cells (PlanRule.cells x2).toArray 37 (0, 0)) :: pt pb0 (.cells #[.int .i64 y0_0, .int .i64 y0_1, .slice a_y0_2 y0_2.length c_y0_2, .func (.func 71) #[] #[.pointer (some ⟨pb1, 0, none⟩), .pointer (some ⟨pb2, 0, none⟩)], .func (.func 70) #[] #[.pointer (some ⟨pb1, 0, none⟩), .pointer (some ⟨pb2, 0, none⟩)], .slice a_v0 y0_5.length c_v0, .slice a_v1 y0_6.length c_v1] 80 (0, 0)) :: pt pb1 (.cells #[.int .i64 y1] 3 (0, 0)) :: pt pb2 (.cells #[.int .i64 y2] 3 (0, 0)) :: vecC 3 1 a_v0 c_v0 y0_5.length cs_v0 :: vecC 4 1 a_v1 c_v1 y0_6.length cs_v1 :: R)) mixed (by kernel_rfl) hS.drew ?_
    refine QL.v hE (runs_plain rfl) (Gives.fld hE rfl fl37_3) rfl ?_; clear hE a; intro a hE
    refine QL.v hE (runs_plain rfl) (Gives.loadB hE 1 rfl rfl rfl ty3) rfl ?_; clear hE a; intro a hE
    refine QL.v hE (runs_plain rfl) (Gives.p hE rfl) rfl ?_; clear hE a; intro a hE
    refine QL.v hE (runs_plain rfl) (Gives.p hE rfl) rfl ?_; clear hE a; intro a hE
    refine QL.v hE (runs_plain rfl) (Gives.nilOk hE rfl) rfl ?_; clear hE a; intro a hE
    refine QL.v hE (runs_plain rfl) (Gives.fld hE rfl fl80_0) rfl ?_; clear hE a; intro a hE
    refine QL.v hE (runs_plain rfl) (Gives.fld hE rfl fl24_0) rfl ?_; clear hE a; intro a hE
    refine QL.v hE (runs_plain rfl) (Gives.loadB hE 2 rfl rfl rfl ty3) rfl ?_; clear hE a; intro a hE
    refine QL.v hE (runs_plain rfl) (Gives.p hE rfl) rfl ?_; clear hE a; intro a hE
    refine QL.v hE (runs_plain rfl) (Gives.p hE rfl) rfl ?_; clear hE a; intro a hE
    refine QL.v hE (runs_plain rfl) (Gives.p hE rfl) rfl ?_; clear hE a; intro a hE
    refine QL.v hE (runs_plain rfl) (Gives.fld hE rfl fl37_1) rfl ?_; clear hE a; intro a hE
    refine QL.v hE (runs_plain rfl) (Gives.loadB hE 1 rfl rfl rfl ty3) rfl ?_; clear hE a; intro a hE
    refine QL.v hE (runs_plain rfl) (Gives.fld hE rfl fl37_0) rfl ?_; clear hE a; intro a hE
    refine QL.v hE (runs_plain rfl) (Gives.loadB hE 1 rfl rfl rfl ty3) rfl ?_; clear hE a; intro a hE
    refine QL.v hE (runs_plain rfl) (Gives.nilOk hE rfl) rfl ?_; clear hE a; intro a hE
    obtain ⟨_, hx90, hq75⟩ := bindS hq75
    obtain ⟨h91, h92⟩ := bx_some hx90
    refine QL.v hE (runs_plain rfl) (Gives.idxG hE ((x2.To).toNat) rfl rfl an116 h91 h92 ⟨_, _, rfl⟩ rfl) rfl ?_; clear hE a; intro a hE
    obtain ⟨_, hx93, hq75⟩ := bindS hq75
    obtain ⟨h94, h95⟩ := bx_some hx93
    obtain ⟨x96, hx97, hq75⟩ := bindS hq75
    obtain ⟨hi98, hlt99, hy100⟩ := gx_some hx97
    refine QL.v hE (runs_plain rfl) (Gives.idxG hE ((x2.From).toNat) rfl rfl an81 h94 h95 ⟨_, _, rfl⟩ (by show ao (some ⟨b55, o56, none⟩) + (x2.To).toNat * 8 + (x2.From).toNat * 1 = ao (some ⟨b55, o56, none⟩) + ((x2.To * 8 + x2.From)).toNat; omega)) rfl ?_; clear hE a; intro a hE
    refine QL.v hE (runs_plain rfl) (Gives.load1 hE rfl (fun w h => Sees.cell1 (hat60 w _ h) hy100) ty3) rfl ?_; clear hE a; intro a hE
    refine QL.v hE (runs_plain rfl) (Gives.p hE rfl) rfl ?_; clear hE a; intro a hE
    refine QL.v hE (runs_plain rfl) (Gives.p hE rfl) rfl ?_; clear hE a; intro a hE
    refine QL.nil ?_; clear hS w; intro w hS
    refine W.cond hE rfl (fun hc101 => ?_) (fun hc101 => ?_)
    · replace hq75 := iteT hc101 hq75
      refine W.skip ?_
      refine W.seq ?_
      refine W.block ?_
      refine W.region ?_
      refine WL.vS hS hE (runs_plain rfl) (Gives.p hE rfl) rfl ?_; clear hE a; intro a hE
      refine WL.vS hS hE (runs_plain rfl) (Gives.p hE rfl) rfl ?_; clear hE a; intro a hE
      refine WL.lit hE hS (e := 3) (es := 1) (vs := [(0, .int .i64 q88)]) (cs := [.int .i64 q88]) (runs_plain rfl) rfl (by kernel_rfl) rfl ?_; clear hE hS a w; intro b102 a w hE hS
      obtain ⟨x103, hx104, hq75⟩ := bindS hq75
      refine WL.appD hE hS 0 (m := 1) (runs_plain rfl) rfl rfl rfl ap29 rfl h84 rfl (xs := [q88]) (Ev.cons (c1 := [.int .i64 q88]) rfl rfl (Ev.nil)) rfl rfl hx104 rfl ?_; clear hE hS a w; intro a105 c106 cs107 a w h108 hE hS
      refine WL.vS hS hE (runs_plain rfl) (Gives.p hE rfl) rfl ?_; clear hE a; intro a hE
      refine WL.nil ?_
      refine W.region ?_
      refine WL.vS hS hE (runs_plain rfl) (Gives.p hE rfl) rfl ?_; clear hE a; intro a hE
      refine WL.vS hS hE (runs_plain rfl) (Gives.p hE rfl) rfl ?_; clear hE a; intro a hE
      refine WL.vS hS hE (runs_plain rfl) (Gives.p hE rfl) rfl ?_; clear hE a; intro a hE
      refine WL.nil ?_
      subst hK89
      exact ⟨n77, Nat.lt_succ_self _, n77, x103, (w64 (q88 + 1)), a105, c106, x103.length, cs107, rfl, hq75, h108, (rfl), hE.pick _ ⟨rfl, rfl, rfl, rfl, rfl, trivial⟩, hS⟩
    · replace hq75 := iteF hc101 hq75
      subst hK89
      refine W.exit rfl ?_
      exact ⟨q81, q88, a82, c83, q81.length, cs86, Option.some.inj hq75, h84, rfl, hE.pick _ ⟨rfl, trivial⟩, hS⟩
  · clear hE hS a w; rintro a w ⟨q81, q88, a82, c83, n85, cs86, rfl, h84, rfl, hE, hS⟩
    dsimp only at hr
    refine W.seq ?_
    refine W.region ?_
    refine WL.vS hS hE (runs_plain rfl) (Gives.p hE rfl) rfl ?_; clear hE a; intro a hE
    refine WL.vS hS hE (runs_plain rfl) (Gives.p hE rfl) rfl ?_; clear hE a; intro a hE
    refine WL.nil ?_
    refine W.ret ?_
    refine finG (fn := Try.f82) (rs := [.tmp 6]) (vs := [_]) hE rfl ⟨rfl, trivial⟩ ?_
    obtain rfl := Option.some.inj hr
    replace hS := hS.dropAt 1
    exact ⟨a82, c83, q81.length, cs86, rfl, h84, rfl, hS⟩
set_option maxHeartbeats 8000000 in
theorem Plansolve_2_v1_ok  {w : World} {s : Sg} {R : List HP} {pb0 : Nat} {pb1 : Nat} {x0 : Option (List Int)} {a0 : Option Addr} {x1 : List Int} {a1 : Option Addr} {c1 : Nat} {y0 : Int} {y1 : Int} (hS : St w s (pt pb0 (.cells #[.int .i64 y0] 3 (0, 0)) :: pt pb1 (.cells #[.int .i64 y1] 3 (0, 0)) :: R)) (h0 : Pt 64 (RA .i64 64) s a0 x0) (_h1 : Sl 1 (RI .i64) s a1 c1 x1) {r : Int} (hr : Plansolve_2_v1 x0 x1 y0 y1 = some r) :
    Calls Try.prog 71 [.pointer a0, .slice a1 x1.length c1, .pointer (some ⟨pb0, 0, none⟩), .pointer (some ⟨pb1, 0, none⟩)].toArray w (fun e w => e = .returned (.tuple #[]) ∧ St w s (pt pb0 (.cells #[.int .i64 y0] 3 (0, 0)) :: pt pb1 (.cells #[.int .i64 r] 3 (0, 0)) :: R)) := by
  refine enter Try.func71 rfl rfl rfl fun a hE => ?_
  rw [Plansolve_2_v1] at hr
  refine W.gen fun K52 hK52 => ?_
  refine W.regionE (sel (fun w => St w s (pt pb0 (.cells #[.int .i64 y0] 3 (0, 0)) :: pt pb1 (.cells #[.int .i64 y1] 3 (0, 0)) :: R)) (fun w => St w s (pt pb0 (.cells #[.int .i64 y0] 3 (0, 0)) :: R))) (fun b i => cond b ([0, 1, 2, 3, 4, 5, 6].contains i) ([0, 1, 2, 3, 4, 5, 6, 7].contains i)) mixed ?_
  replace hS := hS.drew
  refine Rg.takeP (i := 0) hE rfl (by kernel_rfl) (runs_plain rfl) (Gives.p hE rfl) rfl (tw_sel (fun _ => hS) (fun _ => (hS.dropAt 1))) ?_; clear hE a; intro a hE
  have hT := tw_sel (A := fun w => St w s (pt pb0 (.cells #[.int .i64 y0] 3 (0, 0)) :: pt pb1 (.cells #[.int .i64 y1] 3 (0, 0)) :: R)) (B := fun w => St w s (pt pb0 (.cells #[.int .i64 y0] 3 (0, 0)) :: R)) (w := _) (x := true) (y := true) (fun _ => hS) (fun _ => (hS.dropAt 1))
  have hF := hS; replace hS := hS
  refine Rg.take (i := 1) true rfl hE rfl (by kernel_rfl) (runs_plain rfl) (Gives.loadB hE 0 rfl rfl rfl ty3) rfl hT ?_; clear hE a; intro a hE
  replace hS := hF; clear hF hT
  have hT := tw_sel (A := fun w => St w s (pt pb0 (.cells #[.int .i64 y0] 3 (0, 0)) :: pt pb1 (.cells #[.int .i64 y1] 3 (0, 0)) :: R)) (B := fun w => St w s (pt pb0 (.cells #[.int .i64 y0] 3 (0, 0)) :: R)) (w := _) (x := true) (y := true) (fun _ => hS) (fun _ => (hS.dropAt 1))
  have hF := hS; replace hS := hS
  obtain ⟨x53, hx54, hr⟩ := bindS hr
  obtain ⟨b55, o56, cs57, rfl, hl58, hR59, hat60⟩ := h0.at hx54
  obtain ⟨rfl, hl61⟩ := hR59
  refine Rg.take (i := 2) true rfl hE rfl (by kernel_rfl) (runs_plain rfl) (Gives.nilOk hE rfl) rfl hT ?_; clear hE a; intro a hE
  replace hS := hF; clear hF hT
  obtain ⟨_, hx62, hr⟩ := bindS hr
  obtain ⟨h63, h64⟩ := bx_some hx62
  refine Rg.takeP (i := 3) hE rfl (by kernel_rfl) (runs_plain rfl) (Gives.idxG hE ((y0).toNat) rfl rfl an116 h63 h64 ⟨_, _, rfl⟩ rfl) rfl (tw_sel (fun _ => hS) (fun _ => (hS.dropAt 1))) ?_; clear hE a; intro a hE
  obtain ⟨_, hx65, hr⟩ := bindS hr
  obtain ⟨h66, h67⟩ := bx_some hx65
  obtain ⟨x68, hx69, hr⟩ := bindS hr
  obtain ⟨hi70, hlt71, hy72⟩ := gx_some hx69
  refine Rg.takeP (i := 4) hE rfl (by kernel_rfl) (runs_plain rfl) (Gives.idxG hE (((0 : Int)).toNat) rfl rfl an81 h66 h67 ⟨_, _, rfl⟩ (by show ao (some ⟨b55, o56, none⟩) + (y0).toNat * 8 + ((0 : Int)).toNat * 1 = ao (some ⟨b55, o56, none⟩) + ((y0 * 8 + 0)).toNat; omega)) rfl (tw_sel (fun _ => hS) (fun _ => (hS.dropAt 1))) ?_; clear hE a; intro a hE
  have hT := tw_sel (A := fun w => St w s (pt pb0 (.cells #[.int .i64 y0] 3 (0, 0)) :: pt pb1 (.cells #[.int .i64 y1] 3 (0, 0)) :: R)) (B := fun w => St w s (pt pb0 (.cells #[.int .i64 y0] 3 (0, 0)) :: R)) (w := _) (x := true) (y := true) (fun _ => hS) (fun _ => (hS.dropAt 1))
  have hF := hS; replace hS := hS
  refine Rg.take (i := 5) true rfl hE rfl (by kernel_rfl) (runs_plain rfl) (Gives.load1 hE rfl (fun w h => Sees.cell1 (hat60 w _ h) hy72) ty3) rfl hT ?_; clear hE a; intro a hE
  replace hS := hF; clear hF hT
  refine Rg.takeP (i := 6) hE rfl (by kernel_rfl) (runs_plain rfl) (Gives.p hE rfl) rfl (tw_sel (fun _ => hS) (fun _ => (hS.dropAt 1))) ?_; clear hE a; intro a hE
  refine Rg.one (i := 7) false true rfl (by kernel_rfl) (by kernel_rfl) (by kernel_rfl) ?_
  refine WL.storeI hE hS 1 rfl [.int .i64 (w64 (0 - x68))] (runs_plain rfl) rfl rfl rfl ty3 rfl rfl rfl rfl ?_; clear hE hS a w; intro a w hE hS
  refine WL.nil ?_
  refine ⟨⟨fun h => absurd h (by decide), fun _ => (hS.dropAt 1)⟩, ?_⟩
  refine Rg.done (by kernel_rfl) ?_
  subst hK52
  refine finG (fn := Try.f71) (rs := []) (vs := []) hE rfl trivial ?_
  obtain rfl := Option.some.inj hr
  exact ⟨rfl, hS⟩
end Go.Proofs.Ytffleanbfkjfiaa
