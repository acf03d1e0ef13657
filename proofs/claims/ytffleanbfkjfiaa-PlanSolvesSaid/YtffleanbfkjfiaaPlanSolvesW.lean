/- The walks of the functions that PlanSolves reaches: each call comes to what its mirror says. The conditions are those of each contract. -/
import Derived.Test.YtffleanbfkjfiaaProg
import Derived.Test.YtffleanbfkjfiaaPlanSolvesM
import Derived.Test.YtffleanbfkjfiaaFpMore
import Derived.Test.YtffleanbfkjfiaaPlanSolvesW1
namespace Go.Proofs.Ytffleanbfkjfiaa
open Go Go.Fp
set_option maxHeartbeats 8000000 in
theorem SlicesEqualLint_ok  {w : World} {s : Sg} {R : List HP} {x0 : List Int} {a0 : Option Addr} {c0 : Nat} {x1 : List Int} {a1 : Option Addr} {c1 : Nat} (hS : St w s (R)) (h0 : Sl 1 (RI .i64) s a0 c0 x0) (h1 : Sl 1 (RI .i64) s a1 c1 x1) {r : Bool} (hr : SlicesEqualLint x0 x1 = some r) :
    Calls Try.prog 21 [.slice a0 x0.length c0, .slice a1 x1.length c1].toArray w (fun e w => e = .returned (.bool r) ∧ St w s (R)) := by
  refine enter Try.func21 rfl rfl rfl fun a hE => ?_
  rw [SlicesEqualLint] at hr
  refine W.seq ?_
  refine W.region ?_
  refine WL.vS hS hE (runs_plain rfl) (Gives.p hE rfl) rfl ?_; clear hE a; intro a hE
  refine WL.nil ?_
  refine W.seq ?_
  refine W.seq ?_
  refine W.region ?_
  refine WL.vS hS hE (runs_plain rfl) (Gives.p hE rfl) rfl ?_; clear hE a; intro a hE
  refine WL.vS hS hE (runs_plain rfl) (Gives.len hE rfl sl29) rfl ?_; clear hE a; intro a hE
  refine WL.vS hS hE (runs_plain rfl) (Gives.p hE rfl) rfl ?_; clear hE a; intro a hE
  refine WL.vS hS hE (runs_plain rfl) (Gives.len hE rfl sl29) rfl ?_; clear hE a; intro a hE
  refine WL.vS hS hE (runs_plain rfl) (Gives.p hE rfl) rfl ?_; clear hE a; intro a hE
  refine WL.nil ?_
  refine W.cond hE rfl (fun hc51 => ?_) (fun hc51 => ?_)
  · replace hr := iteT hc51 hr
    refine W.seq ?_
    refine W.region ?_
    refine WL.vS hS hE (runs_plain rfl) (Gives.p hE rfl) rfl ?_; clear hE a; intro a hE
    refine WL.nil ?_
    refine W.ret ?_
    refine finG (fn := Try.f21) (rs := [.tmp 4]) (vs := [_]) hE rfl ⟨rfl, trivial⟩ ?_
    obtain rfl := Option.some.inj hr
    exact ⟨rfl, hS⟩
  · replace hr := iteF hc51 hr
    refine W.skip ?_
    refine W.seq ?_
    refine W.seq ?_
    refine W.region ?_
    refine WL.vS hS hE (runs_plain rfl) (Gives.p hE rfl) rfl ?_; clear hE a; intro a hE
    refine WL.vS hS hE (runs_plain rfl) (Gives.len hE rfl sl29) rfl ?_; clear hE a; intro a hE
    refine WL.vS hS hE (runs_plain rfl) (Gives.p hE rfl) rfl ?_; clear hE a; intro a hE
    refine WL.nil ?_
    obtain ⟨q53, hq52, hr⟩ := bindS hr
    refine W.cut (fun a w => (.next ()) = q53 ∧ Rep a 26 [] ∧ St w s (R)) ?_ ?_
    · refine W.block ?_
      refine W.loop (fun m a w => ∃ (rest56 : List Int) (k54 : Nat), rest56.length = m ∧ x0.drop k54 = rest56 ∧ SlicesEqualLint.loop1 x1 rest56 k54 = some q53 ∧ Rep a 26 [(0, .slice a0 x0.length c0), (1, .slice a1 x1.length c1), (12, .int .i64 ((x0).length : Int)), (13, .int .i64 ((k54 : Nat) : Int))] ∧ St w s (R)) (m := x0.length) ⟨x0, 0, rfl, rfl, hq52, hE.pick _ ⟨rfl, rfl, rfl, rfl, trivial⟩, hS⟩ ?_
      clear hE hS a w hq52; rintro m60 a w ⟨rest56, k54, rfl, hd57, hq52, hE, hS⟩
      refine W.gen fun K63 hK63 => ?_
      rcases rest56 with _ | ⟨x55, rest56⟩
      · have hlt58 := drop_nil hd57
        refine W.seq ?_
        refine W.region ?_
        refine WL.vS hS hE (runs_plain rfl) (Gives.p hE rfl) rfl ?_; clear hE a; intro a hE
        refine WL.nil ?_
        refine W.seq ?_
        refine W.condF hE rfl (decide_eq_false (by omega)) ?_
        subst hK63
        refine W.exit rfl ?_
        exact ⟨Option.some.inj hq52, hE.pick _ trivial, hS⟩
      · obtain ⟨hlt58, hx59, hd57⟩ := drop_cons hd57
        rw [SlicesEqualLint.loop1] at hq52
        refine W.seq ?_
        refine W.region ?_
        refine WL.vS hS hE (runs_plain rfl) (Gives.p hE rfl) rfl ?_; clear hE a; intro a hE
        refine WL.nil ?_
        refine W.seq ?_
        refine W.condT hE rfl (decide_eq_true (by omega)) ?_
        refine W.skip ?_
        refine W.seq ?_
        refine W.block ?_
        refine W.seq ?_
        refine W.region ?_
        refine WL.vS hS hE (runs_plain rfl) (Gives.p hE rfl) rfl ?_; clear hE a; intro a hE
        refine WL.vS hS hE (runs_plain rfl) (Gives.p hE rfl) rfl ?_; clear hE a; intro a hE
        refine WL.nil ?_
        refine W.seq ?_
        refine W.regionQ (C := fun w => St w s (R)) mixed (by kernel_rfl) hS.drew ?_
        refine QL.v hE (runs_plain rfl) (Gives.p hE rfl) rfl ?_; clear hE a; intro a hE
        refine QL.v hE (runs_plain rfl) (Gives.p hE rfl) rfl ?_; clear hE a; intro a hE
        obtain ⟨cs64, hl65, hR66, hat67⟩ := h0.at hx59
        subst hR66
        refine QL.v hE (runs_plain rfl) (Gives.idx hE k54 rfl rfl sl29 rfl hlt58 (h0.aok hlt58)) rfl ?_; clear hE a; intro a hE
        refine QL.v hE (runs_plain rfl) (Gives.load1 hE rfl (fun w h => hat67 w _ h) ty3) rfl ?_; clear hE a; intro a hE
        refine QL.v hE (runs_plain rfl) (Gives.p hE rfl) rfl ?_; clear hE a; intro a hE
        refine QL.v hE (runs_plain rfl) (Gives.p hE rfl) rfl ?_; clear hE a; intro a hE
        obtain ⟨x68, hx69, hq52⟩ := bindS hq52
        obtain ⟨hi70, hlt71, hy72⟩ := gx_some hx69
        obtain ⟨cs73, hl74, hR75, hat76⟩ := h1.at hy72
        subst hR75
        refine QL.v hE (runs_plain rfl) (Gives.idx hE (((k54 : Nat) : Int)).toNat rfl rfl sl29 hi70 hlt71 (h1.aok hlt71)) rfl ?_; clear hE a; intro a hE
        refine QL.v hE (runs_plain rfl) (Gives.load1 hE rfl (fun w h => hat76 w _ h) ty3) rfl ?_; clear hE a; intro a hE
        refine QL.v hE (runs_plain rfl) (Gives.p hE rfl) rfl ?_; clear hE a; intro a hE
        refine QL.nil ?_; clear hS w; intro w hS
        refine W.cond hE rfl (fun hc77 => ?_) (fun hc77 => ?_)
        · replace hq52 := iteT hc77 hq52
          refine W.seq ?_
          refine W.region ?_
          refine WL.vS hS hE (runs_plain rfl) (Gives.p hE rfl) rfl ?_; clear hE a; intro a hE
          refine WL.nil ?_
          refine W.ret ?_
          subst hK63
          rw [← Option.some.inj hq52] at hr
          dsimp only at hr
          refine finG (fn := Try.f21) (rs := [.tmp 4]) (vs := [_]) hE rfl ⟨rfl, trivial⟩ ?_
          obtain rfl := Option.some.inj hr
          exact ⟨rfl, hS⟩
        · replace hq52 := iteF hc77 hq52
          refine W.skip ?_
          refine W.region ?_
          refine WL.vS hS hE (runs_plain rfl) (Gives.inc hE rfl (by have := h0.small; omega)) rfl ?_; clear hE a; intro a hE
          refine WL.vS hS hE (runs_plain rfl) (Gives.p hE rfl) rfl ?_; clear hE a; intro a hE
          refine WL.nil ?_
          subst hK63
          exact ⟨rest56.length, Nat.lt_succ_self _, rest56, k54 + 1, rfl, hd57, hq52, hE.pick _ ⟨rfl, rfl, rfl, rfl, trivial⟩, hS⟩
    · clear hE hS a w; rintro a w ⟨rfl, hE, hS⟩
      dsimp only at hr
      refine W.seq ?_
      refine W.region ?_
      refine WL.vS hS hE (runs_plain rfl) (Gives.p hE rfl) rfl ?_; clear hE a; intro a hE
      refine WL.nil ?_
      refine W.ret ?_
      refine finG (fn := Try.f21) (rs := [.tmp 4]) (vs := [_]) hE rfl ⟨rfl, trivial⟩ ?_
      obtain rfl := Option.some.inj hr
      exact ⟨rfl, hS⟩
set_option maxHeartbeats 8000000 in
theorem Fishlaw2periods_ok {fu : Nat}  {w : World} {s : Sg} {R : List HP}  (hS : St w s (R))  {r : Bool} (hr : Fishlaw2periods fu = some r) :
    Calls Try.prog 9 [].toArray w (fun e w => e = .returned (.bool r) ∧ St w s (R)) := by
  refine enter Try.func9 rfl rfl rfl fun a hE => ?_
  rw [Fishlaw2periods] at hr
  refine W.seq ?_
  refine W.region ?_
  refine WL.vS hS hE (runs_plain rfl) (Gives.p hE rfl) rfl ?_; clear hE a; intro a hE
  refine WL.nil ?_
  refine W.seq ?_
  refine W.region ?_
  refine WL.vS hS hE (runs_plain rfl) (Gives.build hE (vs := [(0, .int .i64 0), (1, .int .i64 1), (2, .int .i64 10), (3, .int .i64 20)]) [.int .i64 0, .int .i64 1, .int .i64 10, .int .i64 20, .int .i64 0] rfl (by kernel_rfl)) rfl ?_; clear hE a; intro a hE
  refine WL.vS hS hE (runs_plain rfl) (Gives.build hE (vs := [(0, .int .i64 1), (1, .int .i64 2), (2, .int .i64 10), (3, .int .i64 20)]) [.int .i64 1, .int .i64 2, .int .i64 10, .int .i64 20, .int .i64 0] rfl (by kernel_rfl)) rfl ?_; clear hE a; intro a hE
  refine WL.vS hS hE (runs_plain rfl) (Gives.build hE (vs := [(0, .int .i64 2), (1, .int .i64 0), (2, .int .i64 10), (3, .int .i64 20)]) [.int .i64 2, .int .i64 0, .int .i64 10, .int .i64 20, .int .i64 0] rfl (by kernel_rfl)) rfl ?_; clear hE a; intro a hE
  refine WL.lit hE hS (e := 37) (es := 5) (vs := [(0, .agg [.int .i64 0, .int .i64 1, .int .i64 10, .int .i64 20, .int .i64 0].toArray), (1, .agg [.int .i64 1, .int .i64 2, .int .i64 10, .int .i64 20, .int .i64 0].toArray), (2, .agg [.int .i64 2, .int .i64 0, .int .i64 10, .int .i64 20, .int .i64 0].toArray)]) (cs := [.int .i64 0, .int .i64 1, .int .i64 10, .int .i64 20, .int .i64 0, .int .i64 1, .int .i64 2, .int .i64 10, .int .i64 20, .int .i64 0, .int .i64 2, .int .i64 0, .int .i64 10, .int .i64 20, .int .i64 0]) (runs_plain rfl) rfl (by kernel_rfl) rfl ?_; clear hE hS a w; intro b51 a w hE hS
  replace hS := hS.ptVec (es := 5) (m := 3) rfl (by decide)
  have h53 : Ev 5 RPlanRule s [.int .i64 0, .int .i64 1, .int .i64 10, .int .i64 20, .int .i64 0, .int .i64 1, .int .i64 2, .int .i64 10, .int .i64 20, .int .i64 0, .int .i64 2, .int .i64 0, .int .i64 10, .int .i64 20, .int .i64 0] [(PlanRule.mk 0 1 10 20 0), (PlanRule.mk 1 2 10 20 0), (PlanRule.mk 2 0 10 20 0)] := (Ev.cons (c1 := [.int .i64 0, .int .i64 1, .int .i64 10, .int .i64 20, .int .i64 0]) rfl rfl (Ev.cons (c1 := [.int .i64 1, .int .i64 2, .int .i64 10, .int .i64 20, .int .i64 0]) rfl rfl (Ev.cons (c1 := [.int .i64 2, .int .i64 0, .int .i64 10, .int .i64 20, .int .i64 0]) rfl rfl (Ev.nil))))
  have hF := hS.fixD RPlanRule.mono 0 rfl h53 (rfl); clear hS; obtain ⟨s54, hle55, hS, h56⟩ := hF
  refine WL.vS hS hE (runs_plain rfl) (Gives.build hE (vs := [(0, .int .i64 60), (1, .int .i64 3), (2, .slice (some ⟨b51, 0, none⟩) 3 3)]) [.int .i64 60, .int .i64 3, .slice (some ⟨b51, 0, none⟩) 3 3] rfl (by kernel_rfl)) rfl ?_; clear hE a; intro a hE
  refine WL.alloc hE hS (runs_plain rfl) zr24 rfl ?_; clear hE hS a w; intro b57 a w hE hS
  refine WL.storeI hE hS 0 rfl [.int .i64 60, .int .i64 3, .slice (some ⟨b51, 0, none⟩) 3 3] (runs_plain rfl) rfl rfl rfl ty24 rfl rfl rfl rfl ?_; clear hE hS a w; intro a w hE hS
  refine WL.nil ?_
  refine W.seq ?_
  refine W.region ?_
  refine WL.vS hS hE (runs_plain rfl) (Gives.loadBA hE 0 rfl rfl ty24) rfl ?_; clear hE a; intro a hE
  obtain ⟨q58, hq59, hr⟩ := bindS hr
  have hc_ := PlanSolve_ok hS h56 hq59
  refine WL.fnq hE (hc_) (runs_plain rfl) bd19 rfl rfl rfl ?_
  clear hE hS hc_; rintro e w ⟨a60, c61, s63, rfl, hle64, h62, hS⟩; refine ⟨_, rfl, ?_⟩; clear a; intro a hE
  replace h56 := Sl.mono RPlanRule.mono hle64 h56
  refine WL.vS hS hE (runs_plain rfl) (Gives.p hE rfl) rfl ?_; clear hE a; intro a hE
  refine WL.vS hS hE (runs_plain rfl) (Gives.p hE rfl) rfl ?_; clear hE a; intro a hE
  refine WL.vS hS hE (runs_plain rfl) (Gives.p hE rfl) rfl ?_; clear hE a; intro a hE
  refine WL.vS hS hE (runs_plain rfl) (Gives.p hE rfl) rfl ?_; clear hE a; intro a hE
  refine WL.vS hS hE (runs_plain rfl) (Gives.p hE rfl) rfl ?_; clear hE a; intro a hE
  refine WL.nil ?_
  refine W.seq ?_
  obtain ⟨q66, hq65, hr⟩ := bindS hr
  refine W.cut (fun a w => ∃ (q69 : Bool), ∃ (s67 : Sg), s63.Le s67 ∧ q69 = q66 ∧ Rep a 21 [(0, .bool q69)] ∧ St w s67 (pt b57 (.cells #[.int .i64 60, .int .i64 3, .slice (some ⟨b51, 0, none⟩) 3 3] 24 (0, 0)) :: R)) ?_ ?_
  · refine W.gen fun K70 hK70 => ?_
    refine W.region ?_
    refine WL.vS hS hE (runs_plain rfl) (Gives.p hE rfl) rfl ?_; clear hE a; intro a hE
    refine WL.vS hS hE (runs_plain rfl) (Gives.p hE rfl) rfl ?_; clear hE a; intro a hE
    refine WL.vS hS hE (runs_plain rfl) (Gives.p hE rfl) rfl ?_; clear hE a; intro a hE
    rcases Bool.eq_false_or_eq_true (q58.2 == 0) with hg71 | hg71
    · replace hq65 := iteT hg71 hq65
      refine WL.vS hS hE (runs_if hE rfl rfl rfl hg71) (Gives.p hE rfl) rfl ?_; clear hE a; intro a hE
      refine WL.lit hE hS (e := 3) (es := 1) (vs := [(0, .int .i64 0), (1, .int .i64 20), (2, .int .i64 40)]) (cs := [.int .i64 0, .int .i64 20, .int .i64 40]) (runs_if hE rfl rfl rfl hg71) rfl (by kernel_rfl) rfl ?_; clear hE hS a w; intro b72 a w hE hS
      replace hS := hS.ptVec (es := 1) (m := 3) rfl (by decide)
      have h74 : Ev 1 (RI .i64) s63 [.int .i64 0, .int .i64 20, .int .i64 40] [0, 20, 40] := (Ev.cons (c1 := [.int .i64 0]) rfl rfl (Ev.cons (c1 := [.int .i64 20]) rfl rfl (Ev.cons (c1 := [.int .i64 40]) rfl rfl (Ev.nil))))
      have hF := hS.fixD RI.mono 0 rfl h74 (rfl); clear hS; obtain ⟨s75, hle76, hS, h77⟩ := hF
      replace h56 := Sl.mono RPlanRule.mono hle76 h56
      replace h62 := Sl.mono RI.mono hle76 h62
      obtain ⟨q78, hq79, hq65⟩ := bindS hq65
      have hc_ := SlicesEqualLint_ok hS h62 h77 hq79
      refine WL.fnq hE (hc_) (runs_if hE rfl rfl rfl hg71) bd21 rfl rfl rfl ?_
      clear hE hS hc_; rintro e w ⟨rfl, hS⟩; refine ⟨_, rfl, ?_⟩; clear a; intro a hE
      refine WL.vS hS hE (runs_plain rfl) (Gives.pickT hE rfl hg71 rfl) rfl ?_; clear hE a; intro a hE
      refine WL.vS hS hE (runs_plain rfl) (Gives.p hE rfl) rfl ?_; clear hE a; intro a hE
      refine WL.nil ?_
      subst hK70
      exact ⟨q78, s75, hle76, Option.some.inj hq65, hE.pick _ ⟨rfl, trivial⟩, hS⟩
    · replace hq65 := iteF hg71 hq65
      refine WL.no hE (runs_not hE rfl rfl rfl (by rw [hg71]; decide)) rfl ?_; clear hE a; intro a hE
      refine WL.no hE (runs_not hE rfl rfl rfl (by rw [hg71]; decide)) rfl ?_; clear hE a; intro a hE
      refine WL.no hE (runs_not hE rfl rfl rfl (by rw [hg71]; decide)) rfl ?_; clear hE a; intro a hE
      refine WL.vS hS hE (runs_plain rfl) (Gives.pickF hE rfl hg71 rfl) rfl ?_; clear hE a; intro a hE
      refine WL.vS hS hE (runs_plain rfl) (Gives.p hE rfl) rfl ?_; clear hE a; intro a hE
      refine WL.nil ?_
      subst hK70
      exact ⟨false, s63, (Sg.Le.refl _), Option.some.inj hq65, hE.pick _ ⟨rfl, trivial⟩, hS⟩
  · clear hE hS a w; rintro a w ⟨q69, s67, hle68, rfl, hE, hS⟩
    replace h56 := Sl.mono RPlanRule.mono hle68 h56
    refine W.ret ?_
    refine finG (fn := Try.f9) (rs := [.tmp 0]) (vs := [_]) hE rfl ⟨rfl, trivial⟩ ?_
    obtain rfl := Option.some.inj hr
    replace hS := hS.tail
    exact ⟨rfl, (hS.down (Sg.Le.trans (Sg.Le.trans hle55 hle64) hle68))⟩
set_option maxHeartbeats 8000000 in
theorem SlicesRepeatLint_ok {fu : Nat}  {w : World} {s : Sg} {R : List HP} {x0 : List Int} {a0 : Option Addr} {c0 : Nat} {x1 : Int} (hS : St w s (R)) (h0 : Sl 1 (RI .i64) s a0 c0 x0) {r : (List Int)} (hr : SlicesRepeatLint fu x0 x1 = some r) :
    Calls Try.prog 67 [.slice a0 x0.length c0, .int .i64 x1].toArray w (fun e w => ∃ (a0 : Option Addr) (c0 n0 : Nat) (cs0 : List Value), e = .returned (.slice a0 n0 c0) ∧ Ev 1 (RI .i64) s cs0 r ∧ r.length = n0 ∧ St w s (vecC 3 1 a0 c0 n0 cs0 :: R)) := by
  refine enter Try.func67 rfl rfl rfl fun a hE => ?_
  rw [SlicesRepeatLint] at hr
  refine W.seq ?_
  refine W.region ?_
  refine WL.vS hS hE (runs_plain rfl) (Gives.p hE rfl) rfl ?_; clear hE a; intro a hE
  refine WL.nil ?_
  refine W.seq ?_
  refine W.seq ?_
  refine W.region ?_
  refine WL.vS hS hE (runs_plain rfl) (Gives.p hE rfl) rfl ?_; clear hE a; intro a hE
  refine WL.vS hS hE (runs_plain rfl) (Gives.p hE rfl) rfl ?_; clear hE a; intro a hE
  refine WL.nil ?_
  refine W.cond hE rfl (fun hc51 => ?_) (fun hc51 => ?_)
  · replace hr := iteT hc51 hr
    refine W.region ?_
    exact absurd hr (by simp)
  · replace hr := iteF hc51 hr
    refine W.skip ?_
    refine W.seq ?_
    refine W.region ?_
    refine WL.vS hS hE (runs_plain rfl) (Gives.p hE rfl) rfl ?_; clear hE a; intro a hE
    refine WL.vS hS hE (runs_plain rfl) (Gives.len hE rfl sl29) rfl ?_; clear hE a; intro a hE
    refine WL.vS hS hE (runs_plain rfl) (Gives.conv hE rfl hu3 ui110) rfl ?_; clear hE a; intro a hE
    refine WL.vS hS hE (runs_plain rfl) (Gives.p hE rfl) rfl ?_; clear hE a; intro a hE
    refine WL.vS hS hE (runs_plain rfl) (Gives.conv hE rfl hu3 ui110) rfl ?_; clear hE a; intro a hE
    obtain ⟨q52, hq53, hr⟩ := bndS hr
    have hc_ := MathBitsMul_ok hS  hq53
    refine WL.fnq hE (hc_) (runs_plain rfl) bd77 rfl rfl rfl ?_
    clear hE hS hc_; rintro e w ⟨rfl, hS⟩; refine ⟨_, rfl, ?_⟩; clear a; intro a hE
    refine WL.vS hS hE (runs_plain rfl) (Gives.p hE rfl) rfl ?_; clear hE a; intro a hE
    refine WL.vS hS hE (runs_plain rfl) (Gives.p hE rfl) rfl ?_; clear hE a; intro a hE
    refine WL.vS hS hE (runs_plain rfl) (Gives.p hE rfl) rfl ?_; clear hE a; intro a hE
    refine WL.vS hS hE (runs_plain rfl) (Gives.p hE rfl) rfl ?_; clear hE a; intro a hE
    refine WL.vS hS hE (runs_plain rfl) (Gives.p hE rfl) rfl ?_; clear hE a; intro a hE
    refine WL.nil ?_
    refine W.seq ?_
    refine W.seq ?_
    obtain ⟨q55, hq54, hr⟩ := bndS hr
    refine W.cut (fun a w => ∃ (q58 : Bool), q58 = q55 ∧ Rep a 48 [(0, .slice a0 x0.length c0), (6, .int .u64 q52.2), (26, .bool q58)] ∧ St w s (R)) ?_ ?_
    · refine W.gen fun K59 hK59 => ?_
      refine W.region ?_
      refine WL.vS hS hE (runs_plain rfl) (Gives.p hE rfl) rfl ?_; clear hE a; intro a hE
      refine WL.vS hS hE (runs_plain rfl) (Gives.p hE rfl) rfl ?_; clear hE a; intro a hE
      refine WL.vS hS hE (runs_plain rfl) (Gives.p hE rfl) rfl ?_; clear hE a; intro a hE
      rcases Bool.eq_false_or_eq_true (decide (q52.1 > 0)) with hg60 | hg60
      · replace hq54 := iteT hg60 hq54
        refine WL.no hE (runs_not hE rfl rfl rfl (by rw [hg60]; decide)) rfl ?_; clear hE a; intro a hE
        refine WL.no hE (runs_not hE rfl rfl rfl (by rw [hg60]; decide)) rfl ?_; clear hE a; intro a hE
        refine WL.vS hS hE (runs_plain rfl) (Gives.pickT hE rfl hg60 rfl) rfl ?_; clear hE a; intro a hE
        refine WL.nil ?_
        subst hK59
        exact ⟨true, hq54, hE.pick _ ⟨rfl, rfl, rfl, trivial⟩, hS⟩
      · replace hq54 := iteF hg60 hq54
        refine WL.vS hS hE (runs_if hE rfl rfl rfl hg60) (Gives.p hE rfl) rfl ?_; clear hE a; intro a hE
        refine WL.vS hS hE (runs_if hE rfl rfl rfl hg60) (Gives.p hE rfl) rfl ?_; clear hE a; intro a hE
        refine WL.vS hS hE (runs_plain rfl) (Gives.pickF hE rfl hg60 rfl) rfl ?_; clear hE a; intro a hE
        refine WL.nil ?_
        subst hK59
        exact ⟨decide (q52.2 > 9223372036854775807), hq54, hE.pick _ ⟨rfl, rfl, rfl, trivial⟩, hS⟩
    · clear hE hS a w; rintro a w ⟨q58, rfl, hE, hS⟩
      refine W.cond hE rfl (fun hc61 => ?_) (fun hc61 => ?_)
      · replace hr := iteT hc61 hr
        refine W.region ?_
        exact absurd hr (by simp)
      · replace hr := iteF hc61 hr
        refine W.skip ?_
        refine W.seq ?_
        refine W.region ?_
        refine WL.vS hS hE (runs_plain rfl) (Gives.p hE rfl) rfl ?_; clear hE a; intro a hE
        refine WL.vS hS hE (runs_plain rfl) (Gives.conv hE rfl hu110 ui3) rfl ?_; clear hE a; intro a hE
        obtain ⟨x62, hx63, hr⟩ := bindS hr
        refine WL.mkD (Rr := RI .i64) hE hS (runs_plain rfl) rfl rfl ap29 zr3 rfl hx63 rfl ?_; clear hE hS a w; intro b64 cs65 a w h66 hE hS
        refine WL.vS hS hE (runs_plain rfl) (Gives.p hE rfl) rfl ?_; clear hE a; intro a hE
        refine WL.nil ?_
        refine W.seq ?_
        refine W.region ?_
        refine WL.vS hS hE (runs_plain rfl) (Gives.p hE rfl) rfl ?_; clear hE a; intro a hE
        refine WL.vS hS hE (runs_plain rfl) (Gives.p hE rfl) rfl ?_; clear hE a; intro a hE
        obtain ⟨x68, hx69, hr⟩ := bndS hr
        refine WL.cpS hE hS 0 (runs_plain rfl) cp29 (by rw [sliced_zero]; rfl) rfl rfl (Nat.zero_le _) (Nat.le_refl _) h66 rfl RI.one h0 rfl rfl ?_; clear hE hS a w; intro cs70 a w h71 hE hS
        have hn72 : x68.length = x62.length := by rw [← hx69, cpl_length (Nat.zero_le _) (by omega)]; try rfl
        rw [hx69] at h71
        refine WL.vS hS hE (runs_plain rfl) (Gives.p hE rfl) rfl ?_; clear hE a; intro a hE
        refine WL.nil ?_
        refine W.seq ?_
        obtain ⟨q74, hq73, hr⟩ := bindS hr
        refine W.cut (fun a w => ∃ (q79 : Int), ∃ (q80 : List Int), ∃ (cs84 : List Value), (q79, q80) = q74 ∧ Ev 1 (RI .i64) s cs84 q80 ∧ q80.length = x62.length ∧ Rep a 48 [(7, .slice (some ⟨b64, 0, none⟩) x62.length x62.length)] ∧ St w s (vecC 3 1 (some ⟨b64, 0, none⟩) x62.length x62.length cs84 :: R)) ?_ ?_
        · refine W.block ?_
          refine W.loop (fun m a w => ∃ (n75 : Nat), ∃ (q79 : Int), ∃ (q80 : List Int), ∃ (cs84 : List Value), n75 = m ∧ SlicesRepeatLint.loop1 x62 n75 q79 q80 = some q74 ∧ Ev 1 (RI .i64) s cs84 q80 ∧ q80.length = x62.length ∧ Rep a 48 [(7, .slice (some ⟨b64, 0, none⟩) x62.length x62.length), (8, .int .i64 q79)] ∧ St w s (vecC 3 1 (some ⟨b64, 0, none⟩) x62.length x62.length cs84 :: R)) (m := fu) ⟨fu, ((min x0.length (x62.length - 0) : Nat) : Int), x68, cs70, rfl, hq73, h71, hn72, hE.pick _ ⟨rfl, rfl, trivial⟩, hS⟩ ?_
          clear hE hS a w hq73; rintro m76 a w ⟨n75, q79, q80, cs84, rfl, hq73, h83, hn85, hE, hS⟩
          refine W.gen fun K86 hK86 => ?_
          rcases n75 with _ | n75
          · rw [SlicesRepeatLint.loop1] at hq73; exact absurd hq73 (by simp)
          rw [SlicesRepeatLint.loop1] at hq73
          refine W.seq ?_
          refine W.seq ?_
          refine W.region ?_
          refine WL.vS hS hE (runs_plain rfl) (Gives.p hE rfl) rfl ?_; clear hE a; intro a hE
          refine WL.vS hS hE (runs_plain rfl) (Gives.p hE rfl) rfl ?_; clear hE a; intro a hE
          refine WL.vS hS hE (runs_plain rfl) (Gives.len hE rfl sl29) rfl ?_; clear hE a; intro a hE
          refine WL.vS hS hE (runs_plain rfl) (Gives.p hE rfl) rfl ?_; clear hE a; intro a hE
          refine WL.nil ?_
          refine W.cond hE rfl (fun hc87 => ?_) (fun hc87 => ?_)
          · replace hq73 := iteT hc87 hq73
            refine W.skip ?_
            refine W.block ?_
            refine W.gen fun K88 hK88 => ?_
            refine W.regionE (sel (fun w => St w s (R)) (fun w => St w s (R))) (fun b i => cond b ([0, 1, 2, 3, 4, 5, 6, 7, 8, 9].contains i) ([0, 1, 2, 3, 4, 5, 6, 7, 8, 9].contains i)) mixed ?_
            replace hS := hS.drew
            refine Rg.takeP (i := 0) hE rfl (by kernel_rfl) (runs_plain rfl) (Gives.p hE rfl) rfl (tw_sel (fun _ => (hS.tail)) (fun _ => (hS.tail))) ?_; clear hE a; intro a hE
            refine Rg.takeP (i := 1) hE rfl (by kernel_rfl) (runs_plain rfl) (Gives.p hE rfl) rfl (tw_sel (fun _ => (hS.tail)) (fun _ => (hS.tail))) ?_; clear hE a; intro a hE
            refine Rg.takeP (i := 2) hE rfl (by kernel_rfl) (runs_plain rfl) (Gives.p hE rfl) rfl (tw_sel (fun _ => (hS.tail)) (fun _ => (hS.tail))) ?_; clear hE a; intro a hE
            obtain ⟨x89, hx90, hq73⟩ := bindS hq73
            obtain ⟨h91, h92, h93, h94, h95, h96⟩ := cutl_some hx90
            have h97 := (hS.vecCap 0 rfl).1
            refine Rg.takeP (i := 3) hE rfl (by kernel_rfl) (runs_plain rfl) (Gives.slL hE sl29 rfl rfl h91 (by have := hn85; omega) rfl) rfl (tw_sel (fun _ => (hS.tail)) (fun _ => (hS.tail))) ?_; clear hE a; intro a hE
            refine Rg.takeP (i := 4) hE rfl (by kernel_rfl) (runs_plain rfl) (Gives.p hE rfl) rfl (tw_sel (fun _ => (hS.tail)) (fun _ => (hS.tail))) ?_; clear hE a; intro a hE
            refine Rg.takeP (i := 5) hE rfl (by kernel_rfl) (runs_plain rfl) (Gives.p hE rfl) rfl (tw_sel (fun _ => (hS.tail)) (fun _ => (hS.tail))) ?_; clear hE a; intro a hE
            obtain ⟨x98, hx99, hq73⟩ := bindS hq73
            obtain ⟨h100, h101, h102, h103, h104, h105⟩ := cutl_some hx99
            have h106 := (hS.vecCap 0 rfl).1
            refine Rg.takeP (i := 6) hE rfl (by kernel_rfl) (runs_plain rfl) (Gives.slH hE sl29 rfl rfl h101 (Int.le_trans h102 (by have := hn85; omega)) rfl) rfl (tw_sel (fun _ => (hS.tail)) (fun _ => (hS.tail))) ?_; clear hE a; intro a hE
            refine Rg.one (i := 7) true true rfl (by kernel_rfl) (by kernel_rfl) (by kernel_rfl) ?_
            obtain ⟨x107, hx108, hq73⟩ := bndS hq73
            refine WL.cpO (lo2 := 0) (hi2 := (q79).toNat) hE hS 0 (runs_plain rfl) cp29 rfl rfl rfl (by have := hn85; omega) (by have := hn85; omega) (by have := hn85; omega) (by have := hn85; omega) h83 hn85 (h83.allOne RI.one) rfl ?_; clear hE hS a w; intro cs109 a w h110 hE hS
            have hn111 : x107.length = x62.length := by rw [← hx108, cpl_length (by have := hn85; omega) (by have := hn85; omega)]; try exact hn85
            rw [hx108] at h110
            refine WL.nil ?_
            refine ⟨⟨fun _ => (hS.tail), fun _ => (hS.tail)⟩, ?_⟩
            refine Rg.takeP (i := 8) hE rfl (by kernel_rfl) (runs_plain rfl) (Gives.p hE rfl) rfl (tw_sel (fun _ => (hS.tail)) (fun _ => (hS.tail))) ?_; clear hE a; intro a hE
            refine Rg.takeP (i := 9) hE rfl (by kernel_rfl) (runs_plain rfl) (Gives.p hE rfl) rfl (tw_sel (fun _ => (hS.tail)) (fun _ => (hS.tail))) ?_; clear hE a; intro a hE
            refine Rg.done (by kernel_rfl) ?_
            subst hK88
            subst hK86
            exact ⟨n75, Nat.lt_succ_self _, n75, (w64 (q79 + ((min ((q80.take ((q79).toNat)).drop 0).length (x62.length - ((q79).toNat)) : Nat) : Int))), x107, cs109, rfl, hq73, h110, hn111, hE.pick _ ⟨rfl, rfl, trivial⟩, hS⟩
          · replace hq73 := iteF hc87 hq73
            subst hK86
            refine W.exit rfl ?_
            exact ⟨q79, q80, cs84, Option.some.inj hq73, h83, hn85, hE.pick _ ⟨rfl, trivial⟩, hS⟩
        · clear hE hS a w; rintro a w ⟨q79, q80, cs84, rfl, h83, hn85, hE, hS⟩
          dsimp only at hr
          refine W.seq ?_
          refine W.region ?_
          refine WL.vS hS hE (runs_plain rfl) (Gives.p hE rfl) rfl ?_; clear hE a; intro a hE
          refine WL.vS hS hE (runs_plain rfl) (Gives.p hE rfl) rfl ?_; clear hE a; intro a hE
          refine WL.nil ?_
          refine W.ret ?_
          refine finG (fn := Try.f67) (rs := [.tmp 4]) (vs := [_]) hE rfl ⟨rfl, trivial⟩ ?_
          obtain rfl := Option.some.inj hr
          exact ⟨(some ⟨b64, 0, none⟩), x62.length, x62.length, cs84, rfl, h83, hn85, hS⟩
set_option maxHeartbeats 8000000 in
theorem Fishref2free_ok {fu : Nat}  {w : World} {s : Sg} {R : List HP} {x0 : PlanPeriodic} {a0_0 : Option Addr} {c0_0 : Nat} (hS : St w s (R)) (h0_0 : Sl 5 RPlanRule s a0_0 c0_0 x0.Rules) {r : (List (List Int))} (hr : Fishref2free fu x0 = some r) :
    Calls Try.prog 55 [.agg [.int .i64 x0.Period, .int .i64 x0.Events, .slice a0_0 x0.Rules.length c0_0].toArray].toArray w (fun e w => ∃ (a0 : Option Addr) (c0 : Nat) (t : Sg), e = .returned (.slice a0 r.length c0) ∧ s.Le t ∧ Sl 1 (RL 1 (RI .i64)) t a0 c0 r ∧ St w t (R)) := by
  refine enter Try.func55 rfl rfl rfl fun a hE => ?_
  rw [Fishref2free] at hr
  refine W.seq ?_
  refine W.region ?_
  refine WL.box hE hS (runs_plain rfl) rfl rfl rfl ?_; clear hE hS a w; intro b51 a w hE hS
  refine WL.vS hS hE (runs_plain rfl) (Gives.p hE rfl) rfl ?_; clear hE a; intro a hE
  refine WL.nil ?_
  refine W.seq ?_
  refine W.region ?_
  refine WL.vS hS hE (runs_plain rfl) (Gives.fld hE rfl fl24_1) rfl ?_; clear hE a; intro a hE
  refine WL.vS hS hE (runs_plain rfl) (Gives.loadB hE 0 rfl rfl rfl ty3) rfl ?_; clear hE a; intro a hE
  obtain ⟨x52, hx53, hr⟩ := bindS hr
  refine WL.mkND (Rr := RI .i64) (Ti := 3) (es := 1) hE hS (runs_plain rfl) rfl rfl ap87 zr29 hx53 rfl ?_; clear hE hS a w; intro b54 ds55 a w h56 hE hS
  refine WL.vS hS hE (runs_plain rfl) (Gives.p hE rfl) rfl ?_; clear hE a; intro a hE
  refine WL.nil ?_
  refine W.seq ?_
  refine W.seq ?_
  refine W.region ?_
  refine WL.vS hS hE (runs_plain rfl) (Gives.p hE rfl) rfl ?_; clear hE a; intro a hE
  refine WL.vS hS hE (runs_plain rfl) (Gives.len hE rfl sl87) rfl ?_; clear hE a; intro a hE
  refine WL.vS hS hE (runs_plain rfl) (Gives.p hE rfl) rfl ?_; clear hE a; intro a hE
  refine WL.nil ?_
  have hb69 : x52.length ≤ 9223372036854775807 := by have := hS.nCap 0 rfl; unfold maxLen at this; omega
  obtain ⟨q59, hq58, hr⟩ := bindS hr
  refine W.cut (fun a w => ∃ (q70 : List (List Int)), ∃ (ds74 : List In), ∃ (s67 : Sg), s.Le s67 ∧ q70 = q59 ∧ NEv 1 (RI .i64) s67 ds74 q70 ∧ q70.length = x52.length ∧ Rep a 31 [(3, .slice (some ⟨b54, 0, none⟩) x52.length x52.length)] ∧ St w s67 (nestC 29 3 1 (some ⟨b54, 0, none⟩) x52.length x52.length ds74 :: pt b51 (.cells #[.int .i64 x0.Period, .int .i64 x0.Events, .slice a0_0 x0.Rules.length c0_0] 24 (0, 0)) :: R)) ?_ ?_
  · refine W.block ?_
    refine W.loop (fun m a w => ∃ (rest62 : Nat) (k60 : Nat), ∃ (q70 : List (List Int)), ∃ (ds74 : List In), ∃ (s67 : Sg), rest62 = m ∧ k60 + rest62 = x52.length ∧ s.Le s67 ∧ Fishref2free.loop1 x0 fu rest62 k60 q70 = some q59 ∧ NEv 1 (RI .i64) s67 ds74 q70 ∧ q70.length = x52.length ∧ Rep a 31 [(1, .pointer (some ⟨b51, 0, none⟩)), (3, .slice (some ⟨b54, 0, none⟩) x52.length x52.length), (9, .int .i64 ((x52.length : Nat) : Int)), (10, .int .i64 ((k60 : Nat) : Int))] ∧ St w s67 (nestC 29 3 1 (some ⟨b54, 0, none⟩) x52.length x52.length ds74 :: pt b51 (.cells #[.int .i64 x0.Period, .int .i64 x0.Events, .slice a0_0 x0.Rules.length c0_0] 24 (0, 0)) :: R)) (m := x52.length) ⟨x52.length, 0, x52, ds55, s, rfl, by omega, (Sg.Le.refl _), hq58, h56, (rfl), hE.pick _ ⟨rfl, rfl, rfl, rfl, trivial⟩, hS⟩ ?_
    clear hE hS a w hq58; rintro m66 a w ⟨rest62, k60, q70, ds74, s67, rfl, hd63, hle68, hq58, h75, hn76, hE, hS⟩
    refine W.gen fun K77 hK77 => ?_
    replace h0_0 := Sl.mono RPlanRule.mono hle68 h0_0
    replace h56 := NEv.mono RI.mono hle68 h56
    rcases rest62 with _ | rest62
    · skip
      refine W.seq ?_
      refine W.region ?_
      refine WL.vS hS hE (runs_plain rfl) (Gives.p hE rfl) rfl ?_; clear hE a; intro a hE
      refine WL.nil ?_
      refine W.seq ?_
      refine W.condF hE rfl (decide_eq_false (by omega)) ?_
      subst hK77
      refine W.exit rfl ?_
      exact ⟨q70, ds74, s67, hle68, Option.some.inj hq58, h75, hn76, hE.pick _ ⟨rfl, trivial⟩, hS⟩
    · have hlt64 : k60 < x52.length := by omega
      rw [Fishref2free.loop1] at hq58
      refine W.seq ?_
      refine W.region ?_
      refine WL.vS hS hE (runs_plain rfl) (Gives.p hE rfl) rfl ?_; clear hE a; intro a hE
      refine WL.nil ?_
      refine W.seq ?_
      refine W.condT hE rfl (decide_eq_true (by omega)) ?_
      refine W.skip ?_
      refine W.seq ?_
      refine W.block ?_
      refine W.seq ?_
      refine W.region ?_
      refine WL.vS hS hE (runs_plain rfl) (Gives.p hE rfl) rfl ?_; clear hE a; intro a hE
      refine WL.vS hS hE (runs_plain rfl) (Gives.p hE rfl) rfl ?_; clear hE a; intro a hE
      refine WL.nil ?_
      refine W.seq ?_
      refine W.region ?_
      refine WL.vS hS hE (runs_plain rfl) (Gives.p hE rfl) rfl ?_; clear hE a; intro a hE
      refine WL.vS hS hE (runs_plain rfl) (Gives.p hE rfl) rfl ?_; clear hE a; intro a hE
      refine WL.vS hS hE (runs_plain rfl) (Gives.fld hE rfl fl24_0) rfl ?_; clear hE a; intro a hE
      refine WL.vS hS hE (runs_plain rfl) (Gives.loadB hE 1 rfl rfl rfl ty3) rfl ?_; clear hE a; intro a hE
      refine WL.vS hS hE (runs_plain rfl) (Gives.p hE rfl) rfl ?_; clear hE a; intro a hE
      refine WL.lit hE hS (e := 3) (es := 1) (vs := [(0, .int .i64 (w64 (x0.Period - 1)))]) (cs := [.int .i64 (w64 (x0.Period - 1))]) (runs_plain rfl) rfl (by kernel_rfl) rfl ?_; clear hE hS a w; intro b78 a w hE hS
      replace hS := hS.ptVec (es := 1) (m := 1) rfl (by decide)
      have h80 : Ev 1 (RI .i64) s67 [.int .i64 (w64 (x0.Period - 1))] [w64 (x0.Period - 1)] := (Ev.cons (c1 := [.int .i64 (w64 (x0.Period - 1))]) rfl rfl (Ev.nil))
      have hF := hS.fixD RI.mono 0 rfl h80 (rfl); clear hS; obtain ⟨s81, hle82, hS, h83⟩ := hF
      replace h75 := NEv.mono RI.mono hle82 h75
      replace h0_0 := Sl.mono RPlanRule.mono hle82 h0_0
      refine WL.vS hS hE (runs_plain rfl) (Gives.fld hE rfl fl24_1) rfl ?_; clear hE a; intro a hE
      refine WL.vS hS hE (runs_plain rfl) (Gives.loadB hE 1 rfl rfl rfl ty3) rfl ?_; clear hE a; intro a hE
      obtain ⟨q84, hq85, hq58⟩ := bindS hq58
      have hc_ := SlicesRepeatLint_ok hS h83 hq85
      refine WL.fnq hE (hc_) (runs_plain rfl) bd67 rfl rfl rfl ?_
      clear hE hS hc_; rintro e w ⟨a86, c87, n88, cs89, rfl, h90, rfl, hS⟩; refine ⟨_, rfl, ?_⟩; clear a; intro a hE
      obtain ⟨_, hx92, hq58⟩ := bindS hq58
      obtain ⟨h93, h94⟩ := ix_some hx92
      refine WL.vS hS hE (runs_plain rfl) (Gives.idx hE ((((k60 : Nat) : Int)).toNat) rfl rfl sl87 h93 (by have := hn76; omega) (hS.nAok 1 rfl (by have := hn76; omega : (((k60 : Nat) : Int)).toNat < x52.length))) rfl ?_; clear hE a; intro a hE
      obtain ⟨d95, hd96⟩ : ∃ d, ds74[(((k60 : Nat) : Int)).toNat]? = some d := ⟨_, List.getElem?_eq_getElem (by have h1 := h75.len; have h2 := hn76; omega)⟩
      replace hS := (hS.borrow 1 rfl hd96).tail
      obtain ⟨x97, hx98, hq58⟩ := bindS hq58
      refine WL.storeND hE hS 0 rfl (runs_plain rfl) rfl rfl ty29 h75 hn76 (by have := (sx_some hx98).1; omega) hx98 h90 rfl rfl ?_; clear hE hS a w; intro ds99 a w h100 hn101 hE hS
      refine WL.nil ?_
      refine W.region ?_
      refine WL.vS hS hE (runs_plain rfl) (Gives.p hE rfl) rfl ?_; clear hE a; intro a hE
      refine WL.vS hS hE (runs_plain rfl) (Gives.p hE rfl) rfl ?_; clear hE a; intro a hE
      obtain ⟨x102, hx103, hq58⟩ := bindS hq58
      obtain ⟨hi104, hlt105, hy106⟩ := gx_some hx103
      obtain ⟨a107, c108, cs109, hd110, hev111⟩ := h100.at hy106
      refine WL.vS hS hE (runs_plain rfl) (Gives.idx hE ((((k60 : Nat) : Int)).toNat) rfl rfl sl87 hi104 (by have := hn101; omega) (hS.nAok 0 rfl (by have := hn101; omega : (((k60 : Nat) : Int)).toNat < x52.length))) rfl ?_; clear hE a; intro a hE
      refine WL.vS hS hE (runs_plain rfl) (Gives.load1 (v := .slice a107 x102.length c108) hE rfl (fun w h => St.nSees h 0 rfl hd110) ty29) rfl ?_; clear hE a; intro a hE
      refine WL.vS hS hE (runs_plain rfl) (Gives.p hE rfl) rfl ?_; clear hE a; intro a hE
      replace hS := hS.borrowM 0 rfl hd110
      obtain ⟨_, hx114, hq58⟩ := bindS hq58
      obtain ⟨h115, h116⟩ := ix_some hx114
      refine WL.vS hS hE (runs_plain rfl) (Gives.idx hE ((((k60 : Nat) : Int)).toNat) rfl rfl sl29 h115 (by omega) (hS.vecAok 0 rfl (by omega : (((k60 : Nat) : Int)).toNat < x102.length))) rfl ?_; clear hE a; intro a hE
      obtain ⟨x118, hx119, hq58⟩ := bindS hq58
      refine WL.setD hE hS 0 rfl (runs_plain rfl) rfl rfl (vs := [.int .i64 0]) rfl ty3 rfl rfl rfl hev111 (rfl) (sx_some hx119).1 hx119 rfl rfl ?_; clear hE hS a w; intro cs120 a w h121 hn122 hE hS
      refine WL.nil ?_
      refine W.region ?_
      refine WL.vS hS hE (runs_plain rfl) (Gives.inc hE rfl (by omega)) rfl ?_; clear hE a; intro a hE
      refine WL.vS hS hE (runs_plain rfl) (Gives.p hE rfl) rfl ?_; clear hE a; intro a hE
      refine WL.nil ?_
      replace hS := hS.giveBack 0 rfl hd110
      have h124 := h100.set (k := (((k60 : Nat) : Int)).toNat) (d := ⟨a107, c108, x102.length, cs120⟩) h121 hn122
      have hn125 : (x97.set ((((k60 : Nat) : Int)).toNat) x118).length = x52.length := by simp; exact hn101
      generalize List.set ds99 ((((k60 : Nat) : Int)).toNat) _ = ds123 at hS h124
      subst hK77
      exact ⟨rest62, Nat.lt_succ_self _, rest62, k60 + 1, (x97.set ((((k60 : Nat) : Int)).toNat) x118), ds123, s81, rfl, (by omega), (Sg.Le.trans hle68 hle82), hq58, h124, hn125, hE.pick _ ⟨rfl, rfl, rfl, rfl, trivial⟩, hS⟩
  · clear hE hS a w; rintro a w ⟨q70, ds74, s67, hle68, rfl, h75, hn76, hE, hS⟩
    replace h0_0 := Sl.mono RPlanRule.mono hle68 h0_0
    replace h56 := NEv.mono RI.mono hle68 h56
    refine W.seq ?_
    refine W.region ?_
    refine WL.vS hS hE (runs_plain rfl) (Gives.p hE rfl) rfl ?_; clear hE a; intro a hE
    refine WL.vS hS hE (runs_plain rfl) (Gives.p hE rfl) rfl ?_; clear hE a; intro a hE
    refine WL.nil ?_
    refine W.ret ?_
    have hF := hS.fixN RI.mono 0 rfl h75 hn76; clear hS; obtain ⟨s126, hle127, hS, h128⟩ := hF
    (try rw [← hn76] at hE)
    (try rw [← hn76] at hS)
    (try rw [← hn76] at h128)
    replace h0_0 := Sl.mono RPlanRule.mono hle127 h0_0
    refine finG (fn := Try.f55) (rs := [.tmp 2]) (vs := [_]) hE rfl ⟨rfl, trivial⟩ ?_
    obtain rfl := Option.some.inj hr
    replace hS := hS.tail
    exact ⟨(some ⟨b54, 0, none⟩), q70.length, s126, rfl, (Sg.Le.trans hle68 hle127), h128, hS⟩
set_option maxHeartbeats 8000000 in
theorem SlicesCloneLint_ok  {w : World} {s : Sg} {R : List HP} {x0 : List Int} {a0 : Option Addr} {c0 : Nat} (hS : St w s (R)) (h0 : Sl 1 (RI .i64) s a0 c0 x0) {r : (List Int)} (hr : SlicesCloneLint x0 = some r) :
    Calls Try.prog 60 [.slice a0 x0.length c0].toArray w (fun e w => ∃ (a0 : Option Addr) (c0 n0 : Nat) (cs0 : List Value), e = .returned (.slice a0 n0 c0) ∧ Ev 1 (RI .i64) s cs0 r ∧ r.length = n0 ∧ St w s (vecC 3 1 a0 c0 n0 cs0 :: R)) := by
  refine enter Try.func60 rfl rfl rfl fun a hE => ?_
  rw [SlicesCloneLint] at hr
  refine W.seq ?_
  refine W.region ?_
  refine WL.vS hS hE (runs_plain rfl) (Gives.p hE rfl) rfl ?_; clear hE a; intro a hE
  refine WL.nil ?_
  refine W.seq ?_
  refine W.seq ?_
  refine W.region ?_
  refine WL.vS hS hE (runs_plain rfl) (Gives.p hE rfl) rfl ?_; clear hE a; intro a hE
  refine WL.vS hS hE (runs_plain rfl) (Gives.isNil hE rfl rfl isl29) rfl ?_; clear hE a; intro a hE
  refine WL.nil ?_
  rcases a0 with _ | g51
  · obtain rfl := h0.none_nil
    replace hr : some [] = _ := hr
    refine W.condT hE rfl rfl ?_
    refine W.seq ?_
    refine W.region ?_
    refine WL.vS hS hE (runs_plain rfl) (Gives.p hE rfl) rfl ?_; clear hE a; intro a hE
    refine WL.nil ?_
    refine W.ret ?_
    replace hS := hS.vecNil 3 1
    refine finG (fn := Try.f60) (rs := [.tmp 2]) (vs := [_]) hE rfl ⟨rfl, trivial⟩ ?_
    obtain rfl := Option.some.inj hr
    exact ⟨none, 0, 0, [], rfl, (Ev.nil), (rfl), hS⟩
  · skip
    refine W.condF hE rfl rfl ?_
    refine W.skip ?_
    refine W.seq ?_
    refine W.region ?_
    refine WL.lit hE hS (e := 3) (es := 1) (vs := []) (cs := []) (runs_plain rfl) rfl (by kernel_rfl) rfl ?_; clear hE hS a w; intro b53 a w hE hS
    replace hS := hS.ptVec (es := 1) (m := 0) rfl (by decide)
    have h55 : Ev 1 (RI .i64) s [] [] := (Ev.nil)
    refine WL.vS hS hE (runs_plain rfl) (Gives.p hE rfl) rfl ?_; clear hE a; intro a hE
    obtain ⟨x56, hx57, hr⟩ := bindS hr
    refine WL.appS hE hS 0 (runs_plain rfl) rfl rfl (xs := x0) rfl rfl ap29 RI.one h55 (rfl) h0 hx57 rfl ?_; clear hE hS a w; intro a58 c59 cs60 a w h61 hE hS
    refine WL.vS hS hE (runs_plain rfl) (Gives.p hE rfl) rfl ?_; clear hE a; intro a hE
    refine WL.nil ?_
    refine W.ret ?_
    refine finG (fn := Try.f60) (rs := [.tmp 2]) (vs := [_]) hE rfl ⟨rfl, trivial⟩ ?_
    obtain rfl := Option.some.inj hr
    exact ⟨a58, c59, x56.length, cs60, rfl, h61, (rfl), hS⟩
set_option maxHeartbeats 8000000 in
theorem Fishref2Boundstighter_ok  {w : World} {s : Sg} {R : List HP} {x0 : List (List Int)} {a0 : Option Addr} {c0 : Nat} {x1 : Int} {x2 : Int} {x3 : Int} (hS : St w s (R)) (h0 : Sl 1 (RL 1 (RI .i64)) s a0 c0 x0) {r : (List (List Int)) × Bool} (hr : Fishref2Boundstighter x0 x1 x2 x3 = some r) :
    Calls Try.prog 56 [.slice a0 x0.length c0, .int .i64 x1, .int .i64 x2, .int .i64 x3].toArray w (fun e w => ∃ (a0 : Option Addr) (c0 : Nat) (t : Sg), e = .returned (.tuple #[.slice a0 r.1.length c0, .bool r.2]) ∧ s.Le t ∧ Sl 1 (RL 1 (RI .i64)) t a0 c0 r.1 ∧ St w t (R)) := by
  refine enter Try.func56 rfl rfl rfl fun a hE => ?_
  rw [Fishref2Boundstighter] at hr
  refine W.seq ?_
  refine W.region ?_
  refine WL.vS hS hE (runs_plain rfl) (Gives.p hE rfl) rfl ?_; clear hE a; intro a hE
  refine WL.vS hS hE (runs_plain rfl) (Gives.p hE rfl) rfl ?_; clear hE a; intro a hE
  refine WL.nil ?_
  refine W.seq ?_
  refine W.seq ?_
  refine W.region ?_
  refine WL.vS hS hE (runs_plain rfl) (Gives.p hE rfl) rfl ?_; clear hE a; intro a hE
  refine WL.vS hS hE (runs_plain rfl) (Gives.p hE rfl) rfl ?_; clear hE a; intro a hE
  refine WL.vS hS hE (runs_plain rfl) (Gives.p hE rfl) rfl ?_; clear hE a; intro a hE
  obtain ⟨x51, hx52, hr⟩ := bindS hr
  obtain ⟨hi53, hlt54, hy55⟩ := gx_some hx52
  obtain ⟨cs56, hl57, hR58, hat59⟩ := h0.at hy55
  obtain ⟨a60, c61, rfl, h62⟩ := hR58
  refine WL.vS hS hE (runs_plain rfl) (Gives.idx hE (x1).toNat rfl rfl sl87 hi53 hlt54 (h0.aok hlt54)) rfl ?_; clear hE a; intro a hE
  refine WL.vS hS hE (runs_plain rfl) (Gives.load1 hE rfl (fun w h => hat59 w _ h) ty29) rfl ?_; clear hE a; intro a hE
  refine WL.vS hS hE (runs_plain rfl) (Gives.p hE rfl) rfl ?_; clear hE a; intro a hE
  obtain ⟨x63, hx64, hr⟩ := bindS hr
  obtain ⟨hi65, hlt66, hy67⟩ := gx_some hx64
  obtain ⟨cs68, hl69, hR70, hat71⟩ := h62.at hy67
  subst hR70
  refine WL.vS hS hE (runs_plain rfl) (Gives.idx hE (x2).toNat rfl rfl sl29 hi65 hlt66 (h62.aok hlt66)) rfl ?_; clear hE a; intro a hE
  refine WL.vS hS hE (runs_plain rfl) (Gives.load1 hE rfl (fun w h => hat71 w _ h) ty3) rfl ?_; clear hE a; intro a hE
  refine WL.vS hS hE (runs_plain rfl) (Gives.p hE rfl) rfl ?_; clear hE a; intro a hE
  refine WL.nil ?_
  refine W.cond hE rfl (fun hc72 => ?_) (fun hc72 => ?_)
  · replace hr := iteT hc72 hr
    refine W.seq ?_
    refine W.region ?_
    refine WL.vS hS hE (runs_plain rfl) (Gives.p hE rfl) rfl ?_; clear hE a; intro a hE
    refine WL.vS hS hE (runs_plain rfl) (Gives.p hE rfl) rfl ?_; clear hE a; intro a hE
    refine WL.vS hS hE (runs_plain rfl) (Gives.p hE rfl) rfl ?_; clear hE a; intro a hE
    refine WL.nil ?_
    refine W.ret ?_
    refine finG (fn := Try.f56) (rs := [.tmp 8, .tmp 9]) (vs := [_, _]) hE rfl ⟨rfl, rfl, trivial⟩ ?_
    obtain rfl := Option.some.inj hr
    exact ⟨a0, c0, s, rfl, (Sg.Le.refl _), h0, hS⟩
  · replace hr := iteF hc72 hr
    refine W.skip ?_
    refine W.seq ?_
    refine W.seq ?_
    refine W.region ?_
    refine WL.vS hS hE (runs_plain rfl) (Gives.p hE rfl) rfl ?_; clear hE a; intro a hE
    refine WL.vS hS hE (runs_plain rfl) (Gives.p hE rfl) rfl ?_; clear hE a; intro a hE
    refine WL.vS hS hE (runs_plain rfl) (Gives.p hE rfl) rfl ?_; clear hE a; intro a hE
    obtain ⟨x73, hx74, hr⟩ := bindS hr
    obtain ⟨hi75, hlt76, hy77⟩ := gx_some hx74
    obtain ⟨cs78, hl79, hR80, hat81⟩ := h0.at hy77
    obtain ⟨a82, c83, rfl, h84⟩ := hR80
    refine WL.vS hS hE (runs_plain rfl) (Gives.idx hE (x2).toNat rfl rfl sl87 hi75 hlt76 (h0.aok hlt76)) rfl ?_; clear hE a; intro a hE
    refine WL.vS hS hE (runs_plain rfl) (Gives.load1 hE rfl (fun w h => hat81 w _ h) ty29) rfl ?_; clear hE a; intro a hE
    refine WL.vS hS hE (runs_plain rfl) (Gives.p hE rfl) rfl ?_; clear hE a; intro a hE
    obtain ⟨x85, hx86, hr⟩ := bindS hr
    obtain ⟨hi87, hlt88, hy89⟩ := gx_some hx86
    obtain ⟨cs90, hl91, hR92, hat93⟩ := h84.at hy89
    subst hR92
    refine WL.vS hS hE (runs_plain rfl) (Gives.idx hE (x1).toNat rfl rfl sl29 hi87 hlt88 (h84.aok hlt88)) rfl ?_; clear hE a; intro a hE
    refine WL.vS hS hE (runs_plain rfl) (Gives.load1 hE rfl (fun w h => hat93 w _ h) ty3) rfl ?_; clear hE a; intro a hE
    refine WL.vS hS hE (runs_plain rfl) (Gives.p hE rfl) rfl ?_; clear hE a; intro a hE
    refine WL.vS hS hE (runs_plain rfl) (Gives.p hE rfl) rfl ?_; clear hE a; intro a hE
    refine WL.nil ?_
    refine W.cond hE rfl (fun hc94 => ?_) (fun hc94 => ?_)
    · replace hr := iteT hc94 hr
      refine W.seq ?_
      refine W.region ?_
      refine WL.vS hS hE (runs_plain rfl) (Gives.p hE rfl) rfl ?_; clear hE a; intro a hE
      refine WL.vS hS hE (runs_plain rfl) (Gives.p hE rfl) rfl ?_; clear hE a; intro a hE
      refine WL.nil ?_
      refine W.ret ?_
      refine finG (fn := Try.f56) (rs := [.tmp 8, .tmp 9]) (vs := [_, _]) hE rfl ⟨rfl, rfl, trivial⟩ ?_
      obtain rfl := Option.some.inj hr
      exact ⟨none, 0, s, rfl, (Sg.Le.refl _), Sl.nil, hS⟩
    · replace hr := iteF hc94 hr
      refine W.skip ?_
      refine W.seq ?_
      refine W.region ?_
      refine WL.vS hS hE (runs_plain rfl) (Gives.p hE rfl) rfl ?_; clear hE a; intro a hE
      refine WL.vS hS hE (runs_plain rfl) (Gives.len hE rfl sl87) rfl ?_; clear hE a; intro a hE
      obtain ⟨x95, hx96, hr⟩ := bindS hr
      refine WL.mkND (Rr := RI .i64) (Ti := 3) (es := 1) hE hS (runs_plain rfl) rfl rfl ap87 zr29 hx96 rfl ?_; clear hE hS a w; intro b97 ds98 a w h99 hE hS
      refine WL.vS hS hE (runs_plain rfl) (Gives.p hE rfl) rfl ?_; clear hE a; intro a hE
      refine WL.nil ?_
      refine W.seq ?_
      refine W.seq ?_
      refine W.region ?_
      refine WL.vS hS hE (runs_plain rfl) (Gives.p hE rfl) rfl ?_; clear hE a; intro a hE
      refine WL.vS hS hE (runs_plain rfl) (Gives.len hE rfl sl87) rfl ?_; clear hE a; intro a hE
      refine WL.vS hS hE (runs_plain rfl) (Gives.p hE rfl) rfl ?_; clear hE a; intro a hE
      refine WL.nil ?_
      obtain ⟨q102, hq101, hr⟩ := bindS hr
      refine W.cut (fun a w => ∃ (q112 : List (List Int)), ∃ (ds116 : List In), q112 = q102 ∧ NEv 1 (RI .i64) s ds116 q112 ∧ q112.length = x95.length ∧ Rep a 88 [(10, .slice (some ⟨b97, 0, none⟩) x95.length x95.length)] ∧ St w s (nestC 29 3 1 (some ⟨b97, 0, none⟩) x95.length x95.length ds116 :: R)) ?_ ?_
      · refine W.block ?_
        refine W.loop (fun m a w => ∃ (rest105 : List (List Int)) (k103 : Nat), ∃ (q112 : List (List Int)), ∃ (ds116 : List In), rest105.length = m ∧ x0.drop k103 = rest105 ∧ Fishref2Boundstighter.loop1 x0 x1 x2 x3 rest105 k103 q112 = some q102 ∧ NEv 1 (RI .i64) s ds116 q112 ∧ q112.length = x95.length ∧ Rep a 88 [(0, .slice a0 x0.length c0), (1, .int .i64 x1), (2, .int .i64 x2), (3, .int .i64 x3), (10, .slice (some ⟨b97, 0, none⟩) x95.length x95.length), (37, .int .i64 ((x0).length : Int)), (38, .int .i64 ((k103 : Nat) : Int))] ∧ St w s (nestC 29 3 1 (some ⟨b97, 0, none⟩) x95.length x95.length ds116 :: R)) (m := x0.length) ⟨x0, 0, x95, ds98, rfl, rfl, hq101, h99, (rfl), hE.pick _ ⟨rfl, rfl, rfl, rfl, rfl, rfl, rfl, trivial⟩, hS⟩ ?_
        clear hE hS a w hq101; rintro m109 a w ⟨rest105, k103, q112, ds116, rfl, hd106, hq101, h117, hn118, hE, hS⟩
        refine W.gen fun K119 hK119 => ?_
        rcases rest105 with _ | ⟨x104, rest105⟩
        · have hlt107 := drop_nil hd106
          refine W.seq ?_
          refine W.region ?_
          refine WL.vS hS hE (runs_plain rfl) (Gives.p hE rfl) rfl ?_; clear hE a; intro a hE
          refine WL.nil ?_
          refine W.seq ?_
          refine W.condF hE rfl (decide_eq_false (by omega)) ?_
          subst hK119
          refine W.exit rfl ?_
          exact ⟨q112, ds116, Option.some.inj hq101, h117, hn118, hE.pick _ ⟨rfl, trivial⟩, hS⟩
        · obtain ⟨hlt107, hx108, hd106⟩ := drop_cons hd106
          rw [Fishref2Boundstighter.loop1] at hq101
          refine W.seq ?_
          refine W.region ?_
          refine WL.vS hS hE (runs_plain rfl) (Gives.p hE rfl) rfl ?_; clear hE a; intro a hE
          refine WL.nil ?_
          refine W.seq ?_
          refine W.condT hE rfl (decide_eq_true (by omega)) ?_
          refine W.skip ?_
          refine W.seq ?_
          refine W.block ?_
          refine W.seq ?_
          refine W.region ?_
          refine WL.vS hS hE (runs_plain rfl) (Gives.p hE rfl) rfl ?_; clear hE a; intro a hE
          refine WL.vS hS hE (runs_plain rfl) (Gives.p hE rfl) rfl ?_; clear hE a; intro a hE
          refine WL.nil ?_
          refine W.seq ?_
          refine W.region ?_
          refine WL.vS hS hE (runs_plain rfl) (Gives.p hE rfl) rfl ?_; clear hE a; intro a hE
          refine WL.vS hS hE (runs_plain rfl) (Gives.p hE rfl) rfl ?_; clear hE a; intro a hE
          refine WL.vS hS hE (runs_plain rfl) (Gives.p hE rfl) rfl ?_; clear hE a; intro a hE
          refine WL.vS hS hE (runs_plain rfl) (Gives.p hE rfl) rfl ?_; clear hE a; intro a hE
          obtain ⟨cs120, hl121, hR122, hat123⟩ := h0.at hx108
          obtain ⟨a124, c125, rfl, h126⟩ := hR122
          refine WL.vS hS hE (runs_plain rfl) (Gives.idx hE k103 rfl rfl sl87 rfl hlt107 (h0.aok hlt107)) rfl ?_; clear hE a; intro a hE
          refine WL.vS hS hE (runs_plain rfl) (Gives.load1 hE rfl (fun w h => hat123 w _ h) ty29) rfl ?_; clear hE a; intro a hE
          obtain ⟨q127, hq128, hq101⟩ := bindS hq101
          have hc_ := SlicesCloneLint_ok hS h126 hq128
          refine WL.fnq hE (hc_) (runs_plain rfl) bd60 rfl rfl rfl ?_
          clear hE hS hc_; rintro e w ⟨a129, c130, n131, cs132, rfl, h133, rfl, hS⟩; refine ⟨_, rfl, ?_⟩; clear a; intro a hE
          obtain ⟨_, hx135, hq101⟩ := bindS hq101
          obtain ⟨h136, h137⟩ := ix_some hx135
          refine WL.vS hS hE (runs_plain rfl) (Gives.idx hE ((((k103 : Nat) : Int)).toNat) rfl rfl sl87 h136 (by have := hn118; omega) (hS.nAok 1 rfl (by have := hn118; omega : (((k103 : Nat) : Int)).toNat < x95.length))) rfl ?_; clear hE a; intro a hE
          obtain ⟨d138, hd139⟩ : ∃ d, ds116[(((k103 : Nat) : Int)).toNat]? = some d := ⟨_, List.getElem?_eq_getElem (by have h1 := h117.len; have h2 := hn118; omega)⟩
          replace hS := (hS.borrow 1 rfl hd139).tail
          obtain ⟨x140, hx141, hq101⟩ := bindS hq101
          refine WL.storeND hE hS 0 rfl (runs_plain rfl) rfl rfl ty29 h117 hn118 (by have := (sx_some hx141).1; omega) hx141 h133 rfl rfl ?_; clear hE hS a w; intro ds142 a w h143 hn144 hE hS
          refine WL.nil ?_
          refine W.seq ?_
          refine W.region ?_
          refine WL.vS hS hE (runs_plain rfl) (Gives.p hE rfl) rfl ?_; clear hE a; intro a hE
          refine WL.vS hS hE (runs_plain rfl) (Gives.len hE rfl sl87) rfl ?_; clear hE a; intro a hE
          refine WL.vS hS hE (runs_plain rfl) (Gives.p hE rfl) rfl ?_; clear hE a; intro a hE
          refine WL.nil ?_
          obtain ⟨q146, hq145, hq101⟩ := bindS hq101
          refine W.cut (fun a w => ∃ (q156 : List (List Int)), ∃ (ds160 : List In), q156 = q146 ∧ NEv 1 (RI .i64) s ds160 q156 ∧ q156.length = x95.length ∧ Rep a 88 [(0, .slice a0 x0.length c0), (1, .int .i64 x1), (2, .int .i64 x2), (3, .int .i64 x3), (10, .slice (some ⟨b97, 0, none⟩) x95.length x95.length), (37, .int .i64 ((x0).length : Int)), (38, .int .i64 ((k103 : Nat) : Int))] ∧ St w s (nestC 29 3 1 (some ⟨b97, 0, none⟩) x95.length x95.length ds160 :: R)) ?_ ?_
          · refine W.block ?_
            refine W.loop (fun m a w => ∃ (rest149 : List (List Int)) (k147 : Nat), ∃ (q156 : List (List Int)), ∃ (ds160 : List In), rest149.length = m ∧ x0.drop k147 = rest149 ∧ Fishref2Boundstighter.loop2 x0 x1 x2 x3 x104 k103 rest149 k147 q156 = some q146 ∧ NEv 1 (RI .i64) s ds160 q156 ∧ q156.length = x95.length ∧ Rep a 88 [(0, .slice a0 x0.length c0), (1, .int .i64 x1), (2, .int .i64 x2), (3, .int .i64 x3), (10, .slice (some ⟨b97, 0, none⟩) x95.length x95.length), (11, .int .i64 ((k103 : Nat) : Int)), (37, .int .i64 ((x0).length : Int)), (38, .int .i64 ((k103 : Nat) : Int)), (50, .int .i64 ((x0).length : Int)), (51, .int .i64 ((k147 : Nat) : Int))] ∧ St w s (nestC 29 3 1 (some ⟨b97, 0, none⟩) x95.length x95.length ds160 :: R)) (m := x0.length) ⟨x0, 0, x140, ds142, rfl, rfl, hq145, h143, hn144, hE.pick _ ⟨rfl, rfl, rfl, rfl, rfl, rfl, rfl, rfl, rfl, rfl, trivial⟩, hS⟩ ?_
            clear hE hS a w hq145; rintro m153 a w ⟨rest149, k147, q156, ds160, rfl, hd150, hq145, h161, hn162, hE, hS⟩
            refine W.gen fun K163 hK163 => ?_
            rcases rest149 with _ | ⟨x148, rest149⟩
            · have hlt151 := drop_nil hd150
              refine W.seq ?_
              refine W.region ?_
              refine WL.vS hS hE (runs_plain rfl) (Gives.p hE rfl) rfl ?_; clear hE a; intro a hE
              refine WL.nil ?_
              refine W.seq ?_
              refine W.condF hE rfl (decide_eq_false (by omega)) ?_
              subst hK163
              refine W.exit rfl ?_
              exact ⟨q156, ds160, Option.some.inj hq145, h161, hn162, hE.pick _ ⟨rfl, rfl, rfl, rfl, rfl, rfl, rfl, trivial⟩, hS⟩
            · obtain ⟨hlt151, hx152, hd150⟩ := drop_cons hd150
              rw [Fishref2Boundstighter.loop2] at hq145
              refine W.seq ?_
              refine W.region ?_
              refine WL.vS hS hE (runs_plain rfl) (Gives.p hE rfl) rfl ?_; clear hE a; intro a hE
              refine WL.nil ?_
              refine W.seq ?_
              refine W.condT hE rfl (decide_eq_true (by omega)) ?_
              refine W.skip ?_
              refine W.seq ?_
              refine W.block ?_
              refine W.seq ?_
              refine W.region ?_
              refine WL.vS hS hE (runs_plain rfl) (Gives.p hE rfl) rfl ?_; clear hE a; intro a hE
              refine WL.vS hS hE (runs_plain rfl) (Gives.p hE rfl) rfl ?_; clear hE a; intro a hE
              refine WL.nil ?_
              refine W.gen fun K164 hK164 => ?_
              refine W.regionE (sel (fun w => St w s (nestC 29 3 1 (some ⟨b97, 0, none⟩) x95.length x95.length ds160 :: R)) (fun w => St w s (R))) (fun b i => cond b ([0, 1, 2, 3, 4, 5, 6, 7, 8, 9, 10, 11, 12, 13, 14, 15, 16, 17, 18, 19, 20, 21, 22, 23, 24, 25, 26, 27, 28, 29].contains i) ([0, 1, 2, 3, 4, 5, 6, 7, 8, 9, 10, 11, 12, 13, 14, 15, 16, 17, 18, 19, 20, 21, 22, 23, 24, 25, 26, 27, 28, 29, 30, 31].contains i)) mixed ?_
              replace hS := hS.drew
              refine Rg.takeP (i := 0) hE rfl (by kernel_rfl) (runs_plain rfl) (Gives.p hE rfl) rfl (tw_sel (fun _ => hS) (fun _ => (hS.tail))) ?_; clear hE a; intro a hE
              refine Rg.takeP (i := 1) hE rfl (by kernel_rfl) (runs_plain rfl) (Gives.p hE rfl) rfl (tw_sel (fun _ => hS) (fun _ => (hS.tail))) ?_; clear hE a; intro a hE
              obtain ⟨x165, hx166, hq145⟩ := bindS hq145
              obtain ⟨hi167, hlt168, hy169⟩ := gx_some hx166
              obtain ⟨a170, c171, cs172, hd173, hev174⟩ := h161.at hy169
              refine Rg.takeP (i := 2) hE rfl (by kernel_rfl) (runs_plain rfl) (Gives.idx hE ((((k103 : Nat) : Int)).toNat) rfl rfl sl87 hi167 (by have := hn162; omega) (hS.nAok 0 rfl (by have := hn162; omega : (((k103 : Nat) : Int)).toNat < x95.length))) rfl (tw_sel (fun _ => hS) (fun _ => (hS.tail))) ?_; clear hE a; intro a hE
              have hT := tw_sel (A := fun w => St w s (nestC 29 3 1 (some ⟨b97, 0, none⟩) x95.length x95.length ds160 :: R)) (B := fun w => St w s (R)) (w := _) (x := true) (y := true) (fun _ => hS) (fun _ => (hS.tail))
              have hF := hS; replace hS := hS
              refine Rg.take (i := 3) true rfl hE rfl (by kernel_rfl) (runs_plain rfl) (Gives.load1 (v := .slice a170 x165.length c171) hE rfl (fun w h => St.nSees h 0 rfl hd173) ty29) rfl hT ?_; clear hE a; intro a hE
              replace hS := hF; clear hF hT
              refine Rg.takeP (i := 4) hE rfl (by kernel_rfl) (runs_plain rfl) (Gives.p hE rfl) rfl (tw_sel (fun _ => hS) (fun _ => (hS.tail))) ?_; clear hE a; intro a hE
              refine Rg.takeP (i := 5) hE rfl (by kernel_rfl) (runs_plain rfl) (Gives.p hE rfl) rfl (tw_sel (fun _ => hS) (fun _ => (hS.tail))) ?_; clear hE a; intro a hE
              refine Rg.takeP (i := 6) hE rfl (by kernel_rfl) (runs_plain rfl) (Gives.p hE rfl) rfl (tw_sel (fun _ => hS) (fun _ => (hS.tail))) ?_; clear hE a; intro a hE
              obtain ⟨x175, hx176, hq145⟩ := bindS hq145
              obtain ⟨hi177, hlt178, hy179⟩ := gx_some hx176
              obtain ⟨a180, c181, cs182, hd183, hev184⟩ := h161.at hy179
              refine Rg.takeP (i := 7) hE rfl (by kernel_rfl) (runs_plain rfl) (Gives.idx hE ((((k103 : Nat) : Int)).toNat) rfl rfl sl87 hi177 (by have := hn162; omega) (hS.nAok 0 rfl (by have := hn162; omega : (((k103 : Nat) : Int)).toNat < x95.length))) rfl (tw_sel (fun _ => hS) (fun _ => (hS.tail))) ?_; clear hE a; intro a hE
              have hT := tw_sel (A := fun w => St w s (nestC 29 3 1 (some ⟨b97, 0, none⟩) x95.length x95.length ds160 :: R)) (B := fun w => St w s (R)) (w := _) (x := true) (y := true) (fun _ => hS) (fun _ => (hS.tail))
              have hF := hS; replace hS := hS
              refine Rg.take (i := 8) true rfl hE rfl (by kernel_rfl) (runs_plain rfl) (Gives.load1 (v := .slice a180 x175.length c181) hE rfl (fun w h => St.nSees h 0 rfl hd183) ty29) rfl hT ?_; clear hE a; intro a hE
              replace hS := hF; clear hF hT
              refine Rg.takeP (i := 9) hE rfl (by kernel_rfl) (runs_plain rfl) (Gives.p hE rfl) rfl (tw_sel (fun _ => hS) (fun _ => (hS.tail))) ?_; clear hE a; intro a hE
              obtain ⟨x185, hx186, hq145⟩ := bindS hq145
              obtain ⟨hi187, hlt188, hy189⟩ := gx_some hx186
              obtain ⟨vs190, hl191, hR192, hd193, hget194⟩ := hev184.at hy189
              subst hR192
              refine Rg.takeP (i := 10) hE rfl (by kernel_rfl) (runs_plain rfl) (Gives.idx hE ((((k147 : Nat) : Int)).toNat) rfl rfl sl29 hi187 hlt188 (hS.nnAok 0 rfl hd183 hlt188)) rfl (tw_sel (fun _ => hS) (fun _ => (hS.tail))) ?_; clear hE a; intro a hE
              have hT := tw_sel (A := fun w => St w s (nestC 29 3 1 (some ⟨b97, 0, none⟩) x95.length x95.length ds160 :: R)) (B := fun w => St w s (R)) (w := _) (x := true) (y := true) (fun _ => hS) (fun _ => (hS.tail))
              have hF := hS; replace hS := hS
              refine Rg.take (i := 11) true rfl hE rfl (by kernel_rfl) (runs_plain rfl) (Gives.load1 hE rfl (fun w h => St.nnSees h 0 rfl hd183 ((((k147 : Nat) : Int)).toNat * 1) _ hget194) ty3) rfl hT ?_; clear hE a; intro a hE
              replace hS := hF; clear hF hT
              refine Rg.takeP (i := 12) hE rfl (by kernel_rfl) (runs_plain rfl) (Gives.p hE rfl) rfl (tw_sel (fun _ => hS) (fun _ => (hS.tail))) ?_; clear hE a; intro a hE
              refine Rg.takeP (i := 13) hE rfl (by kernel_rfl) (runs_plain rfl) (Gives.p hE rfl) rfl (tw_sel (fun _ => hS) (fun _ => (hS.tail))) ?_; clear hE a; intro a hE
              refine Rg.takeP (i := 14) hE rfl (by kernel_rfl) (runs_plain rfl) (Gives.idx hE k103 rfl rfl sl87 rfl hlt107 (h0.aok hlt107)) rfl (tw_sel (fun _ => hS) (fun _ => (hS.tail))) ?_; clear hE a; intro a hE
              have hT := tw_sel (A := fun w => St w s (nestC 29 3 1 (some ⟨b97, 0, none⟩) x95.length x95.length ds160 :: R)) (B := fun w => St w s (R)) (w := _) (x := true) (y := true) (fun _ => hS) (fun _ => (hS.tail))
              have hF := hS; replace hS := hS
              refine Rg.take (i := 15) true rfl hE rfl (by kernel_rfl) (runs_plain rfl) (Gives.load1 hE rfl (fun w h => hat123 w _ h) ty29) rfl hT ?_; clear hE a; intro a hE
              replace hS := hF; clear hF hT
              refine Rg.takeP (i := 16) hE rfl (by kernel_rfl) (runs_plain rfl) (Gives.p hE rfl) rfl (tw_sel (fun _ => hS) (fun _ => (hS.tail))) ?_; clear hE a; intro a hE
              obtain ⟨x195, hx196, hq145⟩ := bindS hq145
              obtain ⟨hi197, hlt198, hy199⟩ := gx_some hx196
              obtain ⟨cs200, hl201, hR202, hat203⟩ := h126.at hy199
              subst hR202
              refine Rg.takeP (i := 17) hE rfl (by kernel_rfl) (runs_plain rfl) (Gives.idx hE (x1).toNat rfl rfl sl29 hi197 hlt198 (h126.aok hlt198)) rfl (tw_sel (fun _ => hS) (fun _ => (hS.tail))) ?_; clear hE a; intro a hE
              have hT := tw_sel (A := fun w => St w s (nestC 29 3 1 (some ⟨b97, 0, none⟩) x95.length x95.length ds160 :: R)) (B := fun w => St w s (R)) (w := _) (x := true) (y := true) (fun _ => hS) (fun _ => (hS.tail))
              have hF := hS; replace hS := hS
              refine Rg.take (i := 18) true rfl hE rfl (by kernel_rfl) (runs_plain rfl) (Gives.load1 hE rfl (fun w h => hat203 w _ h) ty3) rfl hT ?_; clear hE a; intro a hE
              replace hS := hF; clear hF hT
              refine Rg.takeP (i := 19) hE rfl (by kernel_rfl) (runs_plain rfl) (Gives.p hE rfl) rfl (tw_sel (fun _ => hS) (fun _ => (hS.tail))) ?_; clear hE a; intro a hE
              refine Rg.takeP (i := 20) hE rfl (by kernel_rfl) (runs_plain rfl) (Gives.p hE rfl) rfl (tw_sel (fun _ => hS) (fun _ => (hS.tail))) ?_; clear hE a; intro a hE
              refine Rg.takeP (i := 21) hE rfl (by kernel_rfl) (runs_plain rfl) (Gives.p hE rfl) rfl (tw_sel (fun _ => hS) (fun _ => (hS.tail))) ?_; clear hE a; intro a hE
              refine Rg.takeP (i := 22) hE rfl (by kernel_rfl) (runs_plain rfl) (Gives.p hE rfl) rfl (tw_sel (fun _ => hS) (fun _ => (hS.tail))) ?_; clear hE a; intro a hE
              obtain ⟨x204, hx205, hq145⟩ := bindS hq145
              obtain ⟨hi206, hlt207, hy208⟩ := gx_some hx205
              obtain ⟨cs209, hl210, hR211, hat212⟩ := h0.at hy208
              obtain ⟨a213, c214, rfl, h215⟩ := hR211
              refine Rg.takeP (i := 23) hE rfl (by kernel_rfl) (runs_plain rfl) (Gives.idx hE (x2).toNat rfl rfl sl87 hi206 hlt207 (h0.aok hlt207)) rfl (tw_sel (fun _ => hS) (fun _ => (hS.tail))) ?_; clear hE a; intro a hE
              have hT := tw_sel (A := fun w => St w s (nestC 29 3 1 (some ⟨b97, 0, none⟩) x95.length x95.length ds160 :: R)) (B := fun w => St w s (R)) (w := _) (x := true) (y := true) (fun _ => hS) (fun _ => (hS.tail))
              have hF := hS; replace hS := hS
              refine Rg.take (i := 24) true rfl hE rfl (by kernel_rfl) (runs_plain rfl) (Gives.load1 hE rfl (fun w h => hat212 w _ h) ty29) rfl hT ?_; clear hE a; intro a hE
              replace hS := hF; clear hF hT
              refine Rg.takeP (i := 25) hE rfl (by kernel_rfl) (runs_plain rfl) (Gives.p hE rfl) rfl (tw_sel (fun _ => hS) (fun _ => (hS.tail))) ?_; clear hE a; intro a hE
              obtain ⟨x216, hx217, hq145⟩ := bindS hq145
              obtain ⟨hi218, hlt219, hy220⟩ := gx_some hx217
              obtain ⟨cs221, hl222, hR223, hat224⟩ := h215.at hy220
              subst hR223
              refine Rg.takeP (i := 26) hE rfl (by kernel_rfl) (runs_plain rfl) (Gives.idx hE (((k147 : Nat) : Int)).toNat rfl rfl sl29 hi218 hlt219 (h215.aok hlt219)) rfl (tw_sel (fun _ => hS) (fun _ => (hS.tail))) ?_; clear hE a; intro a hE
              have hT := tw_sel (A := fun w => St w s (nestC 29 3 1 (some ⟨b97, 0, none⟩) x95.length x95.length ds160 :: R)) (B := fun w => St w s (R)) (w := _) (x := true) (y := true) (fun _ => hS) (fun _ => (hS.tail))
              have hF := hS; replace hS := hS
              refine Rg.take (i := 27) true rfl hE rfl (by kernel_rfl) (runs_plain rfl) (Gives.load1 hE rfl (fun w h => hat224 w _ h) ty3) rfl hT ?_; clear hE a; intro a hE
              replace hS := hF; clear hF hT
              refine Rg.takeP (i := 28) hE rfl (by kernel_rfl) (runs_plain rfl) (Gives.p hE rfl) rfl (tw_sel (fun _ => hS) (fun _ => (hS.tail))) ?_; clear hE a; intro a hE
              refine Rg.takeP (i := 29) hE rfl (by kernel_rfl) (runs_plain rfl) (Gives.min2 hE rfl rfl) rfl (tw_sel (fun _ => hS) (fun _ => (hS.tail))) ?_; clear hE a; intro a hE
              refine Rg.one (i := 30) false true rfl (by kernel_rfl) (by kernel_rfl) (by kernel_rfl) ?_
              replace hS := hS.borrowM 0 rfl hd173
              obtain ⟨_, hx227, hq145⟩ := bindS hq145
              obtain ⟨h228, h229⟩ := ix_some hx227
              refine WL.vS hS hE (runs_plain rfl) (Gives.idx hE ((((k147 : Nat) : Int)).toNat) rfl rfl sl29 h228 (by omega) (hS.vecAok 0 rfl (by omega : (((k147 : Nat) : Int)).toNat < x165.length))) rfl ?_; clear hE a; intro a hE
              refine WL.nil ?_
              refine ⟨⟨fun h => absurd h (by decide), fun _ => ((hS.tail).tail)⟩, ?_⟩
              refine Rg.one (i := 31) false true rfl (by kernel_rfl) (by kernel_rfl) (by kernel_rfl) ?_
              obtain ⟨x231, hx232, hq145⟩ := bindS hq145
              refine WL.setD hE hS 0 rfl (runs_plain rfl) rfl rfl (vs := [.int .i64 (mn x185 (w64 ((w64 (x195 + x3)) + x216)))]) rfl ty3 rfl rfl rfl hev174 (rfl) (sx_some hx232).1 hx232 rfl rfl ?_; clear hE hS a w; intro cs233 a w h234 hn235 hE hS
              refine WL.nil ?_
              refine ⟨⟨fun h => absurd h (by decide), fun _ => ((hS.tail).tail)⟩, ?_⟩
              refine Rg.done (by kernel_rfl) ?_
              subst hK164
              refine W.region ?_
              refine WL.vS hS hE (runs_plain rfl) (Gives.inc hE rfl (by have := h0.small; omega)) rfl ?_; clear hE a; intro a hE
              refine WL.vS hS hE (runs_plain rfl) (Gives.p hE rfl) rfl ?_; clear hE a; intro a hE
              refine WL.nil ?_
              replace hS := hS.giveBack 0 rfl hd173
              have h237 := h161.set (k := (((k103 : Nat) : Int)).toNat) (d := ⟨a170, c171, x165.length, cs233⟩) h234 hn235
              have hn238 : (q156.set ((((k103 : Nat) : Int)).toNat) x231).length = x95.length := by simp; exact hn162
              generalize List.set ds160 ((((k103 : Nat) : Int)).toNat) _ = ds236 at hS h237
              subst hK163
              exact ⟨rest149.length, Nat.lt_succ_self _, rest149, k147 + 1, (q156.set ((((k103 : Nat) : Int)).toNat) x231), ds236, rfl, hd150, hq145, h237, hn238, hE.pick _ ⟨rfl, rfl, rfl, rfl, rfl, rfl, rfl, rfl, rfl, rfl, trivial⟩, hS⟩
          · clear hE hS a w; rintro a w ⟨q156, ds160, rfl, h161, hn162, hE, hS⟩
            refine W.region ?_
            refine WL.vS hS hE (runs_plain rfl) (Gives.inc hE rfl (by have := h0.small; omega)) rfl ?_; clear hE a; intro a hE
            refine WL.vS hS hE (runs_plain rfl) (Gives.p hE rfl) rfl ?_; clear hE a; intro a hE
            refine WL.nil ?_
            subst hK119
            exact ⟨rest105.length, Nat.lt_succ_self _, rest105, k103 + 1, q156, ds160, rfl, hd106, hq101, h161, hn162, hE.pick _ ⟨rfl, rfl, rfl, rfl, rfl, rfl, rfl, trivial⟩, hS⟩
      · clear hE hS a w; rintro a w ⟨q112, ds116, rfl, h117, hn118, hE, hS⟩
        refine W.seq ?_
        refine W.region ?_
        refine WL.vS hS hE (runs_plain rfl) (Gives.p hE rfl) rfl ?_; clear hE a; intro a hE
        refine WL.vS hS hE (runs_plain rfl) (Gives.p hE rfl) rfl ?_; clear hE a; intro a hE
        refine WL.vS hS hE (runs_plain rfl) (Gives.p hE rfl) rfl ?_; clear hE a; intro a hE
        refine WL.nil ?_
        refine W.ret ?_
        have hF := hS.fixN RI.mono 0 rfl h117 hn118; clear hS; obtain ⟨s239, hle240, hS, h241⟩ := hF
        (try rw [← hn118] at hE)
        (try rw [← hn118] at hS)
        (try rw [← hn118] at h241)
        refine finG (fn := Try.f56) (rs := [.tmp 8, .tmp 9]) (vs := [_, _]) hE rfl ⟨rfl, rfl, trivial⟩ ?_
        obtain rfl := Option.some.inj hr
        exact ⟨(some ⟨b97, 0, none⟩), q112.length, s239, rfl, hle240, h241, hS⟩
set_option maxHeartbeats 8000000 in
theorem Fishref2Solvable_1_ok  {w : World} {s : Sg} {R : List HP} {x0 : List (List Int)} {a0 : Option Addr} {c0 : Nat} (hS : St w s (R)) (_h0 : Sl 1 (RL 1 (RI .i64)) s a0 c0 x0) {r : Bool} (hr : Fishref2Solvable_1 x0 = r) :
    Calls Try.prog 57 [.slice a0 x0.length c0].toArray w (fun e w => e = .returned (.bool r) ∧ St w s (R)) := by
  refine enter Try.func57 rfl rfl rfl fun a hE => ?_
  rw [Fishref2Solvable_1] at hr
  refine W.seq ?_
  refine W.region ?_
  refine WL.vS hS hE (runs_plain rfl) (Gives.p hE rfl) rfl ?_; clear hE a; intro a hE
  refine WL.nil ?_
  refine W.seq ?_
  refine W.region ?_
  refine WL.vS hS hE (runs_plain rfl) (Gives.p hE rfl) rfl ?_; clear hE a; intro a hE
  refine WL.nil ?_
  refine W.ret ?_
  refine finG (fn := Try.f57) (rs := [.tmp 2]) (vs := [_]) hE rfl ⟨rfl, trivial⟩ ?_
  subst hr
  exact ⟨rfl, hS⟩
set_option maxHeartbeats 8000000 in
theorem SlicesCloneLplanRule_ok  {w : World} {s : Sg} {R : List HP} {x0 : List PlanRule} {a0 : Option Addr} {c0 : Nat} (hS : St w s (R)) (h0 : Sl 5 RPlanRule s a0 c0 x0) {r : (List PlanRule)} (hr : SlicesCloneLplanRule x0 = some r) :
    Calls Try.prog 84 [.slice a0 x0.length c0].toArray w (fun e w => ∃ (a0 : Option Addr) (c0 n0 : Nat) (cs0 : List Value), e = .returned (.slice a0 n0 c0) ∧ Ev 5 RPlanRule s cs0 r ∧ r.length = n0 ∧ St w s (vecC 37 5 a0 c0 n0 cs0 :: R)) := by
  refine enter Try.func84 rfl rfl rfl fun a hE => ?_
  rw [SlicesCloneLplanRule] at hr
  refine W.seq ?_
  refine W.region ?_
  refine WL.vS hS hE (runs_plain rfl) (Gives.p hE rfl) rfl ?_; clear hE a; intro a hE
  refine WL.nil ?_
  refine W.seq ?_
  refine W.seq ?_
  refine W.region ?_
  refine WL.vS hS hE (runs_plain rfl) (Gives.p hE rfl) rfl ?_; clear hE a; intro a hE
  refine WL.vS hS hE (runs_plain rfl) (Gives.isNil hE rfl rfl isl22) rfl ?_; clear hE a; intro a hE
  refine WL.nil ?_
  rcases a0 with _ | g51
  · obtain rfl := h0.none_nil
    replace hr : some [] = _ := hr
    refine W.condT hE rfl rfl ?_
    refine W.seq ?_
    refine W.region ?_
    refine WL.vS hS hE (runs_plain rfl) (Gives.p hE rfl) rfl ?_; clear hE a; intro a hE
    refine WL.nil ?_
    refine W.ret ?_
    replace hS := hS.vecNil 37 5
    refine finG (fn := Try.f84) (rs := [.tmp 2]) (vs := [_]) hE rfl ⟨rfl, trivial⟩ ?_
    obtain rfl := Option.some.inj hr
    exact ⟨none, 0, 0, [], rfl, (Ev.nil), (rfl), hS⟩
  · skip
    refine W.condF hE rfl rfl ?_
    refine W.skip ?_
    refine W.seq ?_
    refine W.region ?_
    refine WL.lit hE hS (e := 37) (es := 5) (vs := []) (cs := []) (runs_plain rfl) rfl (by kernel_rfl) rfl ?_; clear hE hS a w; intro b53 a w hE hS
    replace hS := hS.ptVec (es := 5) (m := 0) rfl (by decide)
    have h55 : Ev 5 RPlanRule s [] [] := (Ev.nil)
    refine WL.vS hS hE (runs_plain rfl) (Gives.p hE rfl) rfl ?_; clear hE a; intro a hE
    obtain ⟨x56, hx57, hr⟩ := bindS hr
    refine WL.appS hE hS 0 (runs_plain rfl) rfl rfl (xs := x0) rfl rfl ap22 RPlanRule.one h55 (rfl) h0 hx57 rfl ?_; clear hE hS a w; intro a58 c59 cs60 a w h61 hE hS
    refine WL.vS hS hE (runs_plain rfl) (Gives.p hE rfl) rfl ?_; clear hE a; intro a hE
    refine WL.nil ?_
    refine W.ret ?_
    refine finG (fn := Try.f84) (rs := [.tmp 2]) (vs := [_]) hE rfl ⟨rfl, trivial⟩ ?_
    obtain rfl := Option.some.inj hr
    exact ⟨a58, c59, x56.length, cs60, rfl, h61, (rfl), hS⟩
set_option maxHeartbeats 8000000 in
theorem SlicesDeleteLplanRule_v1_ok  {w : World} {s : Sg} {R : List HP} {x0 : List PlanRule} {a_v0 : Option Addr} {c_v0 n_v0 : Nat} {cs_v0 : List Value} {x1 : Int} {x2 : Int} (hS : St w s (vecC 37 5 a_v0 c_v0 n_v0 cs_v0 :: R)) (h_v0 : Ev 5 RPlanRule s cs_v0 x0) (hn_v0 : x0.length = n_v0) {r : (List PlanRule)} (hr : SlicesDeleteLplanRule_v1 x0 x1 x2 = some r) :
    Calls Try.prog 83 [.slice a_v0 n_v0 c_v0, .int .i64 x1, .int .i64 x2].toArray w (fun e w => ∃ (a0 : Option Addr) (c0 n0 : Nat) (cs0 : List Value), e = .returned (.slice a0 n0 c0) ∧ Ev 5 RPlanRule s cs0 r ∧ r.length = n0 ∧ St w s (vecC 37 5 a0 c0 n0 cs0 :: R)) := by
  refine enter Try.func83 rfl rfl rfl fun a hE => ?_
  rw [SlicesDeleteLplanRule_v1] at hr
  subst hn_v0
  refine W.seq ?_
  refine W.region ?_
  refine WL.vS hS hE (runs_plain rfl) (Gives.p hE rfl) rfl ?_; clear hE a; intro a hE
  refine WL.nil ?_
  refine W.seq ?_
  refine W.region ?_
  refine WL.vS hS hE (runs_plain rfl) (Gives.p hE rfl) rfl ?_; clear hE a; intro a hE
  refine WL.vS hS hE (runs_plain rfl) (Gives.p hE rfl) rfl ?_; clear hE a; intro a hE
  refine WL.vS hS hE (runs_plain rfl) (Gives.p hE rfl) rfl ?_; clear hE a; intro a hE
  refine WL.vS hS hE (runs_plain rfl) (Gives.p hE rfl) rfl ?_; clear hE a; intro a hE
  refine WL.vS hS hE (runs_plain rfl) (Gives.len hE rfl sl22) rfl ?_; clear hE a; intro a hE
  obtain ⟨x51, hx52, hr⟩ := bindS hr
  obtain ⟨h53, h54, h55, h56, h57, h58⟩ := cutl_some hx52
  have h59 := (hS.vecCap 0 rfl).1
  refine WL.vS hS hE (runs_plain rfl) (Gives.slLHM hE sl22 rfl rfl rfl rfl h53 h54 (by omega) (by omega) rfl) rfl ?_; clear hE a; intro a hE
  refine WL.nil ?_
  refine W.seq ?_
  refine W.seq ?_
  refine W.region ?_
  refine WL.vS hS hE (runs_plain rfl) (Gives.p hE rfl) rfl ?_; clear hE a; intro a hE
  refine WL.vS hS hE (runs_plain rfl) (Gives.p hE rfl) rfl ?_; clear hE a; intro a hE
  refine WL.vS hS hE (runs_plain rfl) (Gives.p hE rfl) rfl ?_; clear hE a; intro a hE
  refine WL.nil ?_
  refine W.cond hE rfl (fun hc60 => ?_) (fun hc60 => ?_)
  · replace hr := iteT hc60 hr
    refine W.seq ?_
    refine W.region ?_
    refine WL.vS hS hE (runs_plain rfl) (Gives.p hE rfl) rfl ?_; clear hE a; intro a hE
    refine WL.vS hS hE (runs_plain rfl) (Gives.p hE rfl) rfl ?_; clear hE a; intro a hE
    refine WL.nil ?_
    refine W.ret ?_
    refine finG (fn := Try.f83) (rs := [.tmp 6]) (vs := [_]) hE rfl ⟨rfl, trivial⟩ ?_
    obtain rfl := Option.some.inj hr
    exact ⟨a_v0, c_v0, x0.length, cs_v0, rfl, h_v0, (rfl), hS⟩
  · replace hr := iteF hc60 hr
    refine W.skip ?_
    refine W.seq ?_
    refine W.region ?_
    refine WL.vS hS hE (runs_plain rfl) (Gives.p hE rfl) rfl ?_; clear hE a; intro a hE
    refine WL.vS hS hE (runs_plain rfl) (Gives.len hE rfl sl22) rfl ?_; clear hE a; intro a hE
    refine WL.vS hS hE (runs_plain rfl) (Gives.p hE rfl) rfl ?_; clear hE a; intro a hE
    refine WL.nil ?_
    refine W.seq ?_
    refine W.gen fun K61 hK61 => ?_
    refine W.regionE (sel (fun w => St w s (R)) (fun w => St w s (R))) (fun b i => cond b ([0, 1, 2, 3, 4, 5, 6, 7].contains i) ([0, 1, 2, 3, 4, 5, 6, 7].contains i)) mixed ?_
    replace hS := hS.drew
    refine Rg.takeP (i := 0) hE rfl (by kernel_rfl) (runs_plain rfl) (Gives.p hE rfl) rfl (tw_sel (fun _ => (hS.tail)) (fun _ => (hS.tail))) ?_; clear hE a; intro a hE
    refine Rg.takeP (i := 1) hE rfl (by kernel_rfl) (runs_plain rfl) (Gives.p hE rfl) rfl (tw_sel (fun _ => (hS.tail)) (fun _ => (hS.tail))) ?_; clear hE a; intro a hE
    obtain ⟨x62, hx63, hr⟩ := bindS hr
    obtain ⟨h64, h65, h66, h67, h68, h69⟩ := cutl_some hx63
    have h70 := (hS.vecCap 0 rfl).1
    refine Rg.takeP (i := 2) hE rfl (by kernel_rfl) (runs_plain rfl) (Gives.slH hE sl22 rfl rfl h65 (Int.le_trans h66 (by omega)) rfl) rfl (tw_sel (fun _ => (hS.tail)) (fun _ => (hS.tail))) ?_; clear hE a; intro a hE
    refine Rg.takeP (i := 3) hE rfl (by kernel_rfl) (runs_plain rfl) (Gives.p hE rfl) rfl (tw_sel (fun _ => (hS.tail)) (fun _ => (hS.tail))) ?_; clear hE a; intro a hE
    refine Rg.takeP (i := 4) hE rfl (by kernel_rfl) (runs_plain rfl) (Gives.p hE rfl) rfl (tw_sel (fun _ => (hS.tail)) (fun _ => (hS.tail))) ?_; clear hE a; intro a hE
    obtain ⟨x71, hx72, hr⟩ := bindS hr
    obtain ⟨h73, h74, h75, h76, h77, h78⟩ := cutl_some hx72
    have h79 := (hS.vecCap 0 rfl).1
    refine Rg.takeP (i := 5) hE rfl (by kernel_rfl) (runs_plain rfl) (Gives.slL hE sl22 rfl rfl h73 (by omega) rfl) rfl (tw_sel (fun _ => (hS.tail)) (fun _ => (hS.tail))) ?_; clear hE a; intro a hE
    refine Rg.one (i := 6) true true rfl (by kernel_rfl) (by kernel_rfl) (by kernel_rfl) ?_
    obtain ⟨x80, hx81, hr⟩ := bndS hr
    have hz84 := (hS.vecCap 0 rfl).1
    have hz85 : x80.length + ((x2).toNat - (x1).toNat) = x0.length := by rw [← hx81]; simp; omega
    refine WL.del hE hS 0 (runs_plain rfl) ap22 rfl rfl rfl (by omega) (by omega) h_v0 (rfl) RPlanRule.one hx81 rfl ?_; clear hE hS a w; intro cs82 a w h83 hE hS
    refine WL.nil ?_
    refine ⟨⟨fun _ => (hS.tail), fun _ => (hS.tail)⟩, ?_⟩
    refine Rg.takeP (i := 7) hE rfl (by kernel_rfl) (runs_plain rfl) (Gives.p hE rfl) rfl (tw_sel (fun _ => (hS.tail)) (fun _ => (hS.tail))) ?_; clear hE a; intro a hE
    refine Rg.done (by kernel_rfl) ?_
    subst hK61
    refine W.seq ?_
    refine W.region ?_
    refine WL.vS hS hE (runs_plain rfl) (Gives.p hE rfl) rfl ?_; clear hE a; intro a hE
    refine WL.vS hS hE (runs_plain rfl) (Gives.p hE rfl) rfl ?_; clear hE a; intro a hE
    refine WL.vS hS hE (runs_plain rfl) (Gives.len hE rfl sl22) rfl ?_; clear hE a; intro a hE
    refine WL.vS hS hE (runs_plain rfl) (Gives.p hE rfl) rfl ?_; clear hE a; intro a hE
    refine WL.vS hS hE (runs_plain rfl) (Gives.slLH hE sl22 rfl rfl rfl (by omega) (by omega) (by omega) rfl) rfl ?_; clear hE a; intro a hE
    refine WL.clrS hE hS 0 (lo := x80.length) (hi := x0.length) (runs_plain rfl) cl22 rfl rfl (by omega) (by omega) (by omega) rfl ?_; clear hE hS a w; intro a w hE hS
    refine WL.nil ?_
    refine W.seq ?_
    refine W.region ?_
    refine WL.vS hS hE (runs_plain rfl) (Gives.p hE rfl) rfl ?_; clear hE a; intro a hE
    refine WL.vS hS hE (runs_plain rfl) (Gives.p hE rfl) rfl ?_; clear hE a; intro a hE
    refine WL.nil ?_
    refine W.ret ?_
    refine finG (fn := Try.f83) (rs := [.tmp 6]) (vs := [_]) hE rfl ⟨rfl, trivial⟩ ?_
    obtain rfl := Option.some.inj hr
    exact ⟨a_v0, c_v0, x80.length, cs82, rfl, h83, (rfl), hS⟩
set_option maxHeartbeats 8000000 in
theorem Fishref2shifts_v1_ok : ∀ {fu : Nat} {w : World} {s : Sg} {R : List HP} {x0 : PlanPeriodic} {a0_0 : Option Addr} {c0_0 : Nat} {x1 : List (List Int)} {a1 : Option Addr} {c1 : Nat} {x2 : List PlanRule} {a2 : Option Addr} {c2 : Nat} (_hS : St w s (R)) (_h0_0 : Sl 5 RPlanRule s a0_0 c0_0 x0.Rules) (_h1 : Sl 1 (RL 1 (RI .i64)) s a1 c1 x1) (_h2 : Sl 5 RPlanRule s a2 c2 x2) {r : Bool} (_hr : Fishref2shifts_v1 fu x0 x1 x2 = some r),
    Calls Try.prog 58 [.agg [.int .i64 x0.Period, .int .i64 x0.Events, .slice a0_0 x0.Rules.length c0_0].toArray, .slice a1 x1.length c1, .slice a2 x2.length c2, .func (.func 57) #[] #[], .func (.func 57) #[] #[]].toArray w (fun e w => e = .returned (.bool r) ∧ St w s (R)) := by
  intro fu
  induction fu with
  | zero => intro w s R x0 a0_0 c0_0 x1 a1 c1 x2 a2 c2 hS h0_0 h1 h2 r hr; rw [Fishref2shifts_v1] at hr; exact absurd hr (by simp)
  | succ fu ih_Fishref2shifts_v1 =>
    intro w s R x0 a0_0 c0_0 x1 a1 c1 x2 a2 c2 hS h0_0 h1 h2 r hr
    rw [Fishref2shifts_v1] at hr
    generalize Fishref2shifts_v1 fu = self_Fishref2shifts_v1 at hr ih_Fishref2shifts_v1
    refine enter Try.func58 rfl rfl rfl fun a hE => ?_
    refine W.seq ?_
    refine W.region ?_
    refine WL.box hE hS (runs_plain rfl) rfl rfl rfl ?_; clear hE hS a w; intro b51 a w hE hS
    refine WL.vS hS hE (runs_plain rfl) (Gives.p hE rfl) rfl ?_; clear hE a; intro a hE
    refine WL.nil ?_
    refine W.seq ?_
    refine W.seq ?_
    refine W.region ?_
    refine WL.vS hS hE (runs_plain rfl) (Gives.p hE rfl) rfl ?_; clear hE a; intro a hE
    refine WL.vS hS hE (runs_plain rfl) (Gives.p hE rfl) rfl ?_; clear hE a; intro a hE
    refine WL.fnw hE (Fishref2Solvable_1_ok hS h1 rfl (r := Fishref2Solvable_1 x1)) rfl (runs_plain rfl) bd57 rfl rfl rfl ?_
    clear hE hS; rintro e w ⟨rfl, hS⟩; refine ⟨_, rfl, ?_⟩; clear a; intro a hE
    refine WL.vS hS hE (runs_plain rfl) (Gives.p hE rfl) rfl ?_; clear hE a; intro a hE
    refine WL.nil ?_
    refine W.cond hE rfl (fun hc52 => ?_) (fun hc52 => ?_)
    · replace hr := iteT hc52 hr
      refine W.seq ?_
      refine W.region ?_
      refine WL.vS hS hE (runs_plain rfl) (Gives.p hE rfl) rfl ?_; clear hE a; intro a hE
      refine WL.nil ?_
      refine W.ret ?_
      refine finG (fn := Try.f58) (rs := [.tmp 10]) (vs := [_]) hE rfl ⟨rfl, trivial⟩ ?_
      obtain rfl := Option.some.inj hr
      replace hS := hS.tail
      exact ⟨rfl, hS⟩
    · replace hr := iteF hc52 hr
      refine W.skip ?_
      refine W.seq ?_
      refine W.seq ?_
      refine W.region ?_
      refine WL.vS hS hE (runs_plain rfl) (Gives.p hE rfl) rfl ?_; clear hE a; intro a hE
      refine WL.vS hS hE (runs_plain rfl) (Gives.len hE rfl sl22) rfl ?_; clear hE a; intro a hE
      refine WL.vS hS hE (runs_plain rfl) (Gives.p hE rfl) rfl ?_; clear hE a; intro a hE
      refine WL.nil ?_
      refine W.cond hE rfl (fun hc53 => ?_) (fun hc53 => ?_)
      · replace hr := iteT hc53 hr
        refine W.seq ?_
        refine W.region ?_
        refine WL.vS hS hE (runs_plain rfl) (Gives.p hE rfl) rfl ?_; clear hE a; intro a hE
        refine WL.vS hS hE (runs_plain rfl) (Gives.p hE rfl) rfl ?_; clear hE a; intro a hE
        refine WL.fnw hE (Fishref2Solvable_1_ok hS h1 rfl (r := Fishref2Solvable_1 x1)) rfl (runs_plain rfl) bd57 rfl rfl rfl ?_
        clear hE hS; rintro e w ⟨rfl, hS⟩; refine ⟨_, rfl, ?_⟩; clear a; intro a hE
        refine WL.vS hS hE (runs_plain rfl) (Gives.p hE rfl) rfl ?_; clear hE a; intro a hE
        refine WL.nil ?_
        refine W.ret ?_
        refine finG (fn := Try.f58) (rs := [.tmp 10]) (vs := [_]) hE rfl ⟨rfl, trivial⟩ ?_
        obtain rfl := Option.some.inj hr
        replace hS := hS.tail
        exact ⟨rfl, hS⟩
      · replace hr := iteF hc53 hr
        refine W.skip ?_
        refine W.seq ?_
        refine W.region ?_
        refine WL.vS hS hE (runs_plain rfl) (Gives.p hE rfl) rfl ?_; clear hE a; intro a hE
        refine WL.vS hS hE (runs_plain rfl) (Gives.p hE rfl) rfl ?_; clear hE a; intro a hE
        refine WL.nil ?_
        refine W.seq ?_
        refine W.seq ?_
        refine W.region ?_
        refine WL.vS hS hE (runs_plain rfl) (Gives.p hE rfl) rfl ?_; clear hE a; intro a hE
        refine WL.vS hS hE (runs_plain rfl) (Gives.len hE rfl sl22) rfl ?_; clear hE a; intro a hE
        refine WL.vS hS hE (runs_plain rfl) (Gives.p hE rfl) rfl ?_; clear hE a; intro a hE
        refine WL.nil ?_
        obtain ⟨q55, hq54, hr⟩ := bindS hr
        refine W.cut (fun a w => ∃ (q65 : Int), ∃ (q66 : List (List (List Int))), ∃ (a67 : Option Addr), ∃ (c68 : Nat), ∃ (s63 : Sg), s.Le s63 ∧ (.next (q65, q66)) = q55 ∧ Sl 1 (RL 1 (RL 1 (RI .i64))) s63 a67 c68 q66 ∧ Rep a 127 [(2, .slice a2 x2.length c2), (3, .func (.func 57) #[] #[]), (4, .func (.func 57) #[] #[]), (5, .pointer (some ⟨b51, 0, none⟩)), (11, .int .i64 q65), (12, .slice a67 q66.length c68)] ∧ St w s63 (pt b51 (.cells #[.int .i64 x0.Period, .int .i64 x0.Events, .slice a0_0 x0.Rules.length c0_0] 24 (0, 0)) :: R)) ?_ ?_
        · refine W.block ?_
          refine W.loop (fun m a w => ∃ (rest58 : List PlanRule) (k56 : Nat), ∃ (q65 : Int), ∃ (q66 : List (List (List Int))), ∃ (a67 : Option Addr), ∃ (c68 : Nat), ∃ (s63 : Sg), rest58.length = m ∧ x2.drop k56 = rest58 ∧ s.Le s63 ∧ Fishref2shifts_v1.loop1 x0 x1 fu rest58 k56 q65 q66 = some q55 ∧ Sl 1 (RL 1 (RL 1 (RI .i64))) s63 a67 c68 q66 ∧ Rep a 127 [(1, .slice a1 x1.length c1), (2, .slice a2 x2.length c2), (3, .func (.func 57) #[] #[]), (4, .func (.func 57) #[] #[]), (5, .pointer (some ⟨b51, 0, none⟩)), (11, .int .i64 q65), (12, .slice a67 q66.length c68), (32, .slice a2 x2.length c2), (33, .int .i64 ((x2).length : Int)), (34, .int .i64 ((k56 : Nat) : Int))] ∧ St w s63 (pt b51 (.cells #[.int .i64 x0.Period, .int .i64 x0.Events, .slice a0_0 x0.Rules.length c0_0] 24 (0, 0)) :: R)) (m := x2.length) ⟨x2, 0, (-1), [], none, 0, s, rfl, rfl, (Sg.Le.refl _), hq54, Sl.nil, hE.pick _ ⟨rfl, rfl, rfl, rfl, rfl, rfl, rfl, rfl, rfl, rfl, trivial⟩, hS⟩ ?_
          clear hE hS a w hq54; rintro m62 a w ⟨rest58, k56, q65, q66, a67, c68, s63, rfl, hd59, hle64, hq54, h69, hE, hS⟩
          refine W.gen fun K70 hK70 => ?_
          replace h0_0 := Sl.mono RPlanRule.mono hle64 h0_0
          replace h1 := Sl.mono (RL.mono RI.mono) hle64 h1
          replace h2 := Sl.mono RPlanRule.mono hle64 h2
          rcases rest58 with _ | ⟨x57, rest58⟩
          · have hlt60 := drop_nil hd59
            refine W.seq ?_
            refine W.region ?_
            refine WL.vS hS hE (runs_plain rfl) (Gives.p hE rfl) rfl ?_; clear hE a; intro a hE
            refine WL.nil ?_
            refine W.seq ?_
            refine W.condF hE rfl (decide_eq_false (by omega)) ?_
            subst hK70
            refine W.exit rfl ?_
            exact ⟨q65, q66, a67, c68, s63, hle64, Option.some.inj hq54, h69, hE.pick _ ⟨rfl, rfl, rfl, rfl, rfl, rfl, trivial⟩, hS⟩
          · obtain ⟨hlt60, hx61, hd59⟩ := drop_cons hd59
            rw [Fishref2shifts_v1.loop1] at hq54
            refine W.seq ?_
            refine W.region ?_
            refine WL.vS hS hE (runs_plain rfl) (Gives.p hE rfl) rfl ?_; clear hE a; intro a hE
            refine WL.nil ?_
            refine W.seq ?_
            refine W.condT hE rfl (decide_eq_true (by omega)) ?_
            refine W.skip ?_
            refine W.seq ?_
            refine W.block ?_
            refine W.seq ?_
            refine W.region ?_
            refine WL.vS hS hE (runs_plain rfl) (Gives.p hE rfl) rfl ?_; clear hE a; intro a hE
            obtain ⟨cs71, hl72, hR73, hat74⟩ := h2.at hx61
            subst hR73
            refine WL.vS hS hE (runs_plain rfl) (Gives.idx hE k56 rfl rfl sl22 rfl hlt60 (h2.aok hlt60)) rfl ?_; clear hE a; intro a hE
            refine WL.vS hS hE (runs_plain rfl) (Gives.loadA hE rfl (fun w h => hat74 w _ h) ty37) rfl ?_; clear hE a; intro a hE
            refine WL.alloc hE hS (runs_plain rfl) zr37 rfl ?_; clear hE hS a w; intro b75 a w hE hS
            refine WL.vS hS hE (runs_plain rfl) (Gives.p hE rfl) rfl ?_; clear hE a; intro a hE
            refine WL.storeI hE hS 0 rfl (PlanRule.cells x57) (runs_plain rfl) rfl rfl rfl ty37 rfl rfl rfl rfl ?_; clear hE hS a w; intro a w hE hS
            refine WL.nil ?_
            refine W.seq ?_
            refine W.region ?_
            replace hS := hS.vecNil 87 1
            refine WL.vS hS hE (runs_plain rfl) (Gives.p hE rfl) rfl ?_; clear hE a; intro a hE
            refine WL.nil ?_
            refine W.seq ?_
            refine W.seq ?_
            refine W.region ?_
            refine WL.vS hS hE (runs_plain rfl) (Gives.p hE rfl) rfl ?_; clear hE a; intro a hE
            refine WL.nil ?_
            obtain ⟨q78, hq77, hq54⟩ := bindS hq54
            refine W.cut (fun a w => ∃ (q83 : List (List (List Int))), ∃ (q90 : Int), ∃ (a84 : Option Addr), ∃ (c85 : Nat), ∃ (n87 : Nat), ∃ (cs88 : List Value), ∃ (s81 : Sg), s63.Le s81 ∧ (q83, q90) = q78 ∧ Ev 1 (RL 1 (RL 1 (RI .i64))) s81 cs88 q83 ∧ q83.length = n87 ∧ Rep a 127 [(1, .slice a1 x1.length c1), (2, .slice a2 x2.length c2), (3, .func (.func 57) #[] #[]), (4, .func (.func 57) #[] #[]), (5, .pointer (some ⟨b51, 0, none⟩)), (11, .int .i64 q65), (12, .slice a67 q66.length c68), (13, .int .i64 ((k56 : Nat) : Int)), (15, .slice a84 n87 c85), (32, .slice a2 x2.length c2), (33, .int .i64 ((x2).length : Int)), (34, .int .i64 ((k56 : Nat) : Int))] ∧ St w s81 (vecC 87 1 a84 c85 n87 cs88 :: pt b75 (.cells (PlanRule.cells x57).toArray 37 (0, 0)) :: pt b51 (.cells #[.int .i64 x0.Period, .int .i64 x0.Events, .slice a0_0 x0.Rules.length c0_0] 24 (0, 0)) :: R)) ?_ ?_
            · refine W.block ?_
              refine W.loop (fun m a w => ∃ (n79 : Nat), ∃ (q83 : List (List (List Int))), ∃ (q90 : Int), ∃ (a84 : Option Addr), ∃ (c85 : Nat), ∃ (n87 : Nat), ∃ (cs88 : List Value), ∃ (s81 : Sg), n79 = m ∧ s63.Le s81 ∧ Fishref2shifts_v1.loop2 x0 x1 x57 n79 q83 q90 = some q78 ∧ Ev 1 (RL 1 (RL 1 (RI .i64))) s81 cs88 q83 ∧ q83.length = n87 ∧ Rep a 127 [(1, .slice a1 x1.length c1), (2, .slice a2 x2.length c2), (3, .func (.func 57) #[] #[]), (4, .func (.func 57) #[] #[]), (5, .pointer (some ⟨b51, 0, none⟩)), (11, .int .i64 q65), (12, .slice a67 q66.length c68), (13, .int .i64 ((k56 : Nat) : Int)), (14, .pointer (some ⟨b75, 0, none⟩)), (15, .slice a84 n87 c85), (16, .int .i64 q90), (32, .slice a2 x2.length c2), (33, .int .i64 ((x2).length : Int)), (34, .int .i64 ((k56 : Nat) : Int))] ∧ St w s81 (vecC 87 1 a84 c85 n87 cs88 :: pt b75 (.cells (PlanRule.cells x57).toArray 37 (0, 0)) :: pt b51 (.cells #[.int .i64 x0.Period, .int .i64 x0.Events, .slice a0_0 x0.Rules.length c0_0] 24 (0, 0)) :: R)) (m := fu) ⟨fu, [], (-1), none, 0, 0, [], s63, rfl, (Sg.Le.refl _), hq77, (Ev.nil), (rfl), hE.pick _ ⟨rfl, rfl, rfl, rfl, rfl, rfl, rfl, rfl, rfl, rfl, rfl, rfl, rfl, rfl, trivial⟩, hS⟩ ?_
              clear hE hS a w hq77; rintro m80 a w ⟨n79, q83, q90, a84, c85, n87, cs88, s81, rfl, hle82, hq77, h86, rfl, hE, hS⟩
              refine W.gen fun K91 hK91 => ?_
              replace h1 := Sl.mono (RL.mono RI.mono) hle82 h1
              replace h2 := Sl.mono RPlanRule.mono hle82 h2
              replace h69 := Sl.mono (RL.mono (RL.mono RI.mono)) hle82 h69
              replace h0_0 := Sl.mono RPlanRule.mono hle82 h0_0
              rcases n79 with _ | n79
              · rw [Fishref2shifts_v1.loop2] at hq77; exact absurd hq77 (by simp)
              rw [Fishref2shifts_v1.loop2] at hq77
              refine W.seq ?_
              refine W.seq ?_
              refine W.region ?_
              refine WL.vS hS hE (runs_plain rfl) (Gives.p hE rfl) rfl ?_; clear hE a; intro a hE
              refine WL.vS hS hE (runs_plain rfl) (Gives.fld hE rfl fl37_3) rfl ?_; clear hE a; intro a hE
              refine WL.vS hS hE (runs_plain rfl) (Gives.loadB hE 1 rfl rfl rfl ty3) rfl ?_; clear hE a; intro a hE
              refine WL.vS hS hE (runs_plain rfl) (Gives.fld hE rfl fl24_0) rfl ?_; clear hE a; intro a hE
              refine WL.vS hS hE (runs_plain rfl) (Gives.loadB hE 2 rfl rfl rfl ty3) rfl ?_; clear hE a; intro a hE
              refine WL.vS hS hE (runs_plain rfl) (Gives.p hE rfl) rfl ?_; clear hE a; intro a hE
              refine WL.vS hS hE (runs_plain rfl) (Gives.fld hE rfl fl24_0) rfl ?_; clear hE a; intro a hE
              refine WL.vS hS hE (runs_plain rfl) (Gives.loadB hE 2 rfl rfl rfl ty3) rfl ?_; clear hE a; intro a hE
              obtain ⟨x92, hx93, hq77⟩ := bindS hq77
              refine WL.vS hS hE (runs_plain rfl) (Gives.dv hE rfl rfl hx93) rfl ?_; clear hE a; intro a hE
              refine WL.vS hS hE (runs_plain rfl) (Gives.p hE rfl) rfl ?_; clear hE a; intro a hE
              refine WL.vS hS hE (runs_plain rfl) (Gives.p hE rfl) rfl ?_; clear hE a; intro a hE
              refine WL.nil ?_
              refine W.cond hE rfl (fun hc94 => ?_) (fun hc94 => ?_)
              · replace hq77 := iteT hc94 hq77
                refine W.skip ?_
                refine W.seq ?_
                refine W.block ?_
                refine W.seq ?_
                refine W.region ?_
                refine WL.vS hS hE (runs_plain rfl) (Gives.p hE rfl) rfl ?_; clear hE a; intro a hE
                refine WL.vS hS hE (runs_plain rfl) (Gives.fld hE rfl fl37_0) rfl ?_; clear hE a; intro a hE
                refine WL.vS hS hE (runs_plain rfl) (Gives.loadB hE 1 rfl rfl rfl ty3) rfl ?_; clear hE a; intro a hE
                refine WL.vS hS hE (runs_plain rfl) (Gives.fld hE rfl fl37_1) rfl ?_; clear hE a; intro a hE
                refine WL.vS hS hE (runs_plain rfl) (Gives.loadB hE 1 rfl rfl rfl ty3) rfl ?_; clear hE a; intro a hE
                refine WL.vS hS hE (runs_plain rfl) (Gives.fld hE rfl fl37_3) rfl ?_; clear hE a; intro a hE
                refine WL.vS hS hE (runs_plain rfl) (Gives.loadB hE 1 rfl rfl rfl ty3) rfl ?_; clear hE a; intro a hE
                refine WL.vS hS hE (runs_plain rfl) (Gives.p hE rfl) rfl ?_; clear hE a; intro a hE
                refine WL.vS hS hE (runs_plain rfl) (Gives.fld hE rfl fl24_0) rfl ?_; clear hE a; intro a hE
                refine WL.vS hS hE (runs_plain rfl) (Gives.loadB hE 2 rfl rfl rfl ty3) rfl ?_; clear hE a; intro a hE
                refine WL.vS hS hE (runs_plain rfl) (Gives.p hE rfl) rfl ?_; clear hE a; intro a hE
                refine WL.vS hS hE (runs_plain rfl) (Gives.p hE rfl) rfl ?_; clear hE a; intro a hE
                obtain ⟨q95, hq96, hq77⟩ := bindS hq77
                have hc_ := Fishref2Boundstighter_ok hS h1 hq96
                refine WL.fnq hE (hc_) (runs_plain rfl) bd56 rfl rfl rfl ?_
                clear hE hS hc_; rintro e w ⟨a97, c98, s100, rfl, hle101, h99, hS⟩; refine ⟨_, rfl, ?_⟩; clear a; intro a hE
                replace h1 := Sl.mono (RL.mono RI.mono) hle101 h1
                replace h2 := Sl.mono RPlanRule.mono hle101 h2
                replace h69 := Sl.mono (RL.mono (RL.mono RI.mono)) hle101 h69
                replace h86 := Ev.mono (RL.mono (RL.mono RI.mono)) hle101 h86
                replace h0_0 := Sl.mono RPlanRule.mono hle101 h0_0
                refine WL.vS hS hE (runs_plain rfl) (Gives.p hE rfl) rfl ?_; clear hE a; intro a hE
                refine WL.vS hS hE (runs_plain rfl) (Gives.p hE rfl) rfl ?_; clear hE a; intro a hE
                refine WL.vS hS hE (runs_plain rfl) (Gives.p hE rfl) rfl ?_; clear hE a; intro a hE
                refine WL.vS hS hE (runs_plain rfl) (Gives.p hE rfl) rfl ?_; clear hE a; intro a hE
                refine WL.vS hS hE (runs_plain rfl) (Gives.p hE rfl) rfl ?_; clear hE a; intro a hE
                refine WL.nil ?_
                refine W.seq ?_
                refine W.seq ?_
                refine W.region ?_
                refine WL.vS hS hE (runs_plain rfl) (Gives.p hE rfl) rfl ?_; clear hE a; intro a hE
                refine WL.nil ?_
                obtain ⟨q103, hq102, hq77⟩ := bindS hq77
                refine W.cut (fun a w => ∃ (q106 : List (List Int)), ∃ (q110 : Bool), ∃ (a107 : Option Addr), ∃ (c108 : Nat), ∃ (s104 : Sg), s100.Le s104 ∧ (q106, q110) = q103 ∧ Sl 1 (RL 1 (RI .i64)) s104 a107 c108 q106 ∧ Rep a 127 [(1, .slice a1 x1.length c1), (2, .slice a2 x2.length c2), (3, .func (.func 57) #[] #[]), (4, .func (.func 57) #[] #[]), (5, .pointer (some ⟨b51, 0, none⟩)), (11, .int .i64 q65), (12, .slice a67 q66.length c68), (13, .int .i64 ((k56 : Nat) : Int)), (14, .pointer (some ⟨b75, 0, none⟩)), (15, .slice a84 q83.length c85), (16, .int .i64 q90), (17, .slice a107 q106.length c108), (18, .bool q110), (32, .slice a2 x2.length c2), (33, .int .i64 ((x2).length : Int)), (34, .int .i64 ((k56 : Nat) : Int))] ∧ St w s104 (vecC 87 1 a84 c85 q83.length cs88 :: pt b75 (.cells (PlanRule.cells x57).toArray 37 (0, 0)) :: pt b51 (.cells #[.int .i64 x0.Period, .int .i64 x0.Events, .slice a0_0 x0.Rules.length c0_0] 24 (0, 0)) :: R)) ?_ ?_
                · refine W.gen fun K111 hK111 => ?_
                  refine W.cond hE rfl (fun hc112 => ?_) (fun hc112 => ?_)
                  · replace hq102 := iteT hc112 hq102
                    refine W.region ?_
                    refine WL.vS hS hE (runs_plain rfl) (Gives.p hE rfl) rfl ?_; clear hE a; intro a hE
                    refine WL.vS hS hE (runs_plain rfl) (Gives.fld hE rfl fl37_1) rfl ?_; clear hE a; intro a hE
                    refine WL.vS hS hE (runs_plain rfl) (Gives.loadB hE 1 rfl rfl rfl ty3) rfl ?_; clear hE a; intro a hE
                    refine WL.vS hS hE (runs_plain rfl) (Gives.fld hE rfl fl37_0) rfl ?_; clear hE a; intro a hE
                    refine WL.vS hS hE (runs_plain rfl) (Gives.loadB hE 1 rfl rfl rfl ty3) rfl ?_; clear hE a; intro a hE
                    refine WL.vS hS hE (runs_plain rfl) (Gives.p hE rfl) rfl ?_; clear hE a; intro a hE
                    refine WL.vS hS hE (runs_plain rfl) (Gives.fld hE rfl fl24_0) rfl ?_; clear hE a; intro a hE
                    refine WL.vS hS hE (runs_plain rfl) (Gives.loadB hE 2 rfl rfl rfl ty3) rfl ?_; clear hE a; intro a hE
                    refine WL.vS hS hE (runs_plain rfl) (Gives.p hE rfl) rfl ?_; clear hE a; intro a hE
                    refine WL.vS hS hE (runs_plain rfl) (Gives.fld hE rfl fl37_2) rfl ?_; clear hE a; intro a hE
                    refine WL.vS hS hE (runs_plain rfl) (Gives.loadB hE 1 rfl rfl rfl ty3) rfl ?_; clear hE a; intro a hE
                    refine WL.vS hS hE (runs_plain rfl) (Gives.p hE rfl) rfl ?_; clear hE a; intro a hE
                    obtain ⟨q113, hq114, hq102⟩ := bindS hq102
                    have hc_ := Fishref2Boundstighter_ok hS h99 hq114
                    refine WL.fnq hE (hc_) (runs_plain rfl) bd56 rfl rfl rfl ?_
                    clear hE hS hc_; rintro e w ⟨a115, c116, s118, rfl, hle119, h117, hS⟩; refine ⟨_, rfl, ?_⟩; clear a; intro a hE
                    replace h1 := Sl.mono (RL.mono RI.mono) hle119 h1
                    replace h2 := Sl.mono RPlanRule.mono hle119 h2
                    replace h69 := Sl.mono (RL.mono (RL.mono RI.mono)) hle119 h69
                    replace h99 := Sl.mono (RL.mono RI.mono) hle119 h99
                    replace h86 := Ev.mono (RL.mono (RL.mono RI.mono)) hle119 h86
                    replace h0_0 := Sl.mono RPlanRule.mono hle119 h0_0
                    refine WL.vS hS hE (runs_plain rfl) (Gives.p hE rfl) rfl ?_; clear hE a; intro a hE
                    refine WL.vS hS hE (runs_plain rfl) (Gives.p hE rfl) rfl ?_; clear hE a; intro a hE
                    refine WL.vS hS hE (runs_plain rfl) (Gives.p hE rfl) rfl ?_; clear hE a; intro a hE
                    refine WL.vS hS hE (runs_plain rfl) (Gives.p hE rfl) rfl ?_; clear hE a; intro a hE
                    refine WL.vS hS hE (runs_plain rfl) (Gives.p hE rfl) rfl ?_; clear hE a; intro a hE
                    refine WL.nil ?_
                    subst hK111
                    exact ⟨q113.1, q113.2, a115, c116, s118, hle119, Option.some.inj hq102, h117, hE.pick _ ⟨rfl, rfl, rfl, rfl, rfl, rfl, rfl, rfl, rfl, rfl, rfl, rfl, rfl, rfl, rfl, rfl, trivial⟩, hS⟩
                  · replace hq102 := iteF hc112 hq102
                    refine W.skip ?_
                    subst hK111
                    exact ⟨q95.1, q95.2, a97, c98, s100, (Sg.Le.refl _), Option.some.inj hq102, h99, hE.pick _ ⟨rfl, rfl, rfl, rfl, rfl, rfl, rfl, rfl, rfl, rfl, rfl, rfl, rfl, rfl, rfl, rfl, trivial⟩, hS⟩
                · clear hE hS a w; rintro a w ⟨q106, q110, a107, c108, s104, hle105, rfl, h109, hE, hS⟩
                  dsimp only at hq77
                  replace h1 := Sl.mono (RL.mono RI.mono) hle105 h1
                  replace h2 := Sl.mono RPlanRule.mono hle105 h2
                  replace h69 := Sl.mono (RL.mono (RL.mono RI.mono)) hle105 h69
                  replace h99 := Sl.mono (RL.mono RI.mono) hle105 h99
                  replace h86 := Ev.mono (RL.mono (RL.mono RI.mono)) hle105 h86
                  replace h0_0 := Sl.mono RPlanRule.mono hle105 h0_0
                  refine W.seq ?_
                  refine W.region ?_
                  refine WL.vS hS hE (runs_plain rfl) (Gives.p hE rfl) rfl ?_; clear hE a; intro a hE
                  refine WL.nil ?_
                  obtain ⟨q121, hq120, hq77⟩ := bindS hq77
                  refine W.cut (fun a w => ∃ (q124 : List (List (List Int))), ∃ (a125 : Option Addr), ∃ (c126 : Nat), ∃ (n128 : Nat), ∃ (cs129 : List Value), q124 = q121 ∧ Ev 1 (RL 1 (RL 1 (RI .i64))) s104 cs129 q124 ∧ q124.length = n128 ∧ Rep a 127 [(1, .slice a1 x1.length c1), (2, .slice a2 x2.length c2), (3, .func (.func 57) #[] #[]), (4, .func (.func 57) #[] #[]), (5, .pointer (some ⟨b51, 0, none⟩)), (11, .int .i64 q65), (12, .slice a67 q66.length c68), (13, .int .i64 ((k56 : Nat) : Int)), (14, .pointer (some ⟨b75, 0, none⟩)), (15, .slice a125 n128 c126), (16, .int .i64 q90), (32, .slice a2 x2.length c2), (33, .int .i64 ((x2).length : Int)), (34, .int .i64 ((k56 : Nat) : Int))] ∧ St w s104 (vecC 87 1 a125 c126 n128 cs129 :: pt b75 (.cells (PlanRule.cells x57).toArray 37 (0, 0)) :: pt b51 (.cells #[.int .i64 x0.Period, .int .i64 x0.Events, .slice a0_0 x0.Rules.length c0_0] 24 (0, 0)) :: R)) ?_ ?_
                  · refine W.gen fun K131 hK131 => ?_
                    refine W.cond hE rfl (fun hc132 => ?_) (fun hc132 => ?_)
                    · replace hq120 := iteT hc132 hq120
                      refine W.region ?_
                      refine WL.vS hS hE (runs_plain rfl) (Gives.p hE rfl) rfl ?_; clear hE a; intro a hE
                      refine WL.vS hS hE (runs_plain rfl) (Gives.p hE rfl) rfl ?_; clear hE a; intro a hE
                      refine WL.lit hE hS (e := 87) (es := 1) (vs := [(0, .slice a107 q106.length c108)]) (cs := [.slice a107 q106.length c108]) (runs_plain rfl) rfl (by kernel_rfl) rfl ?_; clear hE hS a w; intro b133 a w hE hS
                      obtain ⟨x134, hx135, hq120⟩ := bindS hq120
                      refine WL.appD hE hS 0 (m := 1) (runs_plain rfl) rfl rfl rfl ap118 rfl h86 rfl (xs := [q106]) (Ev.cons (c1 := [.slice a107 q106.length c108]) ⟨_, _, rfl, h109⟩ rfl (Ev.nil)) rfl rfl hx135 rfl ?_; clear hE hS a w; intro a136 c137 cs138 a w h139 hE hS
                      refine WL.vS hS hE (runs_plain rfl) (Gives.p hE rfl) rfl ?_; clear hE a; intro a hE
                      refine WL.nil ?_
                      subst hK131
                      exact ⟨x134, a136, c137, x134.length, cs138, Option.some.inj hq120, h139, (rfl), hE.pick _ ⟨rfl, rfl, rfl, rfl, rfl, rfl, rfl, rfl, rfl, rfl, rfl, rfl, rfl, rfl, trivial⟩, hS⟩
                    · replace hq120 := iteF hc132 hq120
                      refine W.skip ?_
                      subst hK131
                      exact ⟨q83, a84, c85, q83.length, cs88, Option.some.inj hq120, h86, rfl, hE.pick _ ⟨rfl, rfl, rfl, rfl, rfl, rfl, rfl, rfl, rfl, rfl, rfl, rfl, rfl, rfl, trivial⟩, hS⟩
                  · clear hE hS a w; rintro a w ⟨q124, a125, c126, n128, cs129, rfl, h127, rfl, hE, hS⟩
                    refine W.region ?_
                    refine WL.vS hS hE (runs_plain rfl) (Gives.p hE rfl) rfl ?_; clear hE a; intro a hE
                    refine WL.vS hS hE (runs_plain rfl) (Gives.p hE rfl) rfl ?_; clear hE a; intro a hE
                    refine WL.vS hS hE (runs_plain rfl) (Gives.p hE rfl) rfl ?_; clear hE a; intro a hE
                    refine WL.nil ?_
                    subst hK91
                    exact ⟨n79, Nat.lt_succ_self _, n79, q124, (w64 (q90 + 1)), a125, c126, q124.length, cs129, s104, rfl, (Sg.Le.trans (Sg.Le.trans hle82 hle101) hle105), hq77, h127, rfl, hE.pick _ ⟨rfl, rfl, rfl, rfl, rfl, rfl, rfl, rfl, rfl, rfl, rfl, rfl, rfl, rfl, trivial⟩, hS⟩
              · replace hq77 := iteF hc94 hq77
                subst hK91
                refine W.exit rfl ?_
                exact ⟨q83, q90, a84, c85, q83.length, cs88, s81, hle82, Option.some.inj hq77, h86, rfl, hE.pick _ ⟨rfl, rfl, rfl, rfl, rfl, rfl, rfl, rfl, rfl, rfl, rfl, rfl, trivial⟩, hS⟩
            · clear hE hS a w; rintro a w ⟨q83, q90, a84, c85, n87, cs88, s81, hle82, rfl, h86, rfl, hE, hS⟩
              dsimp only at hq54
              replace h1 := Sl.mono (RL.mono RI.mono) hle82 h1
              replace h2 := Sl.mono RPlanRule.mono hle82 h2
              replace h69 := Sl.mono (RL.mono (RL.mono RI.mono)) hle82 h69
              replace h0_0 := Sl.mono RPlanRule.mono hle82 h0_0
              refine W.seq ?_
              refine W.seq ?_
              refine W.region ?_
              refine WL.vS hS hE (runs_plain rfl) (Gives.p hE rfl) rfl ?_; clear hE a; intro a hE
              refine WL.vS hS hE (runs_plain rfl) (Gives.len hE rfl sl118) rfl ?_; clear hE a; intro a hE
              refine WL.vS hS hE (runs_plain rfl) (Gives.p hE rfl) rfl ?_; clear hE a; intro a hE
              refine WL.nil ?_
              refine W.cond hE rfl (fun hc140 => ?_) (fun hc140 => ?_)
              · replace hq54 := iteT hc140 hq54
                refine W.seq ?_
                refine W.region ?_
                refine WL.vS hS hE (runs_plain rfl) (Gives.p hE rfl) rfl ?_; clear hE a; intro a hE
                refine WL.nil ?_
                refine W.ret ?_
                subst hK70
                rw [← Option.some.inj hq54] at hr
                dsimp only at hr
                refine finG (fn := Try.f58) (rs := [.tmp 10]) (vs := [_]) hE rfl ⟨rfl, trivial⟩ ?_
                obtain rfl := Option.some.inj hr
                replace hS := hS.tail
                replace hS := hS.tail
                replace hS := hS.tail
                exact ⟨rfl, (hS.down (Sg.Le.trans hle64 hle82))⟩
              · replace hq54 := iteF hc140 hq54
                refine W.skip ?_
                refine W.seq ?_
                refine W.seq ?_
                obtain ⟨q142, hq141, hq54⟩ := bndS hq54
                refine W.cut (fun a w => ∃ (q145 : Bool), q145 = q142 ∧ Rep a 127 [(1, .slice a1 x1.length c1), (2, .slice a2 x2.length c2), (3, .func (.func 57) #[] #[]), (4, .func (.func 57) #[] #[]), (5, .pointer (some ⟨b51, 0, none⟩)), (11, .int .i64 q65), (12, .slice a67 q66.length c68), (13, .int .i64 ((k56 : Nat) : Int)), (15, .slice a84 q83.length c85), (32, .slice a2 x2.length c2), (33, .int .i64 ((x2).length : Int)), (34, .int .i64 ((k56 : Nat) : Int)), (101, .bool q145)] ∧ St w s81 (vecC 87 1 a84 c85 q83.length cs88 :: pt b75 (.cells (PlanRule.cells x57).toArray 37 (0, 0)) :: pt b51 (.cells #[.int .i64 x0.Period, .int .i64 x0.Events, .slice a0_0 x0.Rules.length c0_0] 24 (0, 0)) :: R)) ?_ ?_
                · refine W.gen fun K146 hK146 => ?_
                  refine W.region ?_
                  refine WL.vS hS hE (runs_plain rfl) (Gives.p hE rfl) rfl ?_; clear hE a; intro a hE
                  refine WL.vS hS hE (runs_plain rfl) (Gives.p hE rfl) rfl ?_; clear hE a; intro a hE
                  refine WL.vS hS hE (runs_plain rfl) (Gives.p hE rfl) rfl ?_; clear hE a; intro a hE
                  rcases Bool.eq_false_or_eq_true (decide (q65 < 0)) with hg147 | hg147
                  · replace hq141 := iteT hg147 hq141
                    refine WL.no hE (runs_not hE rfl rfl rfl (by rw [hg147]; decide)) rfl ?_; clear hE a; intro a hE
                    refine WL.no hE (runs_not hE rfl rfl rfl (by rw [hg147]; decide)) rfl ?_; clear hE a; intro a hE
                    refine WL.no hE (runs_not hE rfl rfl rfl (by rw [hg147]; decide)) rfl ?_; clear hE a; intro a hE
                    refine WL.no hE (runs_not hE rfl rfl rfl (by rw [hg147]; decide)) rfl ?_; clear hE a; intro a hE
                    refine WL.no hE (runs_not hE rfl rfl rfl (by rw [hg147]; decide)) rfl ?_; clear hE a; intro a hE
                    refine WL.vS hS hE (runs_plain rfl) (Gives.pickT hE rfl hg147 rfl) rfl ?_; clear hE a; intro a hE
                    refine WL.nil ?_
                    subst hK146
                    exact ⟨true, hq141, hE.pick _ ⟨rfl, rfl, rfl, rfl, rfl, rfl, rfl, rfl, rfl, rfl, rfl, rfl, rfl, trivial⟩, hS⟩
                  · replace hq141 := iteF hg147 hq141
                    refine WL.vS hS hE (runs_if hE rfl rfl rfl hg147) (Gives.p hE rfl) rfl ?_; clear hE a; intro a hE
                    refine WL.vS hS hE (runs_if hE rfl rfl rfl hg147) (Gives.len hE rfl sl118) rfl ?_; clear hE a; intro a hE
                    refine WL.vS hS hE (runs_if hE rfl rfl rfl hg147) (Gives.p hE rfl) rfl ?_; clear hE a; intro a hE
                    refine WL.vS hS hE (runs_if hE rfl rfl rfl hg147) (Gives.len hE rfl sl118) rfl ?_; clear hE a; intro a hE
                    refine WL.vS hS hE (runs_if hE rfl rfl rfl hg147) (Gives.p hE rfl) rfl ?_; clear hE a; intro a hE
                    refine WL.vS hS hE (runs_plain rfl) (Gives.pickF hE rfl hg147 rfl) rfl ?_; clear hE a; intro a hE
                    refine WL.nil ?_
                    subst hK146
                    exact ⟨decide (((q83.length : Nat) : Int) < ((q66).length : Int)), hq141, hE.pick _ ⟨rfl, rfl, rfl, rfl, rfl, rfl, rfl, rfl, rfl, rfl, rfl, rfl, rfl, trivial⟩, hS⟩
                · clear hE hS a w; rintro a w ⟨q145, rfl, hE, hS⟩
                  have hF := hS.fixD (RL.mono (RL.mono RI.mono)) 0 rfl h86 rfl; clear hS; obtain ⟨s148, hle149, hS, h150⟩ := hF
                  replace h1 := Sl.mono (RL.mono RI.mono) hle149 h1
                  replace h2 := Sl.mono RPlanRule.mono hle149 h2
                  replace h69 := Sl.mono (RL.mono (RL.mono RI.mono)) hle149 h69
                  replace h0_0 := Sl.mono RPlanRule.mono hle149 h0_0
                  obtain ⟨q152, hq151, hq54⟩ := bndS hq54
                  refine W.cut (fun a w => ∃ (q155 : Int), ∃ (q156 : List (List (List Int))), ∃ (a157 : Option Addr), ∃ (c158 : Nat), (q155, q156) = q152 ∧ Sl 1 (RL 1 (RL 1 (RI .i64))) s148 a157 c158 q156 ∧ Rep a 127 [(1, .slice a1 x1.length c1), (2, .slice a2 x2.length c2), (3, .func (.func 57) #[] #[]), (4, .func (.func 57) #[] #[]), (5, .pointer (some ⟨b51, 0, none⟩)), (11, .int .i64 q155), (12, .slice a157 q156.length c158), (15, .slice a84 q83.length c85), (32, .slice a2 x2.length c2), (33, .int .i64 ((x2).length : Int)), (34, .int .i64 ((k56 : Nat) : Int))] ∧ St w s148 (pt b75 (.cells (PlanRule.cells x57).toArray 37 (0, 0)) :: pt b51 (.cells #[.int .i64 x0.Period, .int .i64 x0.Events, .slice a0_0 x0.Rules.length c0_0] 24 (0, 0)) :: R)) ?_ ?_
                  · refine W.gen fun K160 hK160 => ?_
                    refine W.cond hE rfl (fun hc161 => ?_) (fun hc161 => ?_)
                    · replace hq151 := iteT hc161 hq151
                      refine W.region ?_
                      refine WL.vS hS hE (runs_plain rfl) (Gives.p hE rfl) rfl ?_; clear hE a; intro a hE
                      refine WL.vS hS hE (runs_plain rfl) (Gives.p hE rfl) rfl ?_; clear hE a; intro a hE
                      refine WL.vS hS hE (runs_plain rfl) (Gives.p hE rfl) rfl ?_; clear hE a; intro a hE
                      refine WL.vS hS hE (runs_plain rfl) (Gives.p hE rfl) rfl ?_; clear hE a; intro a hE
                      refine WL.nil ?_
                      subst hK160
                      exact ⟨((k56 : Nat) : Int), q83, a84, c85, hq151, h150, hE.pick _ ⟨rfl, rfl, rfl, rfl, rfl, rfl, rfl, rfl, rfl, rfl, rfl, trivial⟩, hS⟩
                    · replace hq151 := iteF hc161 hq151
                      refine W.skip ?_
                      subst hK160
                      exact ⟨q65, q66, a67, c68, hq151, h69, hE.pick _ ⟨rfl, rfl, rfl, rfl, rfl, rfl, rfl, rfl, rfl, rfl, rfl, trivial⟩, hS⟩
                  · clear hE hS a w; rintro a w ⟨q155, q156, a157, c158, rfl, h159, hE, hS⟩
                    dsimp only at hq54
                    refine W.seq ?_
                    refine W.region ?_
                    refine WL.vS hS hE (runs_plain rfl) (Gives.p hE rfl) rfl ?_; clear hE a; intro a hE
                    refine WL.vS hS hE (runs_plain rfl) (Gives.len hE rfl sl118) rfl ?_; clear hE a; intro a hE
                    refine WL.vS hS hE (runs_plain rfl) (Gives.p hE rfl) rfl ?_; clear hE a; intro a hE
                    refine WL.nil ?_
                    refine W.cond hE rfl (fun hc162 => ?_) (fun hc162 => ?_)
                    · replace hq54 := iteT hc162 hq54
                      subst hK70
                      refine W.exit rfl ?_
                      replace hS := hS.tail
                      exact ⟨q155, q156, a157, c158, s148, (Sg.Le.trans (Sg.Le.trans hle64 hle82) hle149), Option.some.inj hq54, h159, hE.pick _ ⟨rfl, rfl, rfl, rfl, rfl, rfl, trivial⟩, hS⟩
                    · replace hq54 := iteF hc162 hq54
                      refine W.skip ?_
                      refine W.region ?_
                      refine WL.vS hS hE (runs_plain rfl) (Gives.inc hE rfl (by have := h2.small; omega)) rfl ?_; clear hE a; intro a hE
                      refine WL.vS hS hE (runs_plain rfl) (Gives.p hE rfl) rfl ?_; clear hE a; intro a hE
                      refine WL.nil ?_
                      replace hS := hS.tail
                      subst hK70
                      exact ⟨rest58.length, Nat.lt_succ_self _, rest58, k56 + 1, q155, q156, a157, c158, s148, rfl, hd59, (Sg.Le.trans (Sg.Le.trans hle64 hle82) hle149), hq54, h159, hE.pick _ ⟨rfl, rfl, rfl, rfl, rfl, rfl, rfl, rfl, rfl, rfl, trivial⟩, hS⟩
        · clear hE hS a w; rintro a w ⟨q65, q66, a67, c68, s63, hle64, rfl, h69, hE, hS⟩
          dsimp only at hr
          replace h0_0 := Sl.mono RPlanRule.mono hle64 h0_0
          replace h1 := Sl.mono (RL.mono RI.mono) hle64 h1
          replace h2 := Sl.mono RPlanRule.mono hle64 h2
          refine W.seq ?_
          refine W.region ?_
          refine WL.vS hS hE (runs_plain rfl) (Gives.p hE rfl) rfl ?_; clear hE a; intro a hE
          obtain ⟨q163, hq164, hr⟩ := bindS hr
          have hc_ := SlicesCloneLplanRule_ok hS h2 hq164
          refine WL.fnq hE (hc_) (runs_plain rfl) bd84 rfl rfl rfl ?_
          clear hE hS hc_; rintro e w ⟨a165, c166, n167, cs168, rfl, h169, rfl, hS⟩; refine ⟨_, rfl, ?_⟩; clear a; intro a hE
          refine WL.vS hS hE (runs_plain rfl) (Gives.p hE rfl) rfl ?_; clear hE a; intro a hE
          refine WL.vS hS hE (runs_plain rfl) (Gives.p hE rfl) rfl ?_; clear hE a; intro a hE
          refine WL.vS hS hE (runs_plain rfl) (Gives.p hE rfl) rfl ?_; clear hE a; intro a hE
          obtain ⟨q171, hq172, hr⟩ := bindS hr
          have hc_ := SlicesDeleteLplanRule_v1_ok hS h169 rfl hq172
          refine WL.fnq hE (hc_) (runs_plain rfl) bd83 rfl rfl rfl ?_
          clear hE hS hc_; rintro e w ⟨a173, c174, n175, cs176, rfl, h177, rfl, hS⟩; refine ⟨_, rfl, ?_⟩; clear a; intro a hE
          refine WL.vS hS hE (runs_plain rfl) (Gives.p hE rfl) rfl ?_; clear hE a; intro a hE
          refine WL.nil ?_
          refine W.seq ?_
          refine W.seq ?_
          refine W.region ?_
          refine WL.vS hS hE (runs_plain rfl) (Gives.p hE rfl) rfl ?_; clear hE a; intro a hE
          refine WL.vS hS hE (runs_plain rfl) (Gives.len hE rfl sl118) rfl ?_; clear hE a; intro a hE
          refine WL.vS hS hE (runs_plain rfl) (Gives.p hE rfl) rfl ?_; clear hE a; intro a hE
          refine WL.nil ?_
          obtain ⟨q180, hq179, hr⟩ := bindS hr
          refine W.cut (fun a w => (.next ()) = q180 ∧ Rep a 127 [] ∧ St w s63 (vecC 37 5 a173 c174 q171.length cs176 :: pt b51 (.cells #[.int .i64 x0.Period, .int .i64 x0.Events, .slice a0_0 x0.Rules.length c0_0] 24 (0, 0)) :: R)) ?_ ?_
          · refine W.block ?_
            refine W.loop (fun m a w => ∃ (rest183 : List (List (List Int))) (k181 : Nat), rest183.length = m ∧ q66.drop k181 = rest183 ∧ Fishref2shifts_v1.loop3 x0 self_Fishref2shifts_v1 q171 rest183 = some q180 ∧ Rep a 127 [(3, .func (.func 57) #[] #[]), (4, .func (.func 57) #[] #[]), (5, .pointer (some ⟨b51, 0, none⟩)), (19, .slice a173 q171.length c174), (114, .slice a67 q66.length c68), (115, .int .i64 ((q66).length : Int)), (116, .int .i64 ((k181 : Nat) : Int))] ∧ St w s63 (vecC 37 5 a173 c174 q171.length cs176 :: pt b51 (.cells #[.int .i64 x0.Period, .int .i64 x0.Events, .slice a0_0 x0.Rules.length c0_0] 24 (0, 0)) :: R)) (m := q66.length) ⟨q66, 0, rfl, rfl, hq179, hE.pick _ ⟨rfl, rfl, rfl, rfl, rfl, rfl, rfl, trivial⟩, hS⟩ ?_
            clear hE hS a w hq179; rintro m187 a w ⟨rest183, k181, rfl, hd184, hq179, hE, hS⟩
            refine W.gen fun K190 hK190 => ?_
            rcases rest183 with _ | ⟨x182, rest183⟩
            · have hlt185 := drop_nil hd184
              refine W.seq ?_
              refine W.region ?_
              refine WL.vS hS hE (runs_plain rfl) (Gives.p hE rfl) rfl ?_; clear hE a; intro a hE
              refine WL.nil ?_
              refine W.seq ?_
              refine W.condF hE rfl (decide_eq_false (by omega)) ?_
              subst hK190
              refine W.exit rfl ?_
              exact ⟨Option.some.inj hq179, hE.pick _ trivial, hS⟩
            · obtain ⟨hlt185, hx186, hd184⟩ := drop_cons hd184
              rw [Fishref2shifts_v1.loop3] at hq179
              refine W.seq ?_
              refine W.region ?_
              refine WL.vS hS hE (runs_plain rfl) (Gives.p hE rfl) rfl ?_; clear hE a; intro a hE
              refine WL.nil ?_
              refine W.seq ?_
              refine W.condT hE rfl (decide_eq_true (by omega)) ?_
              refine W.skip ?_
              refine W.seq ?_
              refine W.block ?_
              refine W.seq ?_
              refine W.region ?_
              obtain ⟨cs191, hl192, hR193, hat194⟩ := h69.at hx186
              obtain ⟨a195, c196, rfl, h197⟩ := hR193
              refine WL.vS hS hE (runs_plain rfl) (Gives.idx hE k181 rfl rfl sl118 rfl hlt185 (h69.aok hlt185)) rfl ?_; clear hE a; intro a hE
              refine WL.vS hS hE (runs_plain rfl) (Gives.load1 hE rfl (fun w h => hat194 w _ h) ty87) rfl ?_; clear hE a; intro a hE
              refine WL.vS hS hE (runs_plain rfl) (Gives.p hE rfl) rfl ?_; clear hE a; intro a hE
              refine WL.nil ?_
              refine W.seq ?_
              refine W.region ?_
              refine WL.vS hS hE (runs_plain rfl) (Gives.loadBA hE 1 rfl rfl ty24) rfl ?_; clear hE a; intro a hE
              refine WL.vS hS hE (runs_plain rfl) (Gives.p hE rfl) rfl ?_; clear hE a; intro a hE
              refine WL.vS hS hE (runs_plain rfl) (Gives.p hE rfl) rfl ?_; clear hE a; intro a hE
              refine WL.vS hS hE (runs_plain rfl) (Gives.p hE rfl) rfl ?_; clear hE a; intro a hE
              refine WL.vS hS hE (runs_plain rfl) (Gives.p hE rfl) rfl ?_; clear hE a; intro a hE
              obtain ⟨q198, hq199, hq179⟩ := bindS hq179
              have hF := hS.lendV RPlanRule.mono 0 rfl h177 rfl; clear hS; obtain ⟨t200, hle201, hS, hs202, bk203⟩ := hF
              have hc_ := ih_Fishref2shifts_v1 hS (Sl.mono RPlanRule.mono hle201 h0_0) (Sl.mono (RL.mono RI.mono) hle201 h197) hs202 hq199
              refine WL.fnq hE (hc_) (runs_plain rfl) bd58 rfl rfl rfl ?_
              clear hE hS hc_; rintro e w ⟨rfl, hS⟩; refine ⟨_, rfl, ?_⟩; clear a; intro a hE
              replace hS := bk203 _ _ hS
              refine WL.nil ?_
              refine W.cond hE rfl (fun hc204 => ?_) (fun hc204 => ?_)
              · replace hq179 := iteT hc204 hq179
                refine W.seq ?_
                refine W.region ?_
                refine WL.vS hS hE (runs_plain rfl) (Gives.p hE rfl) rfl ?_; clear hE a; intro a hE
                refine WL.nil ?_
                refine W.ret ?_
                subst hK190
                rw [← Option.some.inj hq179] at hr
                dsimp only at hr
                refine finG (fn := Try.f58) (rs := [.tmp 10]) (vs := [_]) hE rfl ⟨rfl, trivial⟩ ?_
                obtain rfl := Option.some.inj hr
                replace hS := hS.tail
                replace hS := hS.tail
                exact ⟨rfl, (hS.down hle64)⟩
              · replace hq179 := iteF hc204 hq179
                refine W.skip ?_
                refine W.region ?_
                refine WL.vS hS hE (runs_plain rfl) (Gives.inc hE rfl (by have := h69.small; omega)) rfl ?_; clear hE a; intro a hE
                refine WL.vS hS hE (runs_plain rfl) (Gives.p hE rfl) rfl ?_; clear hE a; intro a hE
                refine WL.nil ?_
                subst hK190
                exact ⟨rest183.length, Nat.lt_succ_self _, rest183, k181 + 1, rfl, hd184, hq179, hE.pick _ ⟨rfl, rfl, rfl, rfl, rfl, rfl, rfl, trivial⟩, hS⟩
          · clear hE hS a w; rintro a w ⟨rfl, hE, hS⟩
            dsimp only at hr
            refine W.seq ?_
            refine W.region ?_
            refine WL.vS hS hE (runs_plain rfl) (Gives.p hE rfl) rfl ?_; clear hE a; intro a hE
            refine WL.nil ?_
            refine W.ret ?_
            refine finG (fn := Try.f58) (rs := [.tmp 10]) (vs := [_]) hE rfl ⟨rfl, trivial⟩ ?_
            obtain rfl := Option.some.inj hr
            replace hS := hS.tail
            replace hS := hS.tail
            exact ⟨rfl, (hS.down hle64)⟩
set_option maxHeartbeats 8000000 in
theorem Fishref2Solvable_ok {fu : Nat}  {w : World} {s : Sg} {R : List HP} {x0 : PlanPeriodic} {a0_0 : Option Addr} {c0_0 : Nat} {x1 : List PlanRule} {a1 : Option Addr} {c1 : Nat} {x2 : List Int} {a2 : Option Addr} {c2 : Nat} (hS : St w s (R)) (h0_0 : Sl 5 RPlanRule s a0_0 c0_0 x0.Rules) (h1 : Sl 5 RPlanRule s a1 c1 x1) (h2 : Sl 1 (RI .i64) s a2 c2 x2) {r : Bool} (hr : Fishref2Solvable fu x0 x1 x2 = some r) :
    Calls Try.prog 25 [.agg [.int .i64 x0.Period, .int .i64 x0.Events, .slice a0_0 x0.Rules.length c0_0].toArray, .slice a1 x1.length c1, .slice a2 x2.length c2].toArray w (fun e w => e = .returned (.bool r) ∧ St w s (R)) := by
  refine enter Try.func25 rfl rfl rfl fun a hE => ?_
  rw [Fishref2Solvable] at hr
  refine W.seq ?_
  refine W.region ?_
  refine WL.box hE hS (runs_plain rfl) rfl rfl rfl ?_; clear hE hS a w; intro b51 a w hE hS
  refine WL.vS hS hE (runs_plain rfl) (Gives.p hE rfl) rfl ?_; clear hE a; intro a hE
  refine WL.nil ?_
  refine W.seq ?_
  refine W.region ?_
  refine WL.vS hS hE (runs_plain rfl) (Gives.loadBA hE 0 rfl rfl ty24) rfl ?_; clear hE a; intro a hE
  obtain ⟨q52, hq53, hr⟩ := bindS hr
  have hc_ := Fishref2free_ok hS h0_0 hq53
  refine WL.fnq hE (hc_) (runs_plain rfl) bd55 rfl rfl rfl ?_
  clear hE hS hc_; rintro e w ⟨a54, c55, s57, rfl, hle58, h56, hS⟩; refine ⟨_, rfl, ?_⟩; clear a; intro a hE
  replace h0_0 := Sl.mono RPlanRule.mono hle58 h0_0
  replace h1 := Sl.mono RPlanRule.mono hle58 h1
  replace h2 := Sl.mono RI.mono hle58 h2
  refine WL.vS hS hE (runs_plain rfl) (Gives.p hE rfl) rfl ?_; clear hE a; intro a hE
  refine WL.vS hS hE (runs_plain rfl) (Gives.p hE rfl) rfl ?_; clear hE a; intro a hE
  refine WL.nil ?_
  refine W.seq ?_
  refine W.seq ?_
  refine W.region ?_
  refine WL.vS hS hE (runs_plain rfl) (Gives.p hE rfl) rfl ?_; clear hE a; intro a hE
  refine WL.vS hS hE (runs_plain rfl) (Gives.len hE rfl sl29) rfl ?_; clear hE a; intro a hE
  refine WL.vS hS hE (runs_plain rfl) (Gives.p hE rfl) rfl ?_; clear hE a; intro a hE
  refine WL.nil ?_
  obtain ⟨q60, hq59, hr⟩ := bindS hr
  refine W.cut (fun a w => ∃ (q70 : List (List Int)), ∃ (a71 : Option Addr), ∃ (c72 : Nat), ∃ (s68 : Sg), s57.Le s68 ∧ (.next q70) = q60 ∧ Sl 1 (RL 1 (RI .i64)) s68 a71 c72 q70 ∧ Rep a 69 [(1, .slice a1 x1.length c1), (3, .pointer (some ⟨b51, 0, none⟩)), (7, .slice a71 q70.length c72)] ∧ St w s68 (pt b51 (.cells #[.int .i64 x0.Period, .int .i64 x0.Events, .slice a0_0 x0.Rules.length c0_0] 24 (0, 0)) :: R)) ?_ ?_
  · refine W.block ?_
    refine W.loop (fun m a w => ∃ (rest63 : List Int) (k61 : Nat), ∃ (q70 : List (List Int)), ∃ (a71 : Option Addr), ∃ (c72 : Nat), ∃ (s68 : Sg), rest63.length = m ∧ x2.drop k61 = rest63 ∧ s57.Le s68 ∧ Fishref2Solvable.loop1 x2 rest63 k61 q70 = some q60 ∧ Sl 1 (RL 1 (RI .i64)) s68 a71 c72 q70 ∧ Rep a 69 [(1, .slice a1 x1.length c1), (2, .slice a2 x2.length c2), (3, .pointer (some ⟨b51, 0, none⟩)), (7, .slice a71 q70.length c72), (15, .slice a2 x2.length c2), (16, .int .i64 ((x2).length : Int)), (17, .int .i64 ((k61 : Nat) : Int))] ∧ St w s68 (pt b51 (.cells #[.int .i64 x0.Period, .int .i64 x0.Events, .slice a0_0 x0.Rules.length c0_0] 24 (0, 0)) :: R)) (m := x2.length) ⟨x2, 0, q52, a54, c55, s57, rfl, rfl, (Sg.Le.refl _), hq59, h56, hE.pick _ ⟨rfl, rfl, rfl, rfl, rfl, rfl, rfl, trivial⟩, hS⟩ ?_
    clear hE hS a w hq59; rintro m67 a w ⟨rest63, k61, q70, a71, c72, s68, rfl, hd64, hle69, hq59, h73, hE, hS⟩
    refine W.gen fun K74 hK74 => ?_
    replace h0_0 := Sl.mono RPlanRule.mono hle69 h0_0
    replace h1 := Sl.mono RPlanRule.mono hle69 h1
    replace h2 := Sl.mono RI.mono hle69 h2
    replace h56 := Sl.mono (RL.mono RI.mono) hle69 h56
    rcases rest63 with _ | ⟨x62, rest63⟩
    · have hlt65 := drop_nil hd64
      refine W.seq ?_
      refine W.region ?_
      refine WL.vS hS hE (runs_plain rfl) (Gives.p hE rfl) rfl ?_; clear hE a; intro a hE
      refine WL.nil ?_
      refine W.seq ?_
      refine W.condF hE rfl (decide_eq_false (by omega)) ?_
      subst hK74
      refine W.exit rfl ?_
      exact ⟨q70, a71, c72, s68, hle69, Option.some.inj hq59, h73, hE.pick _ ⟨rfl, rfl, rfl, trivial⟩, hS⟩
    · obtain ⟨hlt65, hx66, hd64⟩ := drop_cons hd64
      rw [Fishref2Solvable.loop1] at hq59
      refine W.seq ?_
      refine W.region ?_
      refine WL.vS hS hE (runs_plain rfl) (Gives.p hE rfl) rfl ?_; clear hE a; intro a hE
      refine WL.nil ?_
      refine W.seq ?_
      refine W.condT hE rfl (decide_eq_true (by omega)) ?_
      refine W.skip ?_
      refine W.seq ?_
      refine W.block ?_
      refine W.seq ?_
      refine W.region ?_
      refine WL.vS hS hE (runs_plain rfl) (Gives.p hE rfl) rfl ?_; clear hE a; intro a hE
      obtain ⟨cs75, hl76, hR77, hat78⟩ := h2.at hx66
      subst hR77
      refine WL.vS hS hE (runs_plain rfl) (Gives.idx hE k61 rfl rfl sl29 rfl hlt65 (h2.aok hlt65)) rfl ?_; clear hE a; intro a hE
      refine WL.vS hS hE (runs_plain rfl) (Gives.load1 hE rfl (fun w h => hat78 w _ h) ty3) rfl ?_; clear hE a; intro a hE
      refine WL.vS hS hE (runs_plain rfl) (Gives.p hE rfl) rfl ?_; clear hE a; intro a hE
      refine WL.vS hS hE (runs_plain rfl) (Gives.p hE rfl) rfl ?_; clear hE a; intro a hE
      refine WL.nil ?_
      refine W.seq ?_
      refine W.seq ?_
      refine W.region ?_
      refine WL.vS hS hE (runs_plain rfl) (Gives.p hE rfl) rfl ?_; clear hE a; intro a hE
      refine WL.vS hS hE (runs_plain rfl) (Gives.p hE rfl) rfl ?_; clear hE a; intro a hE
      refine WL.vS hS hE (runs_plain rfl) (Gives.p hE rfl) rfl ?_; clear hE a; intro a hE
      refine WL.vS hS hE (runs_plain rfl) (Gives.p hE rfl) rfl ?_; clear hE a; intro a hE
      obtain ⟨x79, hx80, hq59⟩ := bindS hq59
      obtain ⟨hi81, hlt82, hy83⟩ := gx_some hx80
      obtain ⟨cs84, hl85, hR86, hat87⟩ := h2.at hy83
      subst hR86
      refine WL.vS hS hE (runs_plain rfl) (Gives.idx hE ((0 : Int)).toNat rfl rfl sl29 hi81 hlt82 (h2.aok hlt82)) rfl ?_; clear hE a; intro a hE
      refine WL.vS hS hE (runs_plain rfl) (Gives.load1 hE rfl (fun w h => hat87 w _ h) ty3) rfl ?_; clear hE a; intro a hE
      refine WL.vS hS hE (runs_plain rfl) (Gives.p hE rfl) rfl ?_; clear hE a; intro a hE
      obtain ⟨q88, hq89, hq59⟩ := bindS hq59
      have hc_ := Fishref2Boundstighter_ok hS h73 hq89
      refine WL.fnq hE (hc_) (runs_plain rfl) bd56 rfl rfl rfl ?_
      clear hE hS hc_; rintro e w ⟨a90, c91, s93, rfl, hle94, h92, hS⟩; refine ⟨_, rfl, ?_⟩; clear a; intro a hE
      replace h1 := Sl.mono RPlanRule.mono hle94 h1
      replace h2 := Sl.mono RI.mono hle94 h2
      replace h73 := Sl.mono (RL.mono RI.mono) hle94 h73
      replace h0_0 := Sl.mono RPlanRule.mono hle94 h0_0
      refine WL.vS hS hE (runs_plain rfl) (Gives.p hE rfl) rfl ?_; clear hE a; intro a hE
      refine WL.vS hS hE (runs_plain rfl) (Gives.p hE rfl) rfl ?_; clear hE a; intro a hE
      refine WL.vS hS hE (runs_plain rfl) (Gives.p hE rfl) rfl ?_; clear hE a; intro a hE
      refine WL.vS hS hE (runs_plain rfl) (Gives.p hE rfl) rfl ?_; clear hE a; intro a hE
      refine WL.vS hS hE (runs_plain rfl) (Gives.p hE rfl) rfl ?_; clear hE a; intro a hE
      refine WL.nil ?_
      refine W.seq ?_
      refine W.region ?_
      refine WL.vS hS hE (runs_plain rfl) (Gives.p hE rfl) rfl ?_; clear hE a; intro a hE
      refine WL.vS hS hE (runs_plain rfl) (Gives.p hE rfl) rfl ?_; clear hE a; intro a hE
      refine WL.nil ?_
      refine W.cond hE rfl (fun hc95 => ?_) (fun hc95 => ?_)
      · replace hq59 := iteT hc95 hq59
        refine W.seq ?_
        refine W.region ?_
        refine WL.vS hS hE (runs_plain rfl) (Gives.p hE rfl) rfl ?_; clear hE a; intro a hE
        refine WL.nil ?_
        refine W.ret ?_
        subst hK74
        rw [← Option.some.inj hq59] at hr
        dsimp only at hr
        refine finG (fn := Try.f25) (rs := [.tmp 6]) (vs := [_]) hE rfl ⟨rfl, trivial⟩ ?_
        obtain rfl := Option.some.inj hr
        replace hS := hS.tail
        exact ⟨rfl, (hS.down (Sg.Le.trans (Sg.Le.trans hle58 hle69) hle94))⟩
      · replace hq59 := iteF hc95 hq59
        refine W.skip ?_
        refine W.seq ?_
        refine W.region ?_
        refine WL.vS hS hE (runs_plain rfl) (Gives.p hE rfl) rfl ?_; clear hE a; intro a hE
        refine WL.vS hS hE (runs_plain rfl) (Gives.p hE rfl) rfl ?_; clear hE a; intro a hE
        refine WL.vS hS hE (runs_plain rfl) (Gives.p hE rfl) rfl ?_; clear hE a; intro a hE
        obtain ⟨x96, hx97, hq59⟩ := bindS hq59
        obtain ⟨hi98, hlt99, hy100⟩ := gx_some hx97
        obtain ⟨cs101, hl102, hR103, hat104⟩ := h2.at hy100
        subst hR103
        refine WL.vS hS hE (runs_plain rfl) (Gives.idx hE ((0 : Int)).toNat rfl rfl sl29 hi98 hlt99 (h2.aok hlt99)) rfl ?_; clear hE a; intro a hE
        refine WL.vS hS hE (runs_plain rfl) (Gives.load1 hE rfl (fun w h => hat104 w _ h) ty3) rfl ?_; clear hE a; intro a hE
        refine WL.vS hS hE (runs_plain rfl) (Gives.p hE rfl) rfl ?_; clear hE a; intro a hE
        refine WL.vS hS hE (runs_plain rfl) (Gives.p hE rfl) rfl ?_; clear hE a; intro a hE
        obtain ⟨q105, hq106, hq59⟩ := bindS hq59
        have hc_ := Fishref2Boundstighter_ok hS h92 hq106
        refine WL.fnq hE (hc_) (runs_plain rfl) bd56 rfl rfl rfl ?_
        clear hE hS hc_; rintro e w ⟨a107, c108, s110, rfl, hle111, h109, hS⟩; refine ⟨_, rfl, ?_⟩; clear a; intro a hE
        replace h1 := Sl.mono RPlanRule.mono hle111 h1
        replace h2 := Sl.mono RI.mono hle111 h2
        replace h92 := Sl.mono (RL.mono RI.mono) hle111 h92
        replace h73 := Sl.mono (RL.mono RI.mono) hle111 h73
        replace h0_0 := Sl.mono RPlanRule.mono hle111 h0_0
        refine WL.vS hS hE (runs_plain rfl) (Gives.p hE rfl) rfl ?_; clear hE a; intro a hE
        refine WL.vS hS hE (runs_plain rfl) (Gives.p hE rfl) rfl ?_; clear hE a; intro a hE
        refine WL.vS hS hE (runs_plain rfl) (Gives.p hE rfl) rfl ?_; clear hE a; intro a hE
        refine WL.vS hS hE (runs_plain rfl) (Gives.p hE rfl) rfl ?_; clear hE a; intro a hE
        refine WL.vS hS hE (runs_plain rfl) (Gives.p hE rfl) rfl ?_; clear hE a; intro a hE
        refine WL.nil ?_
        refine W.seq ?_
        refine W.region ?_
        refine WL.vS hS hE (runs_plain rfl) (Gives.p hE rfl) rfl ?_; clear hE a; intro a hE
        refine WL.vS hS hE (runs_plain rfl) (Gives.p hE rfl) rfl ?_; clear hE a; intro a hE
        refine WL.nil ?_
        refine W.cond hE rfl (fun hc112 => ?_) (fun hc112 => ?_)
        · replace hq59 := iteT hc112 hq59
          refine W.seq ?_
          refine W.region ?_
          refine WL.vS hS hE (runs_plain rfl) (Gives.p hE rfl) rfl ?_; clear hE a; intro a hE
          refine WL.nil ?_
          refine W.ret ?_
          subst hK74
          rw [← Option.some.inj hq59] at hr
          dsimp only at hr
          refine finG (fn := Try.f25) (rs := [.tmp 6]) (vs := [_]) hE rfl ⟨rfl, trivial⟩ ?_
          obtain rfl := Option.some.inj hr
          replace hS := hS.tail
          exact ⟨rfl, (hS.down (Sg.Le.trans (Sg.Le.trans (Sg.Le.trans hle58 hle69) hle94) hle111))⟩
        · replace hq59 := iteF hc112 hq59
          refine W.skip ?_
          refine W.region ?_
          refine WL.vS hS hE (runs_plain rfl) (Gives.inc hE rfl (by have := h2.small; omega)) rfl ?_; clear hE a; intro a hE
          refine WL.vS hS hE (runs_plain rfl) (Gives.p hE rfl) rfl ?_; clear hE a; intro a hE
          refine WL.nil ?_
          subst hK74
          exact ⟨rest63.length, Nat.lt_succ_self _, rest63, k61 + 1, q105.1, a107, c108, s110, rfl, hd64, (Sg.Le.trans (Sg.Le.trans hle69 hle94) hle111), hq59, h109, hE.pick _ ⟨rfl, rfl, rfl, rfl, rfl, rfl, rfl, trivial⟩, hS⟩
  · clear hE hS a w; rintro a w ⟨q70, a71, c72, s68, hle69, rfl, h73, hE, hS⟩
    dsimp only at hr
    replace h0_0 := Sl.mono RPlanRule.mono hle69 h0_0
    replace h1 := Sl.mono RPlanRule.mono hle69 h1
    replace h2 := Sl.mono RI.mono hle69 h2
    replace h56 := Sl.mono (RL.mono RI.mono) hle69 h56
    refine W.seq ?_
    refine W.seq ?_
    refine W.region ?_
    refine WL.vS hS hE (runs_plain rfl) (Gives.fld hE rfl fl24_1) rfl ?_; clear hE a; intro a hE
    refine WL.vS hS hE (runs_plain rfl) (Gives.loadB hE 0 rfl rfl rfl ty3) rfl ?_; clear hE a; intro a hE
    refine WL.vS hS hE (runs_plain rfl) (Gives.p hE rfl) rfl ?_; clear hE a; intro a hE
    refine WL.nil ?_
    obtain ⟨q125, hq124, hr⟩ := bindS hr
    refine W.cut (fun a w => ∃ (q130 : List (List Int)), ∃ (q134 : Int), ∃ (a131 : Option Addr), ∃ (c132 : Nat), ∃ (s128 : Sg), s68.Le s128 ∧ (.next (q130, q134)) = q125 ∧ Sl 1 (RL 1 (RI .i64)) s128 a131 c132 q130 ∧ Rep a 69 [(1, .slice a1 x1.length c1), (3, .pointer (some ⟨b51, 0, none⟩)), (7, .slice a131 q130.length c132)] ∧ St w s128 (pt b51 (.cells #[.int .i64 x0.Period, .int .i64 x0.Events, .slice a0_0 x0.Rules.length c0_0] 24 (0, 0)) :: R)) ?_ ?_
    · refine W.block ?_
      refine W.loop (fun m a w => ∃ (n126 : Nat), ∃ (q130 : List (List Int)), ∃ (q134 : Int), ∃ (a131 : Option Addr), ∃ (c132 : Nat), ∃ (s128 : Sg), n126 = m ∧ s68.Le s128 ∧ Fishref2Solvable.loop3 x0 n126 q130 q134 = some q125 ∧ Sl 1 (RL 1 (RI .i64)) s128 a131 c132 q130 ∧ Rep a 69 [(1, .slice a1 x1.length c1), (3, .pointer (some ⟨b51, 0, none⟩)), (7, .slice a131 q130.length c132), (50, .int .i64 x0.Events), (51, .int .i64 q134)] ∧ St w s128 (pt b51 (.cells #[.int .i64 x0.Period, .int .i64 x0.Events, .slice a0_0 x0.Rules.length c0_0] 24 (0, 0)) :: R)) (m := fu) ⟨fu, q70, 0, a71, c72, s68, rfl, (Sg.Le.refl _), hq124, h73, hE.pick _ ⟨rfl, rfl, rfl, rfl, rfl, trivial⟩, hS⟩ ?_
      clear hE hS a w hq124; rintro m127 a w ⟨n126, q130, q134, a131, c132, s128, rfl, hle129, hq124, h133, hE, hS⟩
      refine W.gen fun K135 hK135 => ?_
      replace h1 := Sl.mono RPlanRule.mono hle129 h1
      replace h73 := Sl.mono (RL.mono RI.mono) hle129 h73
      replace h0_0 := Sl.mono RPlanRule.mono hle129 h0_0
      rcases n126 with _ | n126
      · rw [Fishref2Solvable.loop3] at hq124; exact absurd hq124 (by simp)
      rw [Fishref2Solvable.loop3] at hq124
      refine W.seq ?_
      refine W.region ?_
      refine WL.vS hS hE (runs_plain rfl) (Gives.p hE rfl) rfl ?_; clear hE a; intro a hE
      refine WL.nil ?_
      refine W.seq ?_
      refine W.cond hE rfl (fun hc136 => ?_) (fun hc136 => ?_)
      · replace hq124 := iteT hc136 hq124
        refine W.skip ?_
        refine W.seq ?_
        refine W.block ?_
        refine W.seq ?_
        refine W.region ?_
        refine WL.vS hS hE (runs_plain rfl) (Gives.p hE rfl) rfl ?_; clear hE a; intro a hE
        refine WL.vS hS hE (runs_plain rfl) (Gives.p hE rfl) rfl ?_; clear hE a; intro a hE
        refine WL.nil ?_
        refine W.seq ?_
        refine W.region ?_
        refine WL.vS hS hE (runs_plain rfl) (Gives.p hE rfl) rfl ?_; clear hE a; intro a hE
        refine WL.vS hS hE (runs_plain rfl) (Gives.p hE rfl) rfl ?_; clear hE a; intro a hE
        obtain ⟨q137, hq138, hq124⟩ := bindS hq124
        have hc_ := Fishref2Boundstighter_ok hS h133 hq138
        refine WL.fnq hE (hc_) (runs_plain rfl) bd56 rfl rfl rfl ?_
        clear hE hS hc_; rintro e w ⟨a139, c140, s142, rfl, hle143, h141, hS⟩; refine ⟨_, rfl, ?_⟩; clear a; intro a hE
        replace h1 := Sl.mono RPlanRule.mono hle143 h1
        replace h133 := Sl.mono (RL.mono RI.mono) hle143 h133
        replace h0_0 := Sl.mono RPlanRule.mono hle143 h0_0
        refine WL.vS hS hE (runs_plain rfl) (Gives.p hE rfl) rfl ?_; clear hE a; intro a hE
        refine WL.vS hS hE (runs_plain rfl) (Gives.p hE rfl) rfl ?_; clear hE a; intro a hE
        refine WL.vS hS hE (runs_plain rfl) (Gives.p hE rfl) rfl ?_; clear hE a; intro a hE
        refine WL.vS hS hE (runs_plain rfl) (Gives.p hE rfl) rfl ?_; clear hE a; intro a hE
        refine WL.vS hS hE (runs_plain rfl) (Gives.p hE rfl) rfl ?_; clear hE a; intro a hE
        refine WL.nil ?_
        refine W.seq ?_
        refine W.region ?_
        refine WL.vS hS hE (runs_plain rfl) (Gives.p hE rfl) rfl ?_; clear hE a; intro a hE
        refine WL.vS hS hE (runs_plain rfl) (Gives.p hE rfl) rfl ?_; clear hE a; intro a hE
        refine WL.nil ?_
        refine W.cond hE rfl (fun hc144 => ?_) (fun hc144 => ?_)
        · replace hq124 := iteT hc144 hq124
          refine W.seq ?_
          refine W.region ?_
          refine WL.vS hS hE (runs_plain rfl) (Gives.p hE rfl) rfl ?_; clear hE a; intro a hE
          refine WL.nil ?_
          refine W.ret ?_
          subst hK135
          rw [← Option.some.inj hq124] at hr
          dsimp only at hr
          refine finG (fn := Try.f25) (rs := [.tmp 6]) (vs := [_]) hE rfl ⟨rfl, trivial⟩ ?_
          obtain rfl := Option.some.inj hr
          replace hS := hS.tail
          exact ⟨rfl, (hS.down (Sg.Le.trans (Sg.Le.trans (Sg.Le.trans hle58 hle69) hle129) hle143))⟩
        · replace hq124 := iteF hc144 hq124
          refine W.skip ?_
          refine W.region ?_
          refine WL.vS hS hE (runs_plain rfl) (Gives.p hE rfl) rfl ?_; clear hE a; intro a hE
          refine WL.vS hS hE (runs_plain rfl) (Gives.p hE rfl) rfl ?_; clear hE a; intro a hE
          refine WL.nil ?_
          subst hK135
          exact ⟨n126, Nat.lt_succ_self _, n126, q137.1, (w64 (q134 + 1)), a139, c140, s142, rfl, (Sg.Le.trans hle129 hle143), hq124, h141, hE.pick _ ⟨rfl, rfl, rfl, rfl, rfl, trivial⟩, hS⟩
      · replace hq124 := iteF hc136 hq124
        subst hK135
        refine W.exit rfl ?_
        exact ⟨q130, q134, a131, c132, s128, hle129, Option.some.inj hq124, h133, hE.pick _ ⟨rfl, rfl, rfl, trivial⟩, hS⟩
    · clear hE hS a w; rintro a w ⟨q130, q134, a131, c132, s128, hle129, rfl, h133, hE, hS⟩
      dsimp only at hr
      replace h1 := Sl.mono RPlanRule.mono hle129 h1
      replace h73 := Sl.mono (RL.mono RI.mono) hle129 h73
      replace h0_0 := Sl.mono RPlanRule.mono hle129 h0_0
      refine W.seq ?_
      refine W.region ?_
      refine WL.vS hS hE (runs_plain rfl) (Gives.p hE rfl) rfl ?_; clear hE a; intro a hE
      refine WL.nil ?_
      refine W.seq ?_
      refine W.region ?_
      refine WL.vS hS hE (runs_plain rfl) (Gives.loadBA hE 0 rfl rfl ty24) rfl ?_; clear hE a; intro a hE
      refine WL.vS hS hE (runs_plain rfl) (Gives.p hE rfl) rfl ?_; clear hE a; intro a hE
      refine WL.vS hS hE (runs_plain rfl) (Gives.p hE rfl) rfl ?_; clear hE a; intro a hE
      refine WL.vS hS hE (runs_plain rfl) (Gives.p hE rfl) rfl ?_; clear hE a; intro a hE
      refine WL.vS hS hE (runs_plain rfl) (Gives.p hE rfl) rfl ?_; clear hE a; intro a hE
      obtain ⟨q145, hq146, hr⟩ := bindS hr
      have hc_ := Fishref2shifts_v1_ok hS h0_0 h133 h1 hq146
      refine WL.fnq hE (hc_) (runs_plain rfl) bd58 rfl rfl rfl ?_
      clear hE hS hc_; rintro e w ⟨rfl, hS⟩; refine ⟨_, rfl, ?_⟩; clear a; intro a hE
      refine WL.vS hS hE (runs_plain rfl) (Gives.p hE rfl) rfl ?_; clear hE a; intro a hE
      refine WL.nil ?_
      refine W.ret ?_
      refine finG (fn := Try.f25) (rs := [.tmp 6]) (vs := [_]) hE rfl ⟨rfl, trivial⟩ ?_
      obtain rfl := Option.some.inj hr
      replace hS := hS.tail
      exact ⟨rfl, (hS.down (Sg.Le.trans (Sg.Le.trans hle58 hle69) hle129))⟩
set_option maxHeartbeats 8000000 in
theorem Fishref2leastNext_1_v1_ok  {w : World} {s : Sg} {R : List HP} {pb0 : Nat} {x0 : List (List Int)} {a0 : Option Addr} {c0 : Nat} {y0 : List Int} {a_y0_0 : Option Addr} {c_y0_0 : Nat} (hS : St w s (pt pb0 (.cells #[.slice a_y0_0 y0.length c_y0_0] 29 (0, 0)) :: R)) (h0 : Sl 1 (RL 1 (RI .i64)) s a0 c0 x0) (_h_y0_0 : Sl 1 (RI .i64) s a_y0_0 c_y0_0 y0) {r : Int} (hr : Fishref2leastNext_1_v1 x0 y0 = some r) :
    Calls Try.prog 73 [.slice a0 x0.length c0, .pointer (some ⟨pb0, 0, none⟩)].toArray w (fun e w => e = .returned (.int .i64 r) ∧ St w s (pt pb0 (.cells #[.slice a_y0_0 y0.length c_y0_0] 29 (0, 0)) :: R)) := by
  refine enter Try.func73 rfl rfl rfl fun a hE => ?_
  rw [Fishref2leastNext_1_v1] at hr
  refine W.seq ?_
  refine W.region ?_
  refine WL.vS hS hE (runs_plain rfl) (Gives.p hE rfl) rfl ?_; clear hE a; intro a hE
  refine WL.nil ?_
  refine W.seq ?_
  refine W.region ?_
  refine WL.vS hS hE (runs_plain rfl) (Gives.p hE rfl) rfl ?_; clear hE a; intro a hE
  refine WL.vS hS hE (runs_plain rfl) (Gives.loadB hE 0 rfl rfl rfl ty29) rfl ?_; clear hE a; intro a hE
  refine WL.vS hS hE (runs_plain rfl) (Gives.len hE rfl sl29) rfl ?_; clear hE a; intro a hE
  obtain ⟨x51, hx52, hr⟩ := bindS hr
  obtain ⟨hi53, hlt54, hy55⟩ := gx_some hx52
  obtain ⟨cs56, hl57, hR58, hat59⟩ := h0.at hy55
  obtain ⟨a60, c61, rfl, h62⟩ := hR58
  refine WL.vS hS hE (runs_plain rfl) (Gives.idx hE (((y0).length : Int)).toNat rfl rfl sl87 hi53 hlt54 (h0.aok hlt54)) rfl ?_; clear hE a; intro a hE
  refine WL.vS hS hE (runs_plain rfl) (Gives.load1 hE rfl (fun w h => hat59 w _ h) ty29) rfl ?_; clear hE a; intro a hE
  obtain ⟨x63, hx64, hr⟩ := bindS hr
  obtain ⟨hi65, hlt66, hy67⟩ := gx_some hx64
  obtain ⟨cs68, hl69, hR70, hat71⟩ := h62.at hy67
  subst hR70
  refine WL.vS hS hE (runs_plain rfl) (Gives.idx hE ((0 : Int)).toNat rfl rfl sl29 hi65 hlt66 (h62.aok hlt66)) rfl ?_; clear hE a; intro a hE
  refine WL.vS hS hE (runs_plain rfl) (Gives.load1 hE rfl (fun w h => hat71 w _ h) ty3) rfl ?_; clear hE a; intro a hE
  refine WL.vS hS hE (runs_plain rfl) (Gives.p hE rfl) rfl ?_; clear hE a; intro a hE
  refine WL.vS hS hE (runs_plain rfl) (Gives.p hE rfl) rfl ?_; clear hE a; intro a hE
  refine WL.nil ?_
  refine W.ret ?_
  refine finG (fn := Try.f73) (rs := [.tmp 3]) (vs := [_]) hE rfl ⟨rfl, trivial⟩ ?_
  obtain rfl := Option.some.inj hr
  exact ⟨rfl, hS⟩
set_option maxHeartbeats 8000000 in
theorem Fishref2leastNext_2_v1_ok  {w : World} {s : Sg} {R : List HP} {pb0 : Nat} {pb1 : Nat} {pb2 : Nat} {x0 : List (List Int)} {a0 : Option Addr} {c0 : Nat} {y1 : Int} {y2 : List Int} {a_y2_0 : Option Addr} {c_y2_0 : Nat} (hS : St w s (pt pb0 (.cells #[.func (.func 73) #[] #[.pointer (some ⟨pb2, 0, none⟩)]] 107 (0, 0)) :: pt pb1 (.cells #[.int .i64 y1] 3 (0, 0)) :: pt pb2 (.cells #[.slice a_y2_0 y2.length c_y2_0] 29 (0, 0)) :: R)) (h0 : Sl 1 (RL 1 (RI .i64)) s a0 c0 x0) (h_y2_0 : Sl 1 (RI .i64) s a_y2_0 c_y2_0 y2) {r : Bool} (hr : Fishref2leastNext_2_v1 x0 y1 y2 = some r) :
    Calls Try.prog 74 [.slice a0 x0.length c0, .pointer (some ⟨pb0, 0, none⟩), .pointer (some ⟨pb1, 0, none⟩)].toArray w (fun e w => e = .returned (.bool r) ∧ St w s (pt pb0 (.cells #[.func (.func 73) #[] #[.pointer (some ⟨pb2, 0, none⟩)]] 107 (0, 0)) :: pt pb1 (.cells #[.int .i64 y1] 3 (0, 0)) :: pt pb2 (.cells #[.slice a_y2_0 y2.length c_y2_0] 29 (0, 0)) :: R)) := by
  refine enter Try.func74 rfl rfl rfl fun a hE => ?_
  rw [Fishref2leastNext_2_v1] at hr
  refine W.seq ?_
  refine W.region ?_
  refine WL.vS hS hE (runs_plain rfl) (Gives.p hE rfl) rfl ?_; clear hE a; intro a hE
  refine WL.nil ?_
  refine W.seq ?_
  refine W.regionQ (C := fun w => St w s (pt pb0 (.cells #[.func (.func 73) #[] #[.pointer (some ⟨pb2, 0, none⟩)]] 107 (0, 0)) :: pt pb1 (.cells #[.int .i64 y1] 3 (0, 0)) :: pt pb2 (.cells #[.slice a_y2_0 y2.length c_y2_0] 29 (0, 0)) :: R)) mixed (by kernel_rfl) hS.drew ?_
  refine QL.v hE (runs_plain rfl) (Gives.loadB hE 0 rfl rfl rfl ty107) rfl ?_; clear hE a; intro a hE
  refine QL.v hE (runs_plain rfl) (Gives.p hE rfl) rfl ?_; clear hE a; intro a hE
  obtain ⟨q51, hq52, hr⟩ := bindS hr
  refine QL.fnw hE (fun w hS => (Fishref2leastNext_1_v1_ok (St.front hS 2 rfl) h0 h_y2_0 hq52).mono fun _ _ ⟨he, hq⟩ => ⟨he, (St.unfront 2 rfl hq)⟩) rfl (runs_plain rfl) bd73 rfl rfl rfl ?_; clear hE a; intro a hE
  refine QL.v hE (runs_plain rfl) (Gives.loadB hE 1 rfl rfl rfl ty3) rfl ?_; clear hE a; intro a hE
  refine QL.v hE (runs_plain rfl) (Gives.p hE rfl) rfl ?_; clear hE a; intro a hE
  refine QL.v hE (runs_plain rfl) (Gives.p hE rfl) rfl ?_; clear hE a; intro a hE
  refine QL.nil ?_; clear hS w; intro w hS
  refine W.ret ?_
  refine finG (fn := Try.f74) (rs := [.tmp 4]) (vs := [_]) hE rfl ⟨rfl, trivial⟩ ?_
  obtain rfl := Option.some.inj hr
  exact ⟨rfl, hS⟩
set_option maxHeartbeats 8000000 in
theorem Fishref2leastNext_3_v1_ok  {w : World} {s : Sg} {R : List HP} {pb0 : Nat} {pb1 : Nat} {pb2 : Nat} {x0 : List (List Int)} {a0 : Option Addr} {c0 : Nat} {y1 : Int} {y2 : List Int} {a_y2_0 : Option Addr} {c_y2_0 : Nat} (hS : St w s (pt pb0 (.cells #[.func (.func 73) #[] #[.pointer (some ⟨pb2, 0, none⟩)]] 107 (0, 0)) :: pt pb1 (.cells #[.int .i64 y1] 3 (0, 0)) :: pt pb2 (.cells #[.slice a_y2_0 y2.length c_y2_0] 29 (0, 0)) :: R)) (h0 : Sl 1 (RL 1 (RI .i64)) s a0 c0 x0) (h_y2_0 : Sl 1 (RI .i64) s a_y2_0 c_y2_0 y2) {r : Bool × Int} (hr : Fishref2leastNext_3_v1 x0 y1 y2 = some r) :
    Calls Try.prog 75 [.slice a0 x0.length c0, .pointer (some ⟨pb0, 0, none⟩), .pointer (some ⟨pb1, 0, none⟩)].toArray w (fun e w => e = .returned (.bool r.1) ∧ St w s (pt pb0 (.cells #[.func (.func 73) #[] #[.pointer (some ⟨pb2, 0, none⟩)]] 107 (0, 0)) :: pt pb1 (.cells #[.int .i64 r.2] 3 (0, 0)) :: pt pb2 (.cells #[.slice a_y2_0 y2.length c_y2_0] 29 (0, 0)) :: R)) := by
  refine enter Try.func75 rfl rfl rfl fun a hE => ?_
  rw [Fishref2leastNext_3_v1] at hr
  refine W.seq ?_
  refine W.region ?_
  refine WL.vS hS hE (runs_plain rfl) (Gives.p hE rfl) rfl ?_; clear hE a; intro a hE
  refine WL.nil ?_
  refine W.seq ?_
  refine W.region ?_
  refine WL.vS hS hE (runs_plain rfl) (Gives.loadB hE 0 rfl rfl rfl ty107) rfl ?_; clear hE a; intro a hE
  refine WL.vS hS hE (runs_plain rfl) (Gives.p hE rfl) rfl ?_; clear hE a; intro a hE
  obtain ⟨q52, hq53, hr⟩ := bindS hr
  replace hS := hS.front 2 rfl
  have hc_ := Fishref2leastNext_1_v1_ok hS h0 h_y2_0 hq53
  refine WL.fnw hE (hc_) rfl (runs_plain rfl) bd73 rfl rfl rfl ?_
  clear hE hS hc_; rintro e w ⟨rfl, hS⟩; refine ⟨_, rfl, ?_⟩; clear a; intro a hE
  refine WL.storeI hE hS 2 rfl [.int .i64 q52] (runs_plain rfl) rfl rfl rfl ty3 rfl rfl rfl rfl ?_; clear hE hS a w; intro a w hE hS
  refine WL.nil ?_
  refine W.seq ?_
  refine W.region ?_
  refine WL.vS hS hE (runs_plain rfl) (Gives.p hE rfl) rfl ?_; clear hE a; intro a hE
  refine WL.nil ?_
  refine W.ret ?_
  refine finG (fn := Try.f75) (rs := [.tmp 4]) (vs := [_]) hE rfl ⟨rfl, trivial⟩ ?_
  obtain rfl := Option.some.inj hr
  replace hS := hS.front 2 rfl
  replace hS := hS.front 2 rfl
  exact ⟨rfl, hS⟩
set_option maxHeartbeats 8000000 in
theorem Fishref2shifts_v2_ok : ∀ {fu : Nat} {w : World} {s : Sg} {R : List HP} {pb0 : Nat} {pb1 : Nat} {pb2 : Nat} {x0 : PlanPeriodic} {a0_0 : Option Addr} {c0_0 : Nat} {x1 : List (List Int)} {a1 : Option Addr} {c1 : Nat} {x2 : List PlanRule} {a2 : Option Addr} {c2 : Nat} {y1 : Int} {y2 : List Int} {a_y2_0 : Option Addr} {c_y2_0 : Nat} (_hS : St w s (pt pb0 (.cells #[.func (.func 73) #[] #[.pointer (some ⟨pb2, 0, none⟩)]] 107 (0, 0)) :: pt pb1 (.cells #[.int .i64 y1] 3 (0, 0)) :: pt pb2 (.cells #[.slice a_y2_0 y2.length c_y2_0] 29 (0, 0)) :: R)) (_h0_0 : Sl 5 RPlanRule s a0_0 c0_0 x0.Rules) (_h1 : Sl 1 (RL 1 (RI .i64)) s a1 c1 x1) (_h2 : Sl 5 RPlanRule s a2 c2 x2) (_h_y2_0 : Sl 1 (RI .i64) s a_y2_0 c_y2_0 y2) {r : Bool × Int} (_hr : Fishref2shifts_v2 fu x0 x1 x2 y1 y2 = some r),
    Calls Try.prog 58 [.agg [.int .i64 x0.Period, .int .i64 x0.Events, .slice a0_0 x0.Rules.length c0_0].toArray, .slice a1 x1.length c1, .slice a2 x2.length c2, .func (.func 74) #[] #[.pointer (some ⟨pb0, 0, none⟩), .pointer (some ⟨pb1, 0, none⟩)], .func (.func 75) #[] #[.pointer (some ⟨pb0, 0, none⟩), .pointer (some ⟨pb1, 0, none⟩)]].toArray w (fun e w => e = .returned (.bool r.1) ∧ St w s (pt pb0 (.cells #[.func (.func 73) #[] #[.pointer (some ⟨pb2, 0, none⟩)]] 107 (0, 0)) :: pt pb1 (.cells #[.int .i64 r.2] 3 (0, 0)) :: pt pb2 (.cells #[.slice a_y2_0 y2.length c_y2_0] 29 (0, 0)) :: R)) := by
  intro fu
  induction fu with
  | zero => intro w s R pb0 pb1 pb2 x0 a0_0 c0_0 x1 a1 c1 x2 a2 c2 y1 y2 a_y2_0 c_y2_0 hS h0_0 h1 h2 h_y2_0 r hr; rw [Fishref2shifts_v2] at hr; exact absurd hr (by simp)
  | succ fu ih_Fishref2shifts_v2 =>
    intro w s R pb0 pb1 pb2 x0 a0_0 c0_0 x1 a1 c1 x2 a2 c2 y1 y2 a_y2_0 c_y2_0 hS h0_0 h1 h2 h_y2_0 r hr
    rw [Fishref2shifts_v2] at hr
    generalize Fishref2shifts_v2 fu = self_Fishref2shifts_v2 at hr ih_Fishref2shifts_v2
    refine enter Try.func58 rfl rfl rfl fun a hE => ?_
    refine W.seq ?_
    refine W.region ?_
    refine WL.box hE hS (runs_plain rfl) rfl rfl rfl ?_; clear hE hS a w; intro b52 a w hE hS
    refine WL.vS hS hE (runs_plain rfl) (Gives.p hE rfl) rfl ?_; clear hE a; intro a hE
    refine WL.nil ?_
    refine W.seq ?_
    refine W.seq ?_
    refine W.region ?_
    refine WL.vS hS hE (runs_plain rfl) (Gives.p hE rfl) rfl ?_; clear hE a; intro a hE
    refine WL.vS hS hE (runs_plain rfl) (Gives.p hE rfl) rfl ?_; clear hE a; intro a hE
    obtain ⟨q53, hq54, hr⟩ := bindS hr
    replace hS := hS.front 3 rfl
    replace hS := hS.front 3 rfl
    replace hS := hS.front 3 rfl
    have hc_ := Fishref2leastNext_2_v1_ok hS h1 h_y2_0 hq54
    refine WL.fnw hE (hc_) rfl (runs_plain rfl) bd74 rfl rfl rfl ?_
    clear hE hS hc_; rintro e w ⟨rfl, hS⟩; refine ⟨_, rfl, ?_⟩; clear a; intro a hE
    refine WL.vS hS hE (runs_plain rfl) (Gives.p hE rfl) rfl ?_; clear hE a; intro a hE
    refine WL.nil ?_
    refine W.cond hE rfl (fun hc55 => ?_) (fun hc55 => ?_)
    · replace hr := iteT hc55 hr
      refine W.seq ?_
      refine W.region ?_
      refine WL.vS hS hE (runs_plain rfl) (Gives.p hE rfl) rfl ?_; clear hE a; intro a hE
      refine WL.nil ?_
      refine W.ret ?_
      refine finG (fn := Try.f58) (rs := [.tmp 10]) (vs := [_]) hE rfl ⟨rfl, trivial⟩ ?_
      obtain rfl := Option.some.inj hr
      replace hS := hS.dropAt 3
      exact ⟨rfl, hS⟩
    · replace hr := iteF hc55 hr
      refine W.skip ?_
      refine W.seq ?_
      refine W.seq ?_
      refine W.region ?_
      refine WL.vS hS hE (runs_plain rfl) (Gives.p hE rfl) rfl ?_; clear hE a; intro a hE
      refine WL.vS hS hE (runs_plain rfl) (Gives.len hE rfl sl22) rfl ?_; clear hE a; intro a hE
      refine WL.vS hS hE (runs_plain rfl) (Gives.p hE rfl) rfl ?_; clear hE a; intro a hE
      refine WL.nil ?_
      refine W.cond hE rfl (fun hc56 => ?_) (fun hc56 => ?_)
      · replace hr := iteT hc56 hr
        refine W.seq ?_
        refine W.region ?_
        refine WL.vS hS hE (runs_plain rfl) (Gives.p hE rfl) rfl ?_; clear hE a; intro a hE
        refine WL.vS hS hE (runs_plain rfl) (Gives.p hE rfl) rfl ?_; clear hE a; intro a hE
        obtain ⟨q57, hq58, hr⟩ := bindS hr
        have hc_ := Fishref2leastNext_3_v1_ok hS h1 h_y2_0 hq58
        refine WL.fnw hE (hc_) rfl (runs_plain rfl) bd75 rfl rfl rfl ?_
        clear hE hS hc_; rintro e w ⟨rfl, hS⟩; refine ⟨_, rfl, ?_⟩; clear a; intro a hE
        refine WL.vS hS hE (runs_plain rfl) (Gives.p hE rfl) rfl ?_; clear hE a; intro a hE
        refine WL.nil ?_
        refine W.ret ?_
        refine finG (fn := Try.f58) (rs := [.tmp 10]) (vs := [_]) hE rfl ⟨rfl, trivial⟩ ?_
        obtain rfl := Option.some.inj hr
        replace hS := hS.dropAt 3
        exact ⟨rfl, hS⟩
      · replace hr := iteF hc56 hr
        refine W.skip ?_
        refine W.seq ?_
        refine W.region ?_
        refine WL.vS hS hE (runs_plain rfl) (Gives.p hE rfl) rfl ?_; clear hE a; intro a hE
        refine WL.vS hS hE (runs_plain rfl) (Gives.p hE rfl) rfl ?_; clear hE a; intro a hE
        refine WL.nil ?_
        refine W.seq ?_
        refine W.seq ?_
        refine W.region ?_
        refine WL.vS hS hE (runs_plain rfl) (Gives.p hE rfl) rfl ?_; clear hE a; intro a hE
        refine WL.vS hS hE (runs_plain rfl) (Gives.len hE rfl sl22) rfl ?_; clear hE a; intro a hE
        refine WL.vS hS hE (runs_plain rfl) (Gives.p hE rfl) rfl ?_; clear hE a; intro a hE
        refine WL.nil ?_
        obtain ⟨q60, hq59, hr⟩ := bindS hr
        refine W.cut (fun a w => ∃ (q70 : Int), ∃ (q71 : List (List (List Int))), ∃ (a72 : Option Addr), ∃ (c73 : Nat), ∃ (s68 : Sg), s.Le s68 ∧ (.next (q70, q71)) = q60 ∧ Sl 1 (RL 1 (RL 1 (RI .i64))) s68 a72 c73 q71 ∧ Rep a 127 [(2, .slice a2 x2.length c2), (3, .func (.func 74) #[] #[.pointer (some ⟨pb0, 0, none⟩), .pointer (some ⟨pb1, 0, none⟩)]), (4, .func (.func 75) #[] #[.pointer (some ⟨pb0, 0, none⟩), .pointer (some ⟨pb1, 0, none⟩)]), (5, .pointer (some ⟨b52, 0, none⟩)), (11, .int .i64 q70), (12, .slice a72 q71.length c73)] ∧ St w s68 (pt pb0 (.cells #[.func (.func 73) #[] #[.pointer (some ⟨pb2, 0, none⟩)]] 107 (0, 0)) :: pt pb1 (.cells #[.int .i64 y1] 3 (0, 0)) :: pt pb2 (.cells #[.slice a_y2_0 y2.length c_y2_0] 29 (0, 0)) :: pt b52 (.cells #[.int .i64 x0.Period, .int .i64 x0.Events, .slice a0_0 x0.Rules.length c0_0] 24 (0, 0)) :: R)) ?_ ?_
        · refine W.block ?_
          refine W.loop (fun m a w => ∃ (rest63 : List PlanRule) (k61 : Nat), ∃ (q70 : Int), ∃ (q71 : List (List (List Int))), ∃ (a72 : Option Addr), ∃ (c73 : Nat), ∃ (s68 : Sg), rest63.length = m ∧ x2.drop k61 = rest63 ∧ s.Le s68 ∧ Fishref2shifts_v2.loop1 x0 x1 y1 fu rest63 k61 q70 q71 = some q60 ∧ Sl 1 (RL 1 (RL 1 (RI .i64))) s68 a72 c73 q71 ∧ Rep a 127 [(1, .slice a1 x1.length c1), (2, .slice a2 x2.length c2), (3, .func (.func 74) #[] #[.pointer (some ⟨pb0, 0, none⟩), .pointer (some ⟨pb1, 0, none⟩)]), (4, .func (.func 75) #[] #[.pointer (some ⟨pb0, 0, none⟩), .pointer (some ⟨pb1, 0, none⟩)]), (5, .pointer (some ⟨b52, 0, none⟩)), (11, .int .i64 q70), (12, .slice a72 q71.length c73), (32, .slice a2 x2.length c2), (33, .int .i64 ((x2).length : Int)), (34, .int .i64 ((k61 : Nat) : Int))] ∧ St w s68 (pt pb0 (.cells #[.func (.func 73) #[] #[.pointer (some ⟨pb2, 0, none⟩)]] 107 (0, 0)) :: pt pb1 (.cells #[.int .i64 y1] 3 (0, 0)) :: pt pb2 (.cells #[.slice a_y2_0 y2.length c_y2_0] 29 (0, 0)) :: pt b52 (.cells #[.int .i64 x0.Period, .int .i64 x0.Events, .slice a0_0 x0.Rules.length c0_0] 24 (0, 0)) :: R)) (m := x2.length) ⟨x2, 0, (-1), [], none, 0, s, rfl, rfl, (Sg.Le.refl _), hq59, Sl.nil, hE.pick _ ⟨rfl, rfl, rfl, rfl, rfl, rfl, rfl, rfl, rfl, rfl, trivial⟩, hS⟩ ?_
          clear hE hS a w hq59; rintro m67 a w ⟨rest63, k61, q70, q71, a72, c73, s68, rfl, hd64, hle69, hq59, h74, hE, hS⟩
          refine W.gen fun K75 hK75 => ?_
          replace h0_0 := Sl.mono RPlanRule.mono hle69 h0_0
          replace h1 := Sl.mono (RL.mono RI.mono) hle69 h1
          replace h2 := Sl.mono RPlanRule.mono hle69 h2
          replace h_y2_0 := Sl.mono RI.mono hle69 h_y2_0
          rcases rest63 with _ | ⟨x62, rest63⟩
          · have hlt65 := drop_nil hd64
            refine W.seq ?_
            refine W.region ?_
            refine WL.vS hS hE (runs_plain rfl) (Gives.p hE rfl) rfl ?_; clear hE a; intro a hE
            refine WL.nil ?_
            refine W.seq ?_
            refine W.condF hE rfl (decide_eq_false (by omega)) ?_
            subst hK75
            refine W.exit rfl ?_
            exact ⟨q70, q71, a72, c73, s68, hle69, Option.some.inj hq59, h74, hE.pick _ ⟨rfl, rfl, rfl, rfl, rfl, rfl, trivial⟩, hS⟩
          · obtain ⟨hlt65, hx66, hd64⟩ := drop_cons hd64
            rw [Fishref2shifts_v2.loop1] at hq59
            refine W.seq ?_
            refine W.region ?_
            refine WL.vS hS hE (runs_plain rfl) (Gives.p hE rfl) rfl ?_; clear hE a; intro a hE
            refine WL.nil ?_
            refine W.seq ?_
            refine W.condT hE rfl (decide_eq_true (by omega)) ?_
            refine W.skip ?_
            refine W.seq ?_
            refine W.block ?_
            refine W.seq ?_
            refine W.region ?_
            refine WL.vS hS hE (runs_plain rfl) (Gives.p hE rfl) rfl ?_; clear hE a; intro a hE
            obtain ⟨cs76, hl77, hR78, hat79⟩ := h2.at hx66
            subst hR78
            refine WL.vS hS hE (runs_plain rfl) (Gives.idx hE k61 rfl rfl sl22 rfl hlt65 (h2.aok hlt65)) rfl ?_; clear hE a; intro a hE
            refine WL.vS hS hE (runs_plain rfl) (Gives.loadA hE rfl (fun w h => hat79 w _ h) ty37) rfl ?_; clear hE a; intro a hE
            refine WL.alloc hE hS (runs_plain rfl) zr37 rfl ?_; clear hE hS a w; intro b80 a w hE hS
            refine WL.vS hS hE (runs_plain rfl) (Gives.p hE rfl) rfl ?_; clear hE a; intro a hE
            refine WL.storeI hE hS 0 rfl (PlanRule.cells x62) (runs_plain rfl) rfl rfl rfl ty37 rfl rfl rfl rfl ?_; clear hE hS a w; intro a w hE hS
            refine WL.nil ?_
            refine W.seq ?_
            refine W.region ?_
            replace hS := hS.vecNil 87 1
            refine WL.vS hS hE (runs_plain rfl) (Gives.p hE rfl) rfl ?_; clear hE a; intro a hE
            refine WL.nil ?_
            refine W.seq ?_
            refine W.seq ?_
            refine W.region ?_
            refine WL.vS hS hE (runs_plain rfl) (Gives.p hE rfl) rfl ?_; clear hE a; intro a hE
            refine WL.nil ?_
            obtain ⟨q83, hq82, hq59⟩ := bindS hq59
            refine W.cut (fun a w => ∃ (q88 : List (List (List Int))), ∃ (q95 : Int), ∃ (a89 : Option Addr), ∃ (c90 : Nat), ∃ (n92 : Nat), ∃ (cs93 : List Value), ∃ (s86 : Sg), s68.Le s86 ∧ (q88, q95) = q83 ∧ Ev 1 (RL 1 (RL 1 (RI .i64))) s86 cs93 q88 ∧ q88.length = n92 ∧ Rep a 127 [(1, .slice a1 x1.length c1), (2, .slice a2 x2.length c2), (3, .func (.func 74) #[] #[.pointer (some ⟨pb0, 0, none⟩), .pointer (some ⟨pb1, 0, none⟩)]), (4, .func (.func 75) #[] #[.pointer (some ⟨pb0, 0, none⟩), .pointer (some ⟨pb1, 0, none⟩)]), (5, .pointer (some ⟨b52, 0, none⟩)), (11, .int .i64 q70), (12, .slice a72 q71.length c73), (13, .int .i64 ((k61 : Nat) : Int)), (15, .slice a89 n92 c90), (32, .slice a2 x2.length c2), (33, .int .i64 ((x2).length : Int)), (34, .int .i64 ((k61 : Nat) : Int))] ∧ St w s86 (vecC 87 1 a89 c90 n92 cs93 :: pt b80 (.cells (PlanRule.cells x62).toArray 37 (0, 0)) :: pt pb0 (.cells #[.func (.func 73) #[] #[.pointer (some ⟨pb2, 0, none⟩)]] 107 (0, 0)) :: pt pb1 (.cells #[.int .i64 y1] 3 (0, 0)) :: pt pb2 (.cells #[.slice a_y2_0 y2.length c_y2_0] 29 (0, 0)) :: pt b52 (.cells #[.int .i64 x0.Period, .int .i64 x0.Events, .slice a0_0 x0.Rules.length c0_0] 24 (0, 0)) :: R)) ?_ ?_
            · refine W.block ?_
              refine W.loop (fun m a w => ∃ (n84 : Nat), ∃ (q88 : List (List (List Int))), ∃ (q95 : Int), ∃ (a89 : Option Addr), ∃ (c90 : Nat), ∃ (n92 : Nat), ∃ (cs93 : List Value), ∃ (s86 : Sg), n84 = m ∧ s68.Le s86 ∧ Fishref2shifts_v2.loop2 x0 x1 x62 n84 q88 q95 = some q83 ∧ Ev 1 (RL 1 (RL 1 (RI .i64))) s86 cs93 q88 ∧ q88.length = n92 ∧ Rep a 127 [(1, .slice a1 x1.length c1), (2, .slice a2 x2.length c2), (3, .func (.func 74) #[] #[.pointer (some ⟨pb0, 0, none⟩), .pointer (some ⟨pb1, 0, none⟩)]), (4, .func (.func 75) #[] #[.pointer (some ⟨pb0, 0, none⟩), .pointer (some ⟨pb1, 0, none⟩)]), (5, .pointer (some ⟨b52, 0, none⟩)), (11, .int .i64 q70), (12, .slice a72 q71.length c73), (13, .int .i64 ((k61 : Nat) : Int)), (14, .pointer (some ⟨b80, 0, none⟩)), (15, .slice a89 n92 c90), (16, .int .i64 q95), (32, .slice a2 x2.length c2), (33, .int .i64 ((x2).length : Int)), (34, .int .i64 ((k61 : Nat) : Int))] ∧ St w s86 (vecC 87 1 a89 c90 n92 cs93 :: pt b80 (.cells (PlanRule.cells x62).toArray 37 (0, 0)) :: pt pb0 (.cells #[.func (.func 73) #[] #[.pointer (some ⟨pb2, 0, none⟩)]] 107 (0, 0)) :: pt pb1 (.cells #[.int .i64 y1] 3 (0, 0)) :: pt pb2 (.cells #[.slice a_y2_0 y2.length c_y2_0] 29 (0, 0)) :: pt b52 (.cells #[.int .i64 x0.Period, .int .i64 x0.Events, .slice a0_0 x0.Rules.length c0_0] 24 (0, 0)) :: R)) (m := fu) ⟨fu, [], (-1), none, 0, 0, [], s68, rfl, (Sg.Le.refl _), hq82, (Ev.nil), (rfl), hE.pick _ ⟨rfl, rfl, rfl, rfl, rfl, rfl, rfl, rfl, rfl, rfl, rfl, rfl, rfl, rfl, trivial⟩, hS⟩ ?_
              clear hE hS a w hq82; rintro m85 a w ⟨n84, q88, q95, a89, c90, n92, cs93, s86, rfl, hle87, hq82, h91, rfl, hE, hS⟩
              refine W.gen fun K96 hK96 => ?_
              replace h1 := Sl.mono (RL.mono RI.mono) hle87 h1
              replace h2 := Sl.mono RPlanRule.mono hle87 h2
              replace h74 := Sl.mono (RL.mono (RL.mono RI.mono)) hle87 h74
              replace h_y2_0 := Sl.mono RI.mono hle87 h_y2_0
              replace h0_0 := Sl.mono RPlanRule.mono hle87 h0_0
              rcases n84 with _ | n84
              · rw [Fishref2shifts_v2.loop2] at hq82; exact absurd hq82 (by simp)
              rw [Fishref2shifts_v2.loop2] at hq82
              refine W.seq ?_
              refine W.seq ?_
              refine W.region ?_
              refine WL.vS hS hE (runs_plain rfl) (Gives.p hE rfl) rfl ?_; clear hE a; intro a hE
              refine WL.vS hS hE (runs_plain rfl) (Gives.fld hE rfl fl37_3) rfl ?_; clear hE a; intro a hE
              refine WL.vS hS hE (runs_plain rfl) (Gives.loadB hE 1 rfl rfl rfl ty3) rfl ?_; clear hE a; intro a hE
              refine WL.vS hS hE (runs_plain rfl) (Gives.fld hE rfl fl24_0) rfl ?_; clear hE a; intro a hE
              refine WL.vS hS hE (runs_plain rfl) (Gives.loadB hE 5 rfl rfl rfl ty3) rfl ?_; clear hE a; intro a hE
              refine WL.vS hS hE (runs_plain rfl) (Gives.p hE rfl) rfl ?_; clear hE a; intro a hE
              refine WL.vS hS hE (runs_plain rfl) (Gives.fld hE rfl fl24_0) rfl ?_; clear hE a; intro a hE
              refine WL.vS hS hE (runs_plain rfl) (Gives.loadB hE 5 rfl rfl rfl ty3) rfl ?_; clear hE a; intro a hE
              obtain ⟨x97, hx98, hq82⟩ := bindS hq82
              refine WL.vS hS hE (runs_plain rfl) (Gives.dv hE rfl rfl hx98) rfl ?_; clear hE a; intro a hE
              refine WL.vS hS hE (runs_plain rfl) (Gives.p hE rfl) rfl ?_; clear hE a; intro a hE
              refine WL.vS hS hE (runs_plain rfl) (Gives.p hE rfl) rfl ?_; clear hE a; intro a hE
              refine WL.nil ?_
              refine W.cond hE rfl (fun hc99 => ?_) (fun hc99 => ?_)
              · replace hq82 := iteT hc99 hq82
                refine W.skip ?_
                refine W.seq ?_
                refine W.block ?_
                refine W.seq ?_
                refine W.region ?_
                refine WL.vS hS hE (runs_plain rfl) (Gives.p hE rfl) rfl ?_; clear hE a; intro a hE
                refine WL.vS hS hE (runs_plain rfl) (Gives.fld hE rfl fl37_0) rfl ?_; clear hE a; intro a hE
                refine WL.vS hS hE (runs_plain rfl) (Gives.loadB hE 1 rfl rfl rfl ty3) rfl ?_; clear hE a; intro a hE
                refine WL.vS hS hE (runs_plain rfl) (Gives.fld hE rfl fl37_1) rfl ?_; clear hE a; intro a hE
                refine WL.vS hS hE (runs_plain rfl) (Gives.loadB hE 1 rfl rfl rfl ty3) rfl ?_; clear hE a; intro a hE
                refine WL.vS hS hE (runs_plain rfl) (Gives.fld hE rfl fl37_3) rfl ?_; clear hE a; intro a hE
                refine WL.vS hS hE (runs_plain rfl) (Gives.loadB hE 1 rfl rfl rfl ty3) rfl ?_; clear hE a; intro a hE
                refine WL.vS hS hE (runs_plain rfl) (Gives.p hE rfl) rfl ?_; clear hE a; intro a hE
                refine WL.vS hS hE (runs_plain rfl) (Gives.fld hE rfl fl24_0) rfl ?_; clear hE a; intro a hE
                refine WL.vS hS hE (runs_plain rfl) (Gives.loadB hE 5 rfl rfl rfl ty3) rfl ?_; clear hE a; intro a hE
                refine WL.vS hS hE (runs_plain rfl) (Gives.p hE rfl) rfl ?_; clear hE a; intro a hE
                refine WL.vS hS hE (runs_plain rfl) (Gives.p hE rfl) rfl ?_; clear hE a; intro a hE
                obtain ⟨q100, hq101, hq82⟩ := bindS hq82
                have hc_ := Fishref2Boundstighter_ok hS h1 hq101
                refine WL.fnq hE (hc_) (runs_plain rfl) bd56 rfl rfl rfl ?_
                clear hE hS hc_; rintro e w ⟨a102, c103, s105, rfl, hle106, h104, hS⟩; refine ⟨_, rfl, ?_⟩; clear a; intro a hE
                replace h1 := Sl.mono (RL.mono RI.mono) hle106 h1
                replace h2 := Sl.mono RPlanRule.mono hle106 h2
                replace h74 := Sl.mono (RL.mono (RL.mono RI.mono)) hle106 h74
                replace h91 := Ev.mono (RL.mono (RL.mono RI.mono)) hle106 h91
                replace h_y2_0 := Sl.mono RI.mono hle106 h_y2_0
                replace h0_0 := Sl.mono RPlanRule.mono hle106 h0_0
                refine WL.vS hS hE (runs_plain rfl) (Gives.p hE rfl) rfl ?_; clear hE a; intro a hE
                refine WL.vS hS hE (runs_plain rfl) (Gives.p hE rfl) rfl ?_; clear hE a; intro a hE
                refine WL.vS hS hE (runs_plain rfl) (Gives.p hE rfl) rfl ?_; clear hE a; intro a hE
                refine WL.vS hS hE (runs_plain rfl) (Gives.p hE rfl) rfl ?_; clear hE a; intro a hE
                refine WL.vS hS hE (runs_plain rfl) (Gives.p hE rfl) rfl ?_; clear hE a; intro a hE
                refine WL.nil ?_
                refine W.seq ?_
                refine W.seq ?_
                refine W.region ?_
                refine WL.vS hS hE (runs_plain rfl) (Gives.p hE rfl) rfl ?_; clear hE a; intro a hE
                refine WL.nil ?_
                obtain ⟨q108, hq107, hq82⟩ := bindS hq82
                refine W.cut (fun a w => ∃ (q111 : List (List Int)), ∃ (q115 : Bool), ∃ (a112 : Option Addr), ∃ (c113 : Nat), ∃ (s109 : Sg), s105.Le s109 ∧ (q111, q115) = q108 ∧ Sl 1 (RL 1 (RI .i64)) s109 a112 c113 q111 ∧ Rep a 127 [(1, .slice a1 x1.length c1), (2, .slice a2 x2.length c2), (3, .func (.func 74) #[] #[.pointer (some ⟨pb0, 0, none⟩), .pointer (some ⟨pb1, 0, none⟩)]), (4, .func (.func 75) #[] #[.pointer (some ⟨pb0, 0, none⟩), .pointer (some ⟨pb1, 0, none⟩)]), (5, .pointer (some ⟨b52, 0, none⟩)), (11, .int .i64 q70), (12, .slice a72 q71.length c73), (13, .int .i64 ((k61 : Nat) : Int)), (14, .pointer (some ⟨b80, 0, none⟩)), (15, .slice a89 q88.length c90), (16, .int .i64 q95), (17, .slice a112 q111.length c113), (18, .bool q115), (32, .slice a2 x2.length c2), (33, .int .i64 ((x2).length : Int)), (34, .int .i64 ((k61 : Nat) : Int))] ∧ St w s109 (vecC 87 1 a89 c90 q88.length cs93 :: pt b80 (.cells (PlanRule.cells x62).toArray 37 (0, 0)) :: pt pb0 (.cells #[.func (.func 73) #[] #[.pointer (some ⟨pb2, 0, none⟩)]] 107 (0, 0)) :: pt pb1 (.cells #[.int .i64 y1] 3 (0, 0)) :: pt pb2 (.cells #[.slice a_y2_0 y2.length c_y2_0] 29 (0, 0)) :: pt b52 (.cells #[.int .i64 x0.Period, .int .i64 x0.Events, .slice a0_0 x0.Rules.length c0_0] 24 (0, 0)) :: R)) ?_ ?_
                · refine W.gen fun K116 hK116 => ?_
                  refine W.cond hE rfl (fun hc117 => ?_) (fun hc117 => ?_)
                  · replace hq107 := iteT hc117 hq107
                    refine W.region ?_
                    refine WL.vS hS hE (runs_plain rfl) (Gives.p hE rfl) rfl ?_; clear hE a; intro a hE
                    refine WL.vS hS hE (runs_plain rfl) (Gives.fld hE rfl fl37_1) rfl ?_; clear hE a; intro a hE
                    refine WL.vS hS hE (runs_plain rfl) (Gives.loadB hE 1 rfl rfl rfl ty3) rfl ?_; clear hE a; intro a hE
                    refine WL.vS hS hE (runs_plain rfl) (Gives.fld hE rfl fl37_0) rfl ?_; clear hE a; intro a hE
                    refine WL.vS hS hE (runs_plain rfl) (Gives.loadB hE 1 rfl rfl rfl ty3) rfl ?_; clear hE a; intro a hE
                    refine WL.vS hS hE (runs_plain rfl) (Gives.p hE rfl) rfl ?_; clear hE a; intro a hE
                    refine WL.vS hS hE (runs_plain rfl) (Gives.fld hE rfl fl24_0) rfl ?_; clear hE a; intro a hE
                    refine WL.vS hS hE (runs_plain rfl) (Gives.loadB hE 5 rfl rfl rfl ty3) rfl ?_; clear hE a; intro a hE
                    refine WL.vS hS hE (runs_plain rfl) (Gives.p hE rfl) rfl ?_; clear hE a; intro a hE
                    refine WL.vS hS hE (runs_plain rfl) (Gives.fld hE rfl fl37_2) rfl ?_; clear hE a; intro a hE
                    refine WL.vS hS hE (runs_plain rfl) (Gives.loadB hE 1 rfl rfl rfl ty3) rfl ?_; clear hE a; intro a hE
                    refine WL.vS hS hE (runs_plain rfl) (Gives.p hE rfl) rfl ?_; clear hE a; intro a hE
                    obtain ⟨q118, hq119, hq107⟩ := bindS hq107
                    have hc_ := Fishref2Boundstighter_ok hS h104 hq119
                    refine WL.fnq hE (hc_) (runs_plain rfl) bd56 rfl rfl rfl ?_
                    clear hE hS hc_; rintro e w ⟨a120, c121, s123, rfl, hle124, h122, hS⟩; refine ⟨_, rfl, ?_⟩; clear a; intro a hE
                    replace h1 := Sl.mono (RL.mono RI.mono) hle124 h1
                    replace h2 := Sl.mono RPlanRule.mono hle124 h2
                    replace h74 := Sl.mono (RL.mono (RL.mono RI.mono)) hle124 h74
                    replace h104 := Sl.mono (RL.mono RI.mono) hle124 h104
                    replace h91 := Ev.mono (RL.mono (RL.mono RI.mono)) hle124 h91
                    replace h_y2_0 := Sl.mono RI.mono hle124 h_y2_0
                    replace h0_0 := Sl.mono RPlanRule.mono hle124 h0_0
                    refine WL.vS hS hE (runs_plain rfl) (Gives.p hE rfl) rfl ?_; clear hE a; intro a hE
                    refine WL.vS hS hE (runs_plain rfl) (Gives.p hE rfl) rfl ?_; clear hE a; intro a hE
                    refine WL.vS hS hE (runs_plain rfl) (Gives.p hE rfl) rfl ?_; clear hE a; intro a hE
                    refine WL.vS hS hE (runs_plain rfl) (Gives.p hE rfl) rfl ?_; clear hE a; intro a hE
                    refine WL.vS hS hE (runs_plain rfl) (Gives.p hE rfl) rfl ?_; clear hE a; intro a hE
                    refine WL.nil ?_
                    subst hK116
                    exact ⟨q118.1, q118.2, a120, c121, s123, hle124, Option.some.inj hq107, h122, hE.pick _ ⟨rfl, rfl, rfl, rfl, rfl, rfl, rfl, rfl, rfl, rfl, rfl, rfl, rfl, rfl, rfl, rfl, trivial⟩, hS⟩
                  · replace hq107 := iteF hc117 hq107
                    refine W.skip ?_
                    subst hK116
                    exact ⟨q100.1, q100.2, a102, c103, s105, (Sg.Le.refl _), Option.some.inj hq107, h104, hE.pick _ ⟨rfl, rfl, rfl, rfl, rfl, rfl, rfl, rfl, rfl, rfl, rfl, rfl, rfl, rfl, rfl, rfl, trivial⟩, hS⟩
                · clear hE hS a w; rintro a w ⟨q111, q115, a112, c113, s109, hle110, rfl, h114, hE, hS⟩
                  dsimp only at hq82
                  replace h1 := Sl.mono (RL.mono RI.mono) hle110 h1
                  replace h2 := Sl.mono RPlanRule.mono hle110 h2
                  replace h74 := Sl.mono (RL.mono (RL.mono RI.mono)) hle110 h74
                  replace h104 := Sl.mono (RL.mono RI.mono) hle110 h104
                  replace h91 := Ev.mono (RL.mono (RL.mono RI.mono)) hle110 h91
                  replace h_y2_0 := Sl.mono RI.mono hle110 h_y2_0
                  replace h0_0 := Sl.mono RPlanRule.mono hle110 h0_0
                  refine W.seq ?_
                  refine W.region ?_
                  refine WL.vS hS hE (runs_plain rfl) (Gives.p hE rfl) rfl ?_; clear hE a; intro a hE
                  refine WL.nil ?_
                  obtain ⟨q126, hq125, hq82⟩ := bindS hq82
                  refine W.cut (fun a w => ∃ (q129 : List (List (List Int))), ∃ (a130 : Option Addr), ∃ (c131 : Nat), ∃ (n133 : Nat), ∃ (cs134 : List Value), q129 = q126 ∧ Ev 1 (RL 1 (RL 1 (RI .i64))) s109 cs134 q129 ∧ q129.length = n133 ∧ Rep a 127 [(1, .slice a1 x1.length c1), (2, .slice a2 x2.length c2), (3, .func (.func 74) #[] #[.pointer (some ⟨pb0, 0, none⟩), .pointer (some ⟨pb1, 0, none⟩)]), (4, .func (.func 75) #[] #[.pointer (some ⟨pb0, 0, none⟩), .pointer (some ⟨pb1, 0, none⟩)]), (5, .pointer (some ⟨b52, 0, none⟩)), (11, .int .i64 q70), (12, .slice a72 q71.length c73), (13, .int .i64 ((k61 : Nat) : Int)), (14, .pointer (some ⟨b80, 0, none⟩)), (15, .slice a130 n133 c131), (16, .int .i64 q95), (32, .slice a2 x2.length c2), (33, .int .i64 ((x2).length : Int)), (34, .int .i64 ((k61 : Nat) : Int))] ∧ St w s109 (vecC 87 1 a130 c131 n133 cs134 :: pt b80 (.cells (PlanRule.cells x62).toArray 37 (0, 0)) :: pt pb0 (.cells #[.func (.func 73) #[] #[.pointer (some ⟨pb2, 0, none⟩)]] 107 (0, 0)) :: pt pb1 (.cells #[.int .i64 y1] 3 (0, 0)) :: pt pb2 (.cells #[.slice a_y2_0 y2.length c_y2_0] 29 (0, 0)) :: pt b52 (.cells #[.int .i64 x0.Period, .int .i64 x0.Events, .slice a0_0 x0.Rules.length c0_0] 24 (0, 0)) :: R)) ?_ ?_
                  · refine W.gen fun K136 hK136 => ?_
                    refine W.cond hE rfl (fun hc137 => ?_) (fun hc137 => ?_)
                    · replace hq125 := iteT hc137 hq125
                      refine W.region ?_
                      refine WL.vS hS hE (runs_plain rfl) (Gives.p hE rfl) rfl ?_; clear hE a; intro a hE
                      refine WL.vS hS hE (runs_plain rfl) (Gives.p hE rfl) rfl ?_; clear hE a; intro a hE
                      refine WL.lit hE hS (e := 87) (es := 1) (vs := [(0, .slice a112 q111.length c113)]) (cs := [.slice a112 q111.length c113]) (runs_plain rfl) rfl (by kernel_rfl) rfl ?_; clear hE hS a w; intro b138 a w hE hS
                      obtain ⟨x139, hx140, hq125⟩ := bindS hq125
                      refine WL.appD hE hS 0 (m := 1) (runs_plain rfl) rfl rfl rfl ap118 rfl h91 rfl (xs := [q111]) (Ev.cons (c1 := [.slice a112 q111.length c113]) ⟨_, _, rfl, h114⟩ rfl (Ev.nil)) rfl rfl hx140 rfl ?_; clear hE hS a w; intro a141 c142 cs143 a w h144 hE hS
                      refine WL.vS hS hE (runs_plain rfl) (Gives.p hE rfl) rfl ?_; clear hE a; intro a hE
                      refine WL.nil ?_
                      subst hK136
                      exact ⟨x139, a141, c142, x139.length, cs143, Option.some.inj hq125, h144, (rfl), hE.pick _ ⟨rfl, rfl, rfl, rfl, rfl, rfl, rfl, rfl, rfl, rfl, rfl, rfl, rfl, rfl, trivial⟩, hS⟩
                    · replace hq125 := iteF hc137 hq125
                      refine W.skip ?_
                      subst hK136
                      exact ⟨q88, a89, c90, q88.length, cs93, Option.some.inj hq125, h91, rfl, hE.pick _ ⟨rfl, rfl, rfl, rfl, rfl, rfl, rfl, rfl, rfl, rfl, rfl, rfl, rfl, rfl, trivial⟩, hS⟩
                  · clear hE hS a w; rintro a w ⟨q129, a130, c131, n133, cs134, rfl, h132, rfl, hE, hS⟩
                    refine W.region ?_
                    refine WL.vS hS hE (runs_plain rfl) (Gives.p hE rfl) rfl ?_; clear hE a; intro a hE
                    refine WL.vS hS hE (runs_plain rfl) (Gives.p hE rfl) rfl ?_; clear hE a; intro a hE
                    refine WL.vS hS hE (runs_plain rfl) (Gives.p hE rfl) rfl ?_; clear hE a; intro a hE
                    refine WL.nil ?_
                    subst hK96
                    exact ⟨n84, Nat.lt_succ_self _, n84, q129, (w64 (q95 + 1)), a130, c131, q129.length, cs134, s109, rfl, (Sg.Le.trans (Sg.Le.trans hle87 hle106) hle110), hq82, h132, rfl, hE.pick _ ⟨rfl, rfl, rfl, rfl, rfl, rfl, rfl, rfl, rfl, rfl, rfl, rfl, rfl, rfl, trivial⟩, hS⟩
              · replace hq82 := iteF hc99 hq82
                subst hK96
                refine W.exit rfl ?_
                exact ⟨q88, q95, a89, c90, q88.length, cs93, s86, hle87, Option.some.inj hq82, h91, rfl, hE.pick _ ⟨rfl, rfl, rfl, rfl, rfl, rfl, rfl, rfl, rfl, rfl, rfl, rfl, trivial⟩, hS⟩
            · clear hE hS a w; rintro a w ⟨q88, q95, a89, c90, n92, cs93, s86, hle87, rfl, h91, rfl, hE, hS⟩
              dsimp only at hq59
              replace h1 := Sl.mono (RL.mono RI.mono) hle87 h1
              replace h2 := Sl.mono RPlanRule.mono hle87 h2
              replace h74 := Sl.mono (RL.mono (RL.mono RI.mono)) hle87 h74
              replace h_y2_0 := Sl.mono RI.mono hle87 h_y2_0
              replace h0_0 := Sl.mono RPlanRule.mono hle87 h0_0
              refine W.seq ?_
              refine W.seq ?_
              refine W.region ?_
              refine WL.vS hS hE (runs_plain rfl) (Gives.p hE rfl) rfl ?_; clear hE a; intro a hE
              refine WL.vS hS hE (runs_plain rfl) (Gives.len hE rfl sl118) rfl ?_; clear hE a; intro a hE
              refine WL.vS hS hE (runs_plain rfl) (Gives.p hE rfl) rfl ?_; clear hE a; intro a hE
              refine WL.nil ?_
              refine W.cond hE rfl (fun hc145 => ?_) (fun hc145 => ?_)
              · replace hq59 := iteT hc145 hq59
                refine W.seq ?_
                refine W.region ?_
                refine WL.vS hS hE (runs_plain rfl) (Gives.p hE rfl) rfl ?_; clear hE a; intro a hE
                refine WL.nil ?_
                refine W.ret ?_
                subst hK75
                rw [← Option.some.inj hq59] at hr
                dsimp only at hr
                refine finG (fn := Try.f58) (rs := [.tmp 10]) (vs := [_]) hE rfl ⟨rfl, trivial⟩ ?_
                obtain rfl := Option.some.inj hr
                replace hS := hS.tail
                replace hS := hS.tail
                replace hS := hS.dropAt 3
                exact ⟨rfl, (hS.down (Sg.Le.trans hle69 hle87))⟩
              · replace hq59 := iteF hc145 hq59
                refine W.skip ?_
                refine W.seq ?_
                refine W.seq ?_
                obtain ⟨q147, hq146, hq59⟩ := bndS hq59
                refine W.cut (fun a w => ∃ (q150 : Bool), q150 = q147 ∧ Rep a 127 [(1, .slice a1 x1.length c1), (2, .slice a2 x2.length c2), (3, .func (.func 74) #[] #[.pointer (some ⟨pb0, 0, none⟩), .pointer (some ⟨pb1, 0, none⟩)]), (4, .func (.func 75) #[] #[.pointer (some ⟨pb0, 0, none⟩), .pointer (some ⟨pb1, 0, none⟩)]), (5, .pointer (some ⟨b52, 0, none⟩)), (11, .int .i64 q70), (12, .slice a72 q71.length c73), (13, .int .i64 ((k61 : Nat) : Int)), (15, .slice a89 q88.length c90), (32, .slice a2 x2.length c2), (33, .int .i64 ((x2).length : Int)), (34, .int .i64 ((k61 : Nat) : Int)), (101, .bool q150)] ∧ St w s86 (vecC 87 1 a89 c90 q88.length cs93 :: pt b80 (.cells (PlanRule.cells x62).toArray 37 (0, 0)) :: pt pb0 (.cells #[.func (.func 73) #[] #[.pointer (some ⟨pb2, 0, none⟩)]] 107 (0, 0)) :: pt pb1 (.cells #[.int .i64 y1] 3 (0, 0)) :: pt pb2 (.cells #[.slice a_y2_0 y2.length c_y2_0] 29 (0, 0)) :: pt b52 (.cells #[.int .i64 x0.Period, .int .i64 x0.Events, .slice a0_0 x0.Rules.length c0_0] 24 (0, 0)) :: R)) ?_ ?_
                · refine W.gen fun K151 hK151 => ?_
                  refine W.region ?_
                  refine WL.vS hS hE (runs_plain rfl) (Gives.p hE rfl) rfl ?_; clear hE a; intro a hE
                  refine WL.vS hS hE (runs_plain rfl) (Gives.p hE rfl) rfl ?_; clear hE a; intro a hE
                  refine WL.vS hS hE (runs_plain rfl) (Gives.p hE rfl) rfl ?_; clear hE a; intro a hE
                  rcases Bool.eq_false_or_eq_true (decide (q70 < 0)) with hg152 | hg152
                  · replace hq146 := iteT hg152 hq146
                    refine WL.no hE (runs_not hE rfl rfl rfl (by rw [hg152]; decide)) rfl ?_; clear hE a; intro a hE
                    refine WL.no hE (runs_not hE rfl rfl rfl (by rw [hg152]; decide)) rfl ?_; clear hE a; intro a hE
                    refine WL.no hE (runs_not hE rfl rfl rfl (by rw [hg152]; decide)) rfl ?_; clear hE a; intro a hE
                    refine WL.no hE (runs_not hE rfl rfl rfl (by rw [hg152]; decide)) rfl ?_; clear hE a; intro a hE
                    refine WL.no hE (runs_not hE rfl rfl rfl (by rw [hg152]; decide)) rfl ?_; clear hE a; intro a hE
                    refine WL.vS hS hE (runs_plain rfl) (Gives.pickT hE rfl hg152 rfl) rfl ?_; clear hE a; intro a hE
                    refine WL.nil ?_
                    subst hK151
                    exact ⟨true, hq146, hE.pick _ ⟨rfl, rfl, rfl, rfl, rfl, rfl, rfl, rfl, rfl, rfl, rfl, rfl, rfl, trivial⟩, hS⟩
                  · replace hq146 := iteF hg152 hq146
                    refine WL.vS hS hE (runs_if hE rfl rfl rfl hg152) (Gives.p hE rfl) rfl ?_; clear hE a; intro a hE
                    refine WL.vS hS hE (runs_if hE rfl rfl rfl hg152) (Gives.len hE rfl sl118) rfl ?_; clear hE a; intro a hE
                    refine WL.vS hS hE (runs_if hE rfl rfl rfl hg152) (Gives.p hE rfl) rfl ?_; clear hE a; intro a hE
                    refine WL.vS hS hE (runs_if hE rfl rfl rfl hg152) (Gives.len hE rfl sl118) rfl ?_; clear hE a; intro a hE
                    refine WL.vS hS hE (runs_if hE rfl rfl rfl hg152) (Gives.p hE rfl) rfl ?_; clear hE a; intro a hE
                    refine WL.vS hS hE (runs_plain rfl) (Gives.pickF hE rfl hg152 rfl) rfl ?_; clear hE a; intro a hE
                    refine WL.nil ?_
                    subst hK151
                    exact ⟨decide (((q88.length : Nat) : Int) < ((q71).length : Int)), hq146, hE.pick _ ⟨rfl, rfl, rfl, rfl, rfl, rfl, rfl, rfl, rfl, rfl, rfl, rfl, rfl, trivial⟩, hS⟩
                · clear hE hS a w; rintro a w ⟨q150, rfl, hE, hS⟩
                  have hF := hS.fixD (RL.mono (RL.mono RI.mono)) 0 rfl h91 rfl; clear hS; obtain ⟨s153, hle154, hS, h155⟩ := hF
                  replace h1 := Sl.mono (RL.mono RI.mono) hle154 h1
                  replace h2 := Sl.mono RPlanRule.mono hle154 h2
                  replace h74 := Sl.mono (RL.mono (RL.mono RI.mono)) hle154 h74
                  replace h_y2_0 := Sl.mono RI.mono hle154 h_y2_0
                  replace h0_0 := Sl.mono RPlanRule.mono hle154 h0_0
                  obtain ⟨q157, hq156, hq59⟩ := bndS hq59
                  refine W.cut (fun a w => ∃ (q160 : Int), ∃ (q161 : List (List (List Int))), ∃ (a162 : Option Addr), ∃ (c163 : Nat), (q160, q161) = q157 ∧ Sl 1 (RL 1 (RL 1 (RI .i64))) s153 a162 c163 q161 ∧ Rep a 127 [(1, .slice a1 x1.length c1), (2, .slice a2 x2.length c2), (3, .func (.func 74) #[] #[.pointer (some ⟨pb0, 0, none⟩), .pointer (some ⟨pb1, 0, none⟩)]), (4, .func (.func 75) #[] #[.pointer (some ⟨pb0, 0, none⟩), .pointer (some ⟨pb1, 0, none⟩)]), (5, .pointer (some ⟨b52, 0, none⟩)), (11, .int .i64 q160), (12, .slice a162 q161.length c163), (15, .slice a89 q88.length c90), (32, .slice a2 x2.length c2), (33, .int .i64 ((x2).length : Int)), (34, .int .i64 ((k61 : Nat) : Int))] ∧ St w s153 (pt b80 (.cells (PlanRule.cells x62).toArray 37 (0, 0)) :: pt pb0 (.cells #[.func (.func 73) #[] #[.pointer (some ⟨pb2, 0, none⟩)]] 107 (0, 0)) :: pt pb1 (.cells #[.int .i64 y1] 3 (0, 0)) :: pt pb2 (.cells #[.slice a_y2_0 y2.length c_y2_0] 29 (0, 0)) :: pt b52 (.cells #[.int .i64 x0.Period, .int .i64 x0.Events, .slice a0_0 x0.Rules.length c0_0] 24 (0, 0)) :: R)) ?_ ?_
                  · refine W.gen fun K165 hK165 => ?_
                    refine W.cond hE rfl (fun hc166 => ?_) (fun hc166 => ?_)
                    · replace hq156 := iteT hc166 hq156
                      refine W.region ?_
                      refine WL.vS hS hE (runs_plain rfl) (Gives.p hE rfl) rfl ?_; clear hE a; intro a hE
                      refine WL.vS hS hE (runs_plain rfl) (Gives.p hE rfl) rfl ?_; clear hE a; intro a hE
                      refine WL.vS hS hE (runs_plain rfl) (Gives.p hE rfl) rfl ?_; clear hE a; intro a hE
                      refine WL.vS hS hE (runs_plain rfl) (Gives.p hE rfl) rfl ?_; clear hE a; intro a hE
                      refine WL.nil ?_
                      subst hK165
                      exact ⟨((k61 : Nat) : Int), q88, a89, c90, hq156, h155, hE.pick _ ⟨rfl, rfl, rfl, rfl, rfl, rfl, rfl, rfl, rfl, rfl, rfl, trivial⟩, hS⟩
                    · replace hq156 := iteF hc166 hq156
                      refine W.skip ?_
                      subst hK165
                      exact ⟨q70, q71, a72, c73, hq156, h74, hE.pick _ ⟨rfl, rfl, rfl, rfl, rfl, rfl, rfl, rfl, rfl, rfl, rfl, trivial⟩, hS⟩
                  · clear hE hS a w; rintro a w ⟨q160, q161, a162, c163, rfl, h164, hE, hS⟩
                    dsimp only at hq59
                    refine W.seq ?_
                    refine W.region ?_
                    refine WL.vS hS hE (runs_plain rfl) (Gives.p hE rfl) rfl ?_; clear hE a; intro a hE
                    refine WL.vS hS hE (runs_plain rfl) (Gives.len hE rfl sl118) rfl ?_; clear hE a; intro a hE
                    refine WL.vS hS hE (runs_plain rfl) (Gives.p hE rfl) rfl ?_; clear hE a; intro a hE
                    refine WL.nil ?_
                    refine W.cond hE rfl (fun hc167 => ?_) (fun hc167 => ?_)
                    · replace hq59 := iteT hc167 hq59
                      subst hK75
                      refine W.exit rfl ?_
                      replace hS := hS.tail
                      exact ⟨q160, q161, a162, c163, s153, (Sg.Le.trans (Sg.Le.trans hle69 hle87) hle154), Option.some.inj hq59, h164, hE.pick _ ⟨rfl, rfl, rfl, rfl, rfl, rfl, trivial⟩, hS⟩
                    · replace hq59 := iteF hc167 hq59
                      refine W.skip ?_
                      refine W.region ?_
                      refine WL.vS hS hE (runs_plain rfl) (Gives.inc hE rfl (by have := h2.small; omega)) rfl ?_; clear hE a; intro a hE
                      refine WL.vS hS hE (runs_plain rfl) (Gives.p hE rfl) rfl ?_; clear hE a; intro a hE
                      refine WL.nil ?_
                      replace hS := hS.tail
                      subst hK75
                      exact ⟨rest63.length, Nat.lt_succ_self _, rest63, k61 + 1, q160, q161, a162, c163, s153, rfl, hd64, (Sg.Le.trans (Sg.Le.trans hle69 hle87) hle154), hq59, h164, hE.pick _ ⟨rfl, rfl, rfl, rfl, rfl, rfl, rfl, rfl, rfl, rfl, trivial⟩, hS⟩
        · clear hE hS a w; rintro a w ⟨q70, q71, a72, c73, s68, hle69, rfl, h74, hE, hS⟩
          dsimp only at hr
          replace h0_0 := Sl.mono RPlanRule.mono hle69 h0_0
          replace h1 := Sl.mono (RL.mono RI.mono) hle69 h1
          replace h2 := Sl.mono RPlanRule.mono hle69 h2
          replace h_y2_0 := Sl.mono RI.mono hle69 h_y2_0
          refine W.seq ?_
          refine W.region ?_
          refine WL.vS hS hE (runs_plain rfl) (Gives.p hE rfl) rfl ?_; clear hE a; intro a hE
          obtain ⟨q168, hq169, hr⟩ := bindS hr
          have hc_ := SlicesCloneLplanRule_ok hS h2 hq169
          refine WL.fnq hE (hc_) (runs_plain rfl) bd84 rfl rfl rfl ?_
          clear hE hS hc_; rintro e w ⟨a170, c171, n172, cs173, rfl, h174, rfl, hS⟩; refine ⟨_, rfl, ?_⟩; clear a; intro a hE
          refine WL.vS hS hE (runs_plain rfl) (Gives.p hE rfl) rfl ?_; clear hE a; intro a hE
          refine WL.vS hS hE (runs_plain rfl) (Gives.p hE rfl) rfl ?_; clear hE a; intro a hE
          refine WL.vS hS hE (runs_plain rfl) (Gives.p hE rfl) rfl ?_; clear hE a; intro a hE
          obtain ⟨q176, hq177, hr⟩ := bindS hr
          have hc_ := SlicesDeleteLplanRule_v1_ok hS h174 rfl hq177
          refine WL.fnq hE (hc_) (runs_plain rfl) bd83 rfl rfl rfl ?_
          clear hE hS hc_; rintro e w ⟨a178, c179, n180, cs181, rfl, h182, rfl, hS⟩; refine ⟨_, rfl, ?_⟩; clear a; intro a hE
          refine WL.vS hS hE (runs_plain rfl) (Gives.p hE rfl) rfl ?_; clear hE a; intro a hE
          refine WL.nil ?_
          refine W.seq ?_
          refine W.seq ?_
          refine W.region ?_
          refine WL.vS hS hE (runs_plain rfl) (Gives.p hE rfl) rfl ?_; clear hE a; intro a hE
          refine WL.vS hS hE (runs_plain rfl) (Gives.len hE rfl sl118) rfl ?_; clear hE a; intro a hE
          refine WL.vS hS hE (runs_plain rfl) (Gives.p hE rfl) rfl ?_; clear hE a; intro a hE
          refine WL.nil ?_
          obtain ⟨q185, hq184, hr⟩ := bindS hr
          refine W.cut (fun a w => ∃ (q195 : Int), (.next q195) = q185 ∧ Rep a 127 [] ∧ St w s68 (vecC 37 5 a178 c179 q176.length cs181 :: pt pb0 (.cells #[.func (.func 73) #[] #[.pointer (some ⟨pb2, 0, none⟩)]] 107 (0, 0)) :: pt pb1 (.cells #[.int .i64 q195] 3 (0, 0)) :: pt pb2 (.cells #[.slice a_y2_0 y2.length c_y2_0] 29 (0, 0)) :: pt b52 (.cells #[.int .i64 x0.Period, .int .i64 x0.Events, .slice a0_0 x0.Rules.length c0_0] 24 (0, 0)) :: R)) ?_ ?_
          · refine W.block ?_
            refine W.loop (fun m a w => ∃ (rest188 : List (List (List Int))) (k186 : Nat), ∃ (q195 : Int), rest188.length = m ∧ q71.drop k186 = rest188 ∧ Fishref2shifts_v2.loop3 x0 y2 self_Fishref2shifts_v2 q176 rest188 q195 = some q185 ∧ Rep a 127 [(3, .func (.func 74) #[] #[.pointer (some ⟨pb0, 0, none⟩), .pointer (some ⟨pb1, 0, none⟩)]), (4, .func (.func 75) #[] #[.pointer (some ⟨pb0, 0, none⟩), .pointer (some ⟨pb1, 0, none⟩)]), (5, .pointer (some ⟨b52, 0, none⟩)), (19, .slice a178 q176.length c179), (114, .slice a72 q71.length c73), (115, .int .i64 ((q71).length : Int)), (116, .int .i64 ((k186 : Nat) : Int))] ∧ St w s68 (vecC 37 5 a178 c179 q176.length cs181 :: pt pb0 (.cells #[.func (.func 73) #[] #[.pointer (some ⟨pb2, 0, none⟩)]] 107 (0, 0)) :: pt pb1 (.cells #[.int .i64 q195] 3 (0, 0)) :: pt pb2 (.cells #[.slice a_y2_0 y2.length c_y2_0] 29 (0, 0)) :: pt b52 (.cells #[.int .i64 x0.Period, .int .i64 x0.Events, .slice a0_0 x0.Rules.length c0_0] 24 (0, 0)) :: R)) (m := q71.length) ⟨q71, 0, y1, rfl, rfl, hq184, hE.pick _ ⟨rfl, rfl, rfl, rfl, rfl, rfl, rfl, trivial⟩, hS⟩ ?_
            clear hE hS a w hq184; rintro m192 a w ⟨rest188, k186, q195, rfl, hd189, hq184, hE, hS⟩
            refine W.gen fun K196 hK196 => ?_
            rcases rest188 with _ | ⟨x187, rest188⟩
            · have hlt190 := drop_nil hd189
              refine W.seq ?_
              refine W.region ?_
              refine WL.vS hS hE (runs_plain rfl) (Gives.p hE rfl) rfl ?_; clear hE a; intro a hE
              refine WL.nil ?_
              refine W.seq ?_
              refine W.condF hE rfl (decide_eq_false (by omega)) ?_
              subst hK196
              refine W.exit rfl ?_
              exact ⟨q195, Option.some.inj hq184, hE.pick _ trivial, hS⟩
            · obtain ⟨hlt190, hx191, hd189⟩ := drop_cons hd189
              rw [Fishref2shifts_v2.loop3] at hq184
              refine W.seq ?_
              refine W.region ?_
              refine WL.vS hS hE (runs_plain rfl) (Gives.p hE rfl) rfl ?_; clear hE a; intro a hE
              refine WL.nil ?_
              refine W.seq ?_
              refine W.condT hE rfl (decide_eq_true (by omega)) ?_
              refine W.skip ?_
              refine W.seq ?_
              refine W.block ?_
              refine W.seq ?_
              refine W.region ?_
              obtain ⟨cs197, hl198, hR199, hat200⟩ := h74.at hx191
              obtain ⟨a201, c202, rfl, h203⟩ := hR199
              refine WL.vS hS hE (runs_plain rfl) (Gives.idx hE k186 rfl rfl sl118 rfl hlt190 (h74.aok hlt190)) rfl ?_; clear hE a; intro a hE
              refine WL.vS hS hE (runs_plain rfl) (Gives.load1 hE rfl (fun w h => hat200 w _ h) ty87) rfl ?_; clear hE a; intro a hE
              refine WL.vS hS hE (runs_plain rfl) (Gives.p hE rfl) rfl ?_; clear hE a; intro a hE
              refine WL.nil ?_
              refine W.seq ?_
              refine W.region ?_
              refine WL.vS hS hE (runs_plain rfl) (Gives.loadBA hE 4 rfl rfl ty24) rfl ?_; clear hE a; intro a hE
              refine WL.vS hS hE (runs_plain rfl) (Gives.p hE rfl) rfl ?_; clear hE a; intro a hE
              refine WL.vS hS hE (runs_plain rfl) (Gives.p hE rfl) rfl ?_; clear hE a; intro a hE
              refine WL.vS hS hE (runs_plain rfl) (Gives.p hE rfl) rfl ?_; clear hE a; intro a hE
              refine WL.vS hS hE (runs_plain rfl) (Gives.p hE rfl) rfl ?_; clear hE a; intro a hE
              obtain ⟨q204, hq205, hq184⟩ := bindS hq184
              have hF := hS.lendV RPlanRule.mono 0 rfl h182 rfl; clear hS; obtain ⟨t206, hle207, hS, hs208, bk209⟩ := hF
              have hc_ := ih_Fishref2shifts_v2 hS (Sl.mono RPlanRule.mono hle207 h0_0) (Sl.mono (RL.mono RI.mono) hle207 h203) hs208 (Sl.mono RI.mono hle207 h_y2_0) hq205
              refine WL.fnq hE (hc_) (runs_plain rfl) bd58 rfl rfl rfl ?_
              clear hE hS hc_; rintro e w ⟨rfl, hS⟩; refine ⟨_, rfl, ?_⟩; clear a; intro a hE
              replace hS := bk209 _ _ hS
              refine WL.nil ?_
              refine W.cond hE rfl (fun hc210 => ?_) (fun hc210 => ?_)
              · replace hq184 := iteT hc210 hq184
                refine W.seq ?_
                refine W.region ?_
                refine WL.vS hS hE (runs_plain rfl) (Gives.p hE rfl) rfl ?_; clear hE a; intro a hE
                refine WL.nil ?_
                refine W.ret ?_
                subst hK196
                rw [← Option.some.inj hq184] at hr
                dsimp only at hr
                refine finG (fn := Try.f58) (rs := [.tmp 10]) (vs := [_]) hE rfl ⟨rfl, trivial⟩ ?_
                obtain rfl := Option.some.inj hr
                replace hS := hS.tail
                replace hS := hS.dropAt 3
                exact ⟨rfl, (hS.down hle69)⟩
              · replace hq184 := iteF hc210 hq184
                refine W.skip ?_
                refine W.region ?_
                refine WL.vS hS hE (runs_plain rfl) (Gives.inc hE rfl (by have := h74.small; omega)) rfl ?_; clear hE a; intro a hE
                refine WL.vS hS hE (runs_plain rfl) (Gives.p hE rfl) rfl ?_; clear hE a; intro a hE
                refine WL.nil ?_
                subst hK196
                exact ⟨rest188.length, Nat.lt_succ_self _, rest188, k186 + 1, q204.2, rfl, hd189, hq184, hE.pick _ ⟨rfl, rfl, rfl, rfl, rfl, rfl, rfl, trivial⟩, hS⟩
          · clear hE hS a w; rintro a w ⟨q195, rfl, hE, hS⟩
            dsimp only at hr
            refine W.seq ?_
            refine W.region ?_
            refine WL.vS hS hE (runs_plain rfl) (Gives.p hE rfl) rfl ?_; clear hE a; intro a hE
            refine WL.nil ?_
            refine W.ret ?_
            refine finG (fn := Try.f58) (rs := [.tmp 10]) (vs := [_]) hE rfl ⟨rfl, trivial⟩ ?_
            obtain rfl := Option.some.inj hr
            replace hS := hS.tail
            replace hS := hS.dropAt 3
            exact ⟨rfl, (hS.down hle69)⟩
set_option maxHeartbeats 8000000 in
theorem Fishref2leastNext_ok {fu : Nat}  {w : World} {s : Sg} {R : List HP} {x0 : PlanPeriodic} {a0_0 : Option Addr} {c0_0 : Nat} {x1 : List Int} {a1 : Option Addr} {c1 : Nat} (hS : St w s (R)) (h0_0 : Sl 5 RPlanRule s a0_0 c0_0 x0.Rules) (h1 : Sl 1 (RI .i64) s a1 c1 x1) {r : Int} (hr : Fishref2leastNext fu x0 x1 = some r) :
    Calls Try.prog 44 [.agg [.int .i64 x0.Period, .int .i64 x0.Events, .slice a0_0 x0.Rules.length c0_0].toArray, .slice a1 x1.length c1].toArray w (fun e w => e = .returned (.int .i64 r) ∧ St w s (R)) := by
  refine enter Try.func44 rfl rfl rfl fun a hE => ?_
  rw [Fishref2leastNext] at hr
  refine W.seq ?_
  refine W.region ?_
  refine WL.box hE hS (runs_plain rfl) rfl rfl rfl ?_; clear hE hS a w; intro b51 a w hE hS
  refine WL.box hE hS (runs_plain rfl) rfl rfl rfl ?_; clear hE hS a w; intro b52 a w hE hS
  refine WL.vS hS hE (runs_plain rfl) (Gives.p hE rfl) rfl ?_; clear hE a; intro a hE
  refine WL.nil ?_
  refine W.seq ?_
  refine W.region ?_
  refine WL.vS hS hE (runs_plain rfl) (Gives.fld hE rfl fl24_0) rfl ?_; clear hE a; intro a hE
  refine WL.vS hS hE (runs_plain rfl) (Gives.loadB hE 1 rfl rfl rfl ty3) rfl ?_; clear hE a; intro a hE
  refine WL.alloc hE hS (runs_plain rfl) zr3 rfl ?_; clear hE hS a w; intro b53 a w hE hS
  refine WL.storeI hE hS 0 rfl [.int .i64 x0.Period] (runs_plain rfl) rfl rfl rfl ty3 rfl rfl rfl rfl ?_; clear hE hS a w; intro a w hE hS
  refine WL.nil ?_
  refine W.seq ?_
  refine W.region ?_
  refine WL.vS hS hE (runs_plain rfl) (Gives.loadBA hE 2 rfl rfl ty24) rfl ?_; clear hE a; intro a hE
  obtain ⟨q54, hq55, hr⟩ := bindS hr
  have hc_ := Fishref2free_ok hS h0_0 hq55
  refine WL.fnq hE (hc_) (runs_plain rfl) bd55 rfl rfl rfl ?_
  clear hE hS hc_; rintro e w ⟨a56, c57, s59, rfl, hle60, h58, hS⟩; refine ⟨_, rfl, ?_⟩; clear a; intro a hE
  replace h0_0 := Sl.mono RPlanRule.mono hle60 h0_0
  replace h1 := Sl.mono RI.mono hle60 h1
  refine WL.vS hS hE (runs_plain rfl) (Gives.p hE rfl) rfl ?_; clear hE a; intro a hE
  refine WL.vS hS hE (runs_plain rfl) (Gives.p hE rfl) rfl ?_; clear hE a; intro a hE
  refine WL.nil ?_
  refine W.seq ?_
  refine W.seq ?_
  refine W.region ?_
  refine WL.vS hS hE (runs_plain rfl) (Gives.loadB hE 1 rfl rfl rfl ty29) rfl ?_; clear hE a; intro a hE
  refine WL.vS hS hE (runs_plain rfl) (Gives.len hE rfl sl29) rfl ?_; clear hE a; intro a hE
  refine WL.vS hS hE (runs_plain rfl) (Gives.p hE rfl) rfl ?_; clear hE a; intro a hE
  refine WL.nil ?_
  obtain ⟨q62, hq61, hr⟩ := bindS hr
  refine W.cut (fun a w => ∃ (q72 : List (List Int)), ∃ (a73 : Option Addr), ∃ (c74 : Nat), ∃ (s70 : Sg), s59.Le s70 ∧ (.next q72) = q62 ∧ Sl 1 (RL 1 (RI .i64)) s70 a73 c74 q72 ∧ Rep a 63 [(2, .pointer (some ⟨b51, 0, none⟩)), (3, .pointer (some ⟨b52, 0, none⟩)), (5, .pointer (some ⟨b53, 0, none⟩)), (6, .slice a73 q72.length c74)] ∧ St w s70 (pt b53 (.cells #[.int .i64 x0.Period] 3 (0, 0)) :: pt b52 (.cells #[.slice a1 x1.length c1] 29 (0, 0)) :: pt b51 (.cells #[.int .i64 x0.Period, .int .i64 x0.Events, .slice a0_0 x0.Rules.length c0_0] 24 (0, 0)) :: R)) ?_ ?_
  · refine W.block ?_
    refine W.loop (fun m a w => ∃ (rest65 : List Int) (k63 : Nat), ∃ (q72 : List (List Int)), ∃ (a73 : Option Addr), ∃ (c74 : Nat), ∃ (s70 : Sg), rest65.length = m ∧ x1.drop k63 = rest65 ∧ s59.Le s70 ∧ Fishref2leastNext.loop1 x0 rest65 k63 q72 = some q62 ∧ Sl 1 (RL 1 (RI .i64)) s70 a73 c74 q72 ∧ Rep a 63 [(2, .pointer (some ⟨b51, 0, none⟩)), (3, .pointer (some ⟨b52, 0, none⟩)), (5, .pointer (some ⟨b53, 0, none⟩)), (6, .slice a73 q72.length c74), (16, .slice a1 x1.length c1), (17, .int .i64 ((x1).length : Int)), (18, .int .i64 ((k63 : Nat) : Int))] ∧ St w s70 (pt b53 (.cells #[.int .i64 x0.Period] 3 (0, 0)) :: pt b52 (.cells #[.slice a1 x1.length c1] 29 (0, 0)) :: pt b51 (.cells #[.int .i64 x0.Period, .int .i64 x0.Events, .slice a0_0 x0.Rules.length c0_0] 24 (0, 0)) :: R)) (m := x1.length) ⟨x1, 0, q54, a56, c57, s59, rfl, rfl, (Sg.Le.refl _), hq61, h58, hE.pick _ ⟨rfl, rfl, rfl, rfl, rfl, rfl, rfl, trivial⟩, hS⟩ ?_
    clear hE hS a w hq61; rintro m69 a w ⟨rest65, k63, q72, a73, c74, s70, rfl, hd66, hle71, hq61, h75, hE, hS⟩
    refine W.gen fun K76 hK76 => ?_
    replace h0_0 := Sl.mono RPlanRule.mono hle71 h0_0
    replace h1 := Sl.mono RI.mono hle71 h1
    replace h58 := Sl.mono (RL.mono RI.mono) hle71 h58
    rcases rest65 with _ | ⟨x64, rest65⟩
    · have hlt67 := drop_nil hd66
      refine W.seq ?_
      refine W.region ?_
      refine WL.vS hS hE (runs_plain rfl) (Gives.p hE rfl) rfl ?_; clear hE a; intro a hE
      refine WL.nil ?_
      refine W.seq ?_
      refine W.condF hE rfl (decide_eq_false (by omega)) ?_
      subst hK76
      refine W.exit rfl ?_
      exact ⟨q72, a73, c74, s70, hle71, Option.some.inj hq61, h75, hE.pick _ ⟨rfl, rfl, rfl, rfl, trivial⟩, hS⟩
    · obtain ⟨hlt67, hx68, hd66⟩ := drop_cons hd66
      rw [Fishref2leastNext.loop1] at hq61
      refine W.seq ?_
      refine W.region ?_
      refine WL.vS hS hE (runs_plain rfl) (Gives.p hE rfl) rfl ?_; clear hE a; intro a hE
      refine WL.nil ?_
      refine W.seq ?_
      refine W.condT hE rfl (decide_eq_true (by omega)) ?_
      refine W.skip ?_
      refine W.seq ?_
      refine W.block ?_
      refine W.seq ?_
      refine W.region ?_
      refine WL.vS hS hE (runs_plain rfl) (Gives.p hE rfl) rfl ?_; clear hE a; intro a hE
      obtain ⟨cs77, hl78, hR79, hat80⟩ := h1.at hx68
      subst hR79
      refine WL.vS hS hE (runs_plain rfl) (Gives.idx hE k63 rfl rfl sl29 rfl hlt67 (h1.aok hlt67)) rfl ?_; clear hE a; intro a hE
      refine WL.vS hS hE (runs_plain rfl) (Gives.load1 hE rfl (fun w h => hat80 w _ h) ty3) rfl ?_; clear hE a; intro a hE
      refine WL.vS hS hE (runs_plain rfl) (Gives.p hE rfl) rfl ?_; clear hE a; intro a hE
      refine WL.vS hS hE (runs_plain rfl) (Gives.p hE rfl) rfl ?_; clear hE a; intro a hE
      refine WL.nil ?_
      refine W.seq ?_
      refine W.seq ?_
      refine W.region ?_
      refine WL.vS hS hE (runs_plain rfl) (Gives.p hE rfl) rfl ?_; clear hE a; intro a hE
      refine WL.vS hS hE (runs_plain rfl) (Gives.p hE rfl) rfl ?_; clear hE a; intro a hE
      refine WL.vS hS hE (runs_plain rfl) (Gives.p hE rfl) rfl ?_; clear hE a; intro a hE
      obtain ⟨q81, hq82, hq61⟩ := bindS hq61
      have hc_ := Fishref2Boundstighter_ok hS h75 hq82
      refine WL.fnq hE (hc_) (runs_plain rfl) bd56 rfl rfl rfl ?_
      clear hE hS hc_; rintro e w ⟨a83, c84, s86, rfl, hle87, h85, hS⟩; refine ⟨_, rfl, ?_⟩; clear a; intro a hE
      replace h75 := Sl.mono (RL.mono RI.mono) hle87 h75
      replace h1 := Sl.mono RI.mono hle87 h1
      replace h0_0 := Sl.mono RPlanRule.mono hle87 h0_0
      refine WL.vS hS hE (runs_plain rfl) (Gives.p hE rfl) rfl ?_; clear hE a; intro a hE
      refine WL.vS hS hE (runs_plain rfl) (Gives.p hE rfl) rfl ?_; clear hE a; intro a hE
      refine WL.vS hS hE (runs_plain rfl) (Gives.p hE rfl) rfl ?_; clear hE a; intro a hE
      refine WL.vS hS hE (runs_plain rfl) (Gives.p hE rfl) rfl ?_; clear hE a; intro a hE
      refine WL.vS hS hE (runs_plain rfl) (Gives.p hE rfl) rfl ?_; clear hE a; intro a hE
      refine WL.nil ?_
      refine W.seq ?_
      refine W.region ?_
      refine WL.vS hS hE (runs_plain rfl) (Gives.p hE rfl) rfl ?_; clear hE a; intro a hE
      refine WL.vS hS hE (runs_plain rfl) (Gives.p hE rfl) rfl ?_; clear hE a; intro a hE
      refine WL.nil ?_
      refine W.cond hE rfl (fun hc88 => ?_) (fun hc88 => ?_)
      · replace hq61 := iteT hc88 hq61
        refine W.seq ?_
        refine W.region ?_
        refine WL.vS hS hE (runs_plain rfl) (Gives.loadB hE 0 rfl rfl rfl ty3) rfl ?_; clear hE a; intro a hE
        refine WL.vS hS hE (runs_plain rfl) (Gives.p hE rfl) rfl ?_; clear hE a; intro a hE
        refine WL.nil ?_
        refine W.ret ?_
        subst hK76
        rw [← Option.some.inj hq61] at hr
        dsimp only at hr
        refine finG (fn := Try.f44) (rs := [.tmp 4]) (vs := [_]) hE rfl ⟨rfl, trivial⟩ ?_
        obtain rfl := Option.some.inj hr
        replace hS := hS.tail
        replace hS := hS.tail
        replace hS := hS.tail
        exact ⟨rfl, (hS.down (Sg.Le.trans (Sg.Le.trans hle60 hle71) hle87))⟩
      · replace hq61 := iteF hc88 hq61
        refine W.skip ?_
        refine W.region ?_
        refine WL.vS hS hE (runs_plain rfl) (Gives.p hE rfl) rfl ?_; clear hE a; intro a hE
        refine WL.vS hS hE (runs_plain rfl) (Gives.p hE rfl) rfl ?_; clear hE a; intro a hE
        refine WL.vS hS hE (runs_plain rfl) (Gives.p hE rfl) rfl ?_; clear hE a; intro a hE
        refine WL.vS hS hE (runs_plain rfl) (Gives.p hE rfl) rfl ?_; clear hE a; intro a hE
        obtain ⟨q89, hq90, hq61⟩ := bindS hq61
        have hc_ := Fishref2Boundstighter_ok hS h85 hq90
        refine WL.fnq hE (hc_) (runs_plain rfl) bd56 rfl rfl rfl ?_
        clear hE hS hc_; rintro e w ⟨a91, c92, s94, rfl, hle95, h93, hS⟩; refine ⟨_, rfl, ?_⟩; clear a; intro a hE
        replace h85 := Sl.mono (RL.mono RI.mono) hle95 h85
        replace h1 := Sl.mono RI.mono hle95 h1
        replace h75 := Sl.mono (RL.mono RI.mono) hle95 h75
        replace h0_0 := Sl.mono RPlanRule.mono hle95 h0_0
        refine WL.vS hS hE (runs_plain rfl) (Gives.p hE rfl) rfl ?_; clear hE a; intro a hE
        refine WL.vS hS hE (runs_plain rfl) (Gives.p hE rfl) rfl ?_; clear hE a; intro a hE
        refine WL.vS hS hE (runs_plain rfl) (Gives.p hE rfl) rfl ?_; clear hE a; intro a hE
        refine WL.vS hS hE (runs_plain rfl) (Gives.p hE rfl) rfl ?_; clear hE a; intro a hE
        refine WL.nil ?_
        refine W.region ?_
        refine WL.vS hS hE (runs_plain rfl) (Gives.inc hE rfl (by have := h1.small; omega)) rfl ?_; clear hE a; intro a hE
        refine WL.vS hS hE (runs_plain rfl) (Gives.p hE rfl) rfl ?_; clear hE a; intro a hE
        refine WL.nil ?_
        subst hK76
        exact ⟨rest65.length, Nat.lt_succ_self _, rest65, k63 + 1, q89.1, a91, c92, s94, rfl, hd66, (Sg.Le.trans (Sg.Le.trans hle71 hle87) hle95), hq61, h93, hE.pick _ ⟨rfl, rfl, rfl, rfl, rfl, rfl, rfl, trivial⟩, hS⟩
  · clear hE hS a w; rintro a w ⟨q72, a73, c74, s70, hle71, rfl, h75, hE, hS⟩
    dsimp only at hr
    replace h0_0 := Sl.mono RPlanRule.mono hle71 h0_0
    replace h1 := Sl.mono RI.mono hle71 h1
    replace h58 := Sl.mono (RL.mono RI.mono) hle71 h58
    refine W.seq ?_
    refine W.seq ?_
    refine W.region ?_
    refine WL.vS hS hE (runs_plain rfl) (Gives.fld hE rfl fl24_1) rfl ?_; clear hE a; intro a hE
    refine WL.vS hS hE (runs_plain rfl) (Gives.loadB hE 2 rfl rfl rfl ty3) rfl ?_; clear hE a; intro a hE
    refine WL.vS hS hE (runs_plain rfl) (Gives.p hE rfl) rfl ?_; clear hE a; intro a hE
    refine WL.nil ?_
    obtain ⟨q108, hq107, hr⟩ := bindS hr
    refine W.cut (fun a w => ∃ (q113 : List (List Int)), ∃ (q117 : Int), ∃ (a114 : Option Addr), ∃ (c115 : Nat), ∃ (s111 : Sg), s70.Le s111 ∧ (q113, q117) = q108 ∧ Sl 1 (RL 1 (RI .i64)) s111 a114 c115 q113 ∧ Rep a 63 [(2, .pointer (some ⟨b51, 0, none⟩)), (3, .pointer (some ⟨b52, 0, none⟩)), (5, .pointer (some ⟨b53, 0, none⟩)), (6, .slice a114 q113.length c115)] ∧ St w s111 (pt b53 (.cells #[.int .i64 x0.Period] 3 (0, 0)) :: pt b52 (.cells #[.slice a1 x1.length c1] 29 (0, 0)) :: pt b51 (.cells #[.int .i64 x0.Period, .int .i64 x0.Events, .slice a0_0 x0.Rules.length c0_0] 24 (0, 0)) :: R)) ?_ ?_
    · refine W.block ?_
      refine W.loop (fun m a w => ∃ (n109 : Nat), ∃ (q113 : List (List Int)), ∃ (q117 : Int), ∃ (a114 : Option Addr), ∃ (c115 : Nat), ∃ (s111 : Sg), n109 = m ∧ s70.Le s111 ∧ Fishref2leastNext.loop3 x0 n109 q113 q117 = some q108 ∧ Sl 1 (RL 1 (RI .i64)) s111 a114 c115 q113 ∧ Rep a 63 [(2, .pointer (some ⟨b51, 0, none⟩)), (3, .pointer (some ⟨b52, 0, none⟩)), (5, .pointer (some ⟨b53, 0, none⟩)), (6, .slice a114 q113.length c115), (43, .int .i64 x0.Events), (44, .int .i64 q117)] ∧ St w s111 (pt b53 (.cells #[.int .i64 x0.Period] 3 (0, 0)) :: pt b52 (.cells #[.slice a1 x1.length c1] 29 (0, 0)) :: pt b51 (.cells #[.int .i64 x0.Period, .int .i64 x0.Events, .slice a0_0 x0.Rules.length c0_0] 24 (0, 0)) :: R)) (m := fu) ⟨fu, q72, 0, a73, c74, s70, rfl, (Sg.Le.refl _), hq107, h75, hE.pick _ ⟨rfl, rfl, rfl, rfl, rfl, rfl, trivial⟩, hS⟩ ?_
      clear hE hS a w hq107; rintro m110 a w ⟨n109, q113, q117, a114, c115, s111, rfl, hle112, hq107, h116, hE, hS⟩
      refine W.gen fun K118 hK118 => ?_
      replace h75 := Sl.mono (RL.mono RI.mono) hle112 h75
      replace h1 := Sl.mono RI.mono hle112 h1
      replace h0_0 := Sl.mono RPlanRule.mono hle112 h0_0
      rcases n109 with _ | n109
      · rw [Fishref2leastNext.loop3] at hq107; exact absurd hq107 (by simp)
      rw [Fishref2leastNext.loop3] at hq107
      refine W.seq ?_
      refine W.region ?_
      refine WL.vS hS hE (runs_plain rfl) (Gives.p hE rfl) rfl ?_; clear hE a; intro a hE
      refine WL.nil ?_
      refine W.seq ?_
      refine W.cond hE rfl (fun hc119 => ?_) (fun hc119 => ?_)
      · replace hq107 := iteT hc119 hq107
        refine W.skip ?_
        refine W.seq ?_
        refine W.block ?_
        refine W.seq ?_
        refine W.region ?_
        refine WL.vS hS hE (runs_plain rfl) (Gives.p hE rfl) rfl ?_; clear hE a; intro a hE
        refine WL.vS hS hE (runs_plain rfl) (Gives.p hE rfl) rfl ?_; clear hE a; intro a hE
        refine WL.nil ?_
        refine W.region ?_
        refine WL.vS hS hE (runs_plain rfl) (Gives.p hE rfl) rfl ?_; clear hE a; intro a hE
        refine WL.vS hS hE (runs_plain rfl) (Gives.p hE rfl) rfl ?_; clear hE a; intro a hE
        obtain ⟨q120, hq121, hq107⟩ := bindS hq107
        have hc_ := Fishref2Boundstighter_ok hS h116 hq121
        refine WL.fnq hE (hc_) (runs_plain rfl) bd56 rfl rfl rfl ?_
        clear hE hS hc_; rintro e w ⟨a122, c123, s125, rfl, hle126, h124, hS⟩; refine ⟨_, rfl, ?_⟩; clear a; intro a hE
        replace h116 := Sl.mono (RL.mono RI.mono) hle126 h116
        replace h1 := Sl.mono RI.mono hle126 h1
        replace h0_0 := Sl.mono RPlanRule.mono hle126 h0_0
        refine WL.vS hS hE (runs_plain rfl) (Gives.p hE rfl) rfl ?_; clear hE a; intro a hE
        refine WL.vS hS hE (runs_plain rfl) (Gives.p hE rfl) rfl ?_; clear hE a; intro a hE
        refine WL.vS hS hE (runs_plain rfl) (Gives.p hE rfl) rfl ?_; clear hE a; intro a hE
        refine WL.vS hS hE (runs_plain rfl) (Gives.p hE rfl) rfl ?_; clear hE a; intro a hE
        refine WL.nil ?_
        refine W.region ?_
        refine WL.vS hS hE (runs_plain rfl) (Gives.p hE rfl) rfl ?_; clear hE a; intro a hE
        refine WL.vS hS hE (runs_plain rfl) (Gives.p hE rfl) rfl ?_; clear hE a; intro a hE
        refine WL.nil ?_
        subst hK118
        exact ⟨n109, Nat.lt_succ_self _, n109, q120.1, (w64 (q117 + 1)), a122, c123, s125, rfl, (Sg.Le.trans hle112 hle126), hq107, h124, hE.pick _ ⟨rfl, rfl, rfl, rfl, rfl, rfl, trivial⟩, hS⟩
      · replace hq107 := iteF hc119 hq107
        subst hK118
        refine W.exit rfl ?_
        exact ⟨q113, q117, a114, c115, s111, hle112, Option.some.inj hq107, h116, hE.pick _ ⟨rfl, rfl, rfl, rfl, trivial⟩, hS⟩
    · clear hE hS a w; rintro a w ⟨q113, q117, a114, c115, s111, hle112, rfl, h116, hE, hS⟩
      dsimp only at hr
      replace h75 := Sl.mono (RL.mono RI.mono) hle112 h75
      replace h1 := Sl.mono RI.mono hle112 h1
      replace h0_0 := Sl.mono RPlanRule.mono hle112 h0_0
      refine W.seq ?_
      refine W.region ?_
      refine WL.vS hS hE (runs_plain rfl) (Gives.mkfn hE (vs := [.pointer (some ⟨b52, 0, none⟩)]) rfl) rfl ?_; clear hE a; intro a hE
      refine WL.alloc hE hS (runs_plain rfl) zr107 rfl ?_; clear hE hS a w; intro b127 a w hE hS
      refine WL.storeI hE hS 0 rfl [.func (.func 73) #[] #[.pointer (some ⟨b52, 0, none⟩)]] (runs_plain rfl) rfl rfl rfl ty107 rfl rfl rfl rfl ?_; clear hE hS a w; intro a w hE hS
      refine WL.nil ?_
      refine W.seq ?_
      refine W.region ?_
      refine WL.vS hS hE (runs_plain rfl) (Gives.loadBA hE 3 rfl rfl ty24) rfl ?_; clear hE a; intro a hE
      refine WL.vS hS hE (runs_plain rfl) (Gives.p hE rfl) rfl ?_; clear hE a; intro a hE
      refine WL.vS hS hE (runs_plain rfl) (Gives.fld hE rfl fl24_2) rfl ?_; clear hE a; intro a hE
      refine WL.vS hS hE (runs_plain rfl) (Gives.loadB hE 3 rfl rfl rfl ty22) rfl ?_; clear hE a; intro a hE
      refine WL.vS hS hE (runs_plain rfl) (Gives.mkfn hE (vs := [.pointer (some ⟨b127, 0, none⟩), .pointer (some ⟨b53, 0, none⟩)]) rfl) rfl ?_; clear hE a; intro a hE
      refine WL.vS hS hE (runs_plain rfl) (Gives.mkfn hE (vs := [.pointer (some ⟨b127, 0, none⟩), .pointer (some ⟨b53, 0, none⟩)]) rfl) rfl ?_; clear hE a; intro a hE
      obtain ⟨q128, hq129, hr⟩ := bindS hr
      have hc_ := Fishref2shifts_v2_ok hS h0_0 h116 h0_0 h1 hq129
      refine WL.fnq hE (hc_) (runs_plain rfl) bd58 rfl rfl rfl ?_
      clear hE hS hc_; rintro e w ⟨rfl, hS⟩; refine ⟨_, rfl, ?_⟩; clear a; intro a hE
      refine WL.nil ?_
      refine W.seq ?_
      refine W.region ?_
      refine WL.vS hS hE (runs_plain rfl) (Gives.loadB hE 1 rfl rfl rfl ty3) rfl ?_; clear hE a; intro a hE
      refine WL.vS hS hE (runs_plain rfl) (Gives.p hE rfl) rfl ?_; clear hE a; intro a hE
      refine WL.nil ?_
      refine W.ret ?_
      refine finG (fn := Try.f44) (rs := [.tmp 4]) (vs := [_]) hE rfl ⟨rfl, trivial⟩ ?_
      obtain rfl := Option.some.inj hr
      replace hS := hS.tail
      replace hS := hS.tail
      replace hS := hS.tail
      replace hS := hS.tail
      exact ⟨rfl, (hS.down (Sg.Le.trans (Sg.Le.trans hle60 hle71) hle112))⟩
set_option maxHeartbeats 8000000 in
theorem Fishref2SolveOf_ok {fu : Nat}  {w : World} {s : Sg} {R : List HP} {x0 : PlanPeriodic} {a0_0 : Option Addr} {c0_0 : Nat} (hS : St w s (R)) (h0_0 : Sl 5 RPlanRule s a0_0 c0_0 x0.Rules) {r : (List Int) × Bool} (hr : Fishref2SolveOf fu x0 = some r) :
    Calls Try.prog 20 [.agg [.int .i64 x0.Period, .int .i64 x0.Events, .slice a0_0 x0.Rules.length c0_0].toArray].toArray w (fun e w => ∃ (a0 : Option Addr) (c0 n0 : Nat) (cs0 : List Value), e = .returned (.tuple #[.slice a0 n0 c0, .bool r.2]) ∧ Ev 1 (RI .i64) s cs0 r.1 ∧ r.1.length = n0 ∧ St w s (vecC 3 1 a0 c0 n0 cs0 :: R)) := by
  refine enter Try.func20 rfl rfl rfl fun a hE => ?_
  rw [Fishref2SolveOf] at hr
  refine W.seq ?_
  refine W.region ?_
  refine WL.box hE hS (runs_plain rfl) rfl rfl rfl ?_; clear hE hS a w; intro b51 a w hE hS
  refine WL.vS hS hE (runs_plain rfl) (Gives.p hE rfl) rfl ?_; clear hE a; intro a hE
  refine WL.vS hS hE (runs_plain rfl) (Gives.p hE rfl) rfl ?_; clear hE a; intro a hE
  refine WL.nil ?_
  refine W.seq ?_
  refine W.region ?_
  refine WL.lit hE hS (e := 3) (es := 1) (vs := [(0, .int .i64 0)]) (cs := [.int .i64 0]) (runs_plain rfl) rfl (by kernel_rfl) rfl ?_; clear hE hS a w; intro b52 a w hE hS
  replace hS := hS.ptVec (es := 1) (m := 1) rfl (by decide)
  have h54 : Ev 1 (RI .i64) s [.int .i64 0] [0] := (Ev.cons (c1 := [.int .i64 0]) rfl rfl (Ev.nil))
  refine WL.vS hS hE (runs_plain rfl) (Gives.p hE rfl) rfl ?_; clear hE a; intro a hE
  refine WL.nil ?_
  refine W.seq ?_
  refine W.seq ?_
  refine W.region ?_
  refine WL.vS hS hE (runs_plain rfl) (Gives.loadBA hE 1 rfl rfl ty24) rfl ?_; clear hE a; intro a hE
  refine WL.vS hS hE (runs_plain rfl) (Gives.fld hE rfl fl24_2) rfl ?_; clear hE a; intro a hE
  refine WL.vS hS hE (runs_plain rfl) (Gives.loadB hE 1 rfl rfl rfl ty22) rfl ?_; clear hE a; intro a hE
  refine WL.vS hS hE (runs_plain rfl) (Gives.p hE rfl) rfl ?_; clear hE a; intro a hE
  obtain ⟨q55, hq56, hr⟩ := bindS hr
  have hF := hS.lendV RI.mono 0 rfl h54 (rfl); clear hS; obtain ⟨t57, hle58, hS, hs59, bk60⟩ := hF
  have hc_ := Fishref2Solvable_ok hS (Sl.mono RPlanRule.mono hle58 h0_0) (Sl.mono RPlanRule.mono hle58 h0_0) hs59 hq56
  refine WL.fnq hE (hc_) (runs_plain rfl) bd25 rfl rfl rfl ?_
  clear hE hS hc_; rintro e w ⟨rfl, hS⟩; refine ⟨_, rfl, ?_⟩; clear a; intro a hE
  replace hS := bk60 _ _ hS
  refine WL.vS hS hE (runs_plain rfl) (Gives.p hE rfl) rfl ?_; clear hE a; intro a hE
  refine WL.nil ?_
  refine W.cond hE rfl (fun hc61 => ?_) (fun hc61 => ?_)
  · replace hr := iteT hc61 hr
    refine W.seq ?_
    refine W.region ?_
    refine WL.vS hS hE (runs_plain rfl) (Gives.p hE rfl) rfl ?_; clear hE a; intro a hE
    refine WL.vS hS hE (runs_plain rfl) (Gives.p hE rfl) rfl ?_; clear hE a; intro a hE
    refine WL.nil ?_
    refine W.ret ?_
    replace hS := hS.vecNil 3 1
    refine finG (fn := Try.f20) (rs := [.tmp 2, .tmp 3]) (vs := [_, _]) hE rfl ⟨rfl, rfl, trivial⟩ ?_
    obtain rfl := Option.some.inj hr
    replace hS := hS.dropAt 1
    replace hS := hS.dropAt 1
    exact ⟨none, 0, 0, [], rfl, (Ev.nil), (rfl), hS⟩
  · replace hr := iteF hc61 hr
    refine W.skip ?_
    refine W.seq ?_
    obtain ⟨q64, hq63, hr⟩ := bindS hr
    refine W.cut (fun a w => ∃ (q69 : List Int), ∃ (a70 : Option Addr), ∃ (c71 : Nat), ∃ (n73 : Nat), ∃ (cs74 : List Value), q69 = q64 ∧ Ev 1 (RI .i64) s cs74 q69 ∧ q69.length = n73 ∧ Rep a 24 [(4, .slice a70 n73 c71)] ∧ St w s (vecC 3 1 a70 c71 n73 cs74 :: pt b51 (.cells #[.int .i64 x0.Period, .int .i64 x0.Events, .slice a0_0 x0.Rules.length c0_0] 24 (0, 0)) :: R)) ?_ ?_
    · refine W.block ?_
      refine W.loop (fun m a w => ∃ (n65 : Nat), ∃ (q69 : List Int), ∃ (a70 : Option Addr), ∃ (c71 : Nat), ∃ (n73 : Nat), ∃ (cs74 : List Value), n65 = m ∧ Fishref2SolveOf.loop1 x0 fu n65 q69 = some q64 ∧ Ev 1 (RI .i64) s cs74 q69 ∧ q69.length = n73 ∧ Rep a 24 [(1, .pointer (some ⟨b51, 0, none⟩)), (4, .slice a70 n73 c71)] ∧ St w s (vecC 3 1 a70 c71 n73 cs74 :: pt b51 (.cells #[.int .i64 x0.Period, .int .i64 x0.Events, .slice a0_0 x0.Rules.length c0_0] 24 (0, 0)) :: R)) (m := fu) ⟨fu, [0], (some ⟨b52, 0, none⟩), 1, 1, [.int .i64 0], rfl, hq63, h54, (rfl), hE.pick _ ⟨rfl, rfl, trivial⟩, hS⟩ ?_
      clear hE hS a w hq63; rintro m66 a w ⟨n65, q69, a70, c71, n73, cs74, rfl, hq63, h72, rfl, hE, hS⟩
      refine W.gen fun K76 hK76 => ?_
      rcases n65 with _ | n65
      · rw [Fishref2SolveOf.loop1] at hq63; exact absurd hq63 (by simp)
      rw [Fishref2SolveOf.loop1] at hq63
      refine W.seq ?_
      refine W.seq ?_
      refine W.region ?_
      refine WL.vS hS hE (runs_plain rfl) (Gives.p hE rfl) rfl ?_; clear hE a; intro a hE
      refine WL.vS hS hE (runs_plain rfl) (Gives.len hE rfl sl29) rfl ?_; clear hE a; intro a hE
      refine WL.vS hS hE (runs_plain rfl) (Gives.fld hE rfl fl24_1) rfl ?_; clear hE a; intro a hE
      refine WL.vS hS hE (runs_plain rfl) (Gives.loadB hE 1 rfl rfl rfl ty3) rfl ?_; clear hE a; intro a hE
      refine WL.vS hS hE (runs_plain rfl) (Gives.p hE rfl) rfl ?_; clear hE a; intro a hE
      refine WL.nil ?_
      refine W.cond hE rfl (fun hc77 => ?_) (fun hc77 => ?_)
      · replace hq63 := iteT hc77 hq63
        refine W.skip ?_
        refine W.block ?_
        refine W.region ?_
        refine WL.vS hS hE (runs_plain rfl) (Gives.p hE rfl) rfl ?_; clear hE a; intro a hE
        refine WL.vS hS hE (runs_plain rfl) (Gives.loadBA hE 1 rfl rfl ty24) rfl ?_; clear hE a; intro a hE
        refine WL.vS hS hE (runs_plain rfl) (Gives.p hE rfl) rfl ?_; clear hE a; intro a hE
        obtain ⟨q78, hq79, hq63⟩ := bindS hq63
        have hF := hS.lendV RI.mono 0 rfl h72 rfl; clear hS; obtain ⟨t80, hle81, hS, hs82, bk83⟩ := hF
        have hc_ := Fishref2leastNext_ok hS (Sl.mono RPlanRule.mono hle81 h0_0) hs82 hq79
        refine WL.fnq hE (hc_) (runs_plain rfl) bd44 rfl rfl rfl ?_
        clear hE hS hc_; rintro e w ⟨rfl, hS⟩; refine ⟨_, rfl, ?_⟩; clear a; intro a hE
        replace hS := bk83 _ _ hS
        refine WL.lit hE hS (e := 3) (es := 1) (vs := [(0, .int .i64 q78)]) (cs := [.int .i64 q78]) (runs_plain rfl) rfl (by kernel_rfl) rfl ?_; clear hE hS a w; intro b84 a w hE hS
        obtain ⟨x85, hx86, hq63⟩ := bindS hq63
        refine WL.appD hE hS 0 (m := 1) (runs_plain rfl) rfl rfl rfl ap29 rfl h72 rfl (xs := [q78]) (Ev.cons (c1 := [.int .i64 q78]) rfl rfl (Ev.nil)) rfl rfl hx86 rfl ?_; clear hE hS a w; intro a87 c88 cs89 a w h90 hE hS
        refine WL.vS hS hE (runs_plain rfl) (Gives.p hE rfl) rfl ?_; clear hE a; intro a hE
        refine WL.nil ?_
        subst hK76
        exact ⟨n65, Nat.lt_succ_self _, n65, x85, a87, c88, x85.length, cs89, rfl, hq63, h90, (rfl), hE.pick _ ⟨rfl, rfl, trivial⟩, hS⟩
      · replace hq63 := iteF hc77 hq63
        subst hK76
        refine W.exit rfl ?_
        exact ⟨q69, a70, c71, q69.length, cs74, Option.some.inj hq63, h72, rfl, hE.pick _ ⟨rfl, trivial⟩, hS⟩
    · clear hE hS a w; rintro a w ⟨q69, a70, c71, n73, cs74, rfl, h72, rfl, hE, hS⟩
      refine W.seq ?_
      refine W.region ?_
      refine WL.vS hS hE (runs_plain rfl) (Gives.p hE rfl) rfl ?_; clear hE a; intro a hE
      refine WL.vS hS hE (runs_plain rfl) (Gives.p hE rfl) rfl ?_; clear hE a; intro a hE
      refine WL.vS hS hE (runs_plain rfl) (Gives.p hE rfl) rfl ?_; clear hE a; intro a hE
      refine WL.nil ?_
      refine W.ret ?_
      refine finG (fn := Try.f20) (rs := [.tmp 2, .tmp 3]) (vs := [_, _]) hE rfl ⟨rfl, rfl, trivial⟩ ?_
      obtain rfl := Option.some.inj hr
      replace hS := hS.dropAt 1
      exact ⟨a70, c71, q69.length, cs74, rfl, h72, rfl, hS⟩
set_option maxHeartbeats 8000000 in
theorem Fishlaw2PlanSolves_ok {fu : Nat}  {w : World} {s : Sg} {R : List HP} {x0 : PlanPeriodic} {a0_0 : Option Addr} {c0_0 : Nat} (hS : St w s (R)) (h0_0 : Sl 5 RPlanRule s a0_0 c0_0 x0.Rules) {r : Bool} (hr : Fishlaw2PlanSolves fu x0 = some r) :
    Calls Try.prog 5 [.agg [.int .i64 x0.Period, .int .i64 x0.Events, .slice a0_0 x0.Rules.length c0_0].toArray].toArray w (fun e w => e = .returned (.bool r) ∧ St w s (R)) := by
  refine enter Try.func5 rfl rfl rfl fun a hE => ?_
  rw [Fishlaw2PlanSolves] at hr
  refine W.seq ?_
  refine W.region ?_
  refine WL.box hE hS (runs_plain rfl) rfl rfl rfl ?_; clear hE hS a w; intro b51 a w hE hS
  refine WL.vS hS hE (runs_plain rfl) (Gives.p hE rfl) rfl ?_; clear hE a; intro a hE
  refine WL.nil ?_
  refine W.seq ?_
  refine W.region ?_
  refine WL.vS hS hE (runs_plain rfl) (Gives.loadBA hE 0 rfl rfl ty24) rfl ?_; clear hE a; intro a hE
  obtain ⟨q52, hq53, hr⟩ := bindS hr
  have hc_ := PlanSolve_ok hS h0_0 hq53
  refine WL.fnq hE (hc_) (runs_plain rfl) bd19 rfl rfl rfl ?_
  clear hE hS hc_; rintro e w ⟨a54, c55, s57, rfl, hle58, h56, hS⟩; refine ⟨_, rfl, ?_⟩; clear a; intro a hE
  replace h0_0 := Sl.mono RPlanRule.mono hle58 h0_0
  refine WL.vS hS hE (runs_plain rfl) (Gives.p hE rfl) rfl ?_; clear hE a; intro a hE
  refine WL.vS hS hE (runs_plain rfl) (Gives.p hE rfl) rfl ?_; clear hE a; intro a hE
  refine WL.vS hS hE (runs_plain rfl) (Gives.p hE rfl) rfl ?_; clear hE a; intro a hE
  refine WL.vS hS hE (runs_plain rfl) (Gives.p hE rfl) rfl ?_; clear hE a; intro a hE
  refine WL.vS hS hE (runs_plain rfl) (Gives.p hE rfl) rfl ?_; clear hE a; intro a hE
  refine WL.nil ?_
  refine W.seq ?_
  refine W.seq ?_
  refine W.region ?_
  refine WL.vS hS hE (runs_plain rfl) (Gives.loadBA hE 0 rfl rfl ty24) rfl ?_; clear hE a; intro a hE
  refine WL.fnq hE (Fishref2PeriodicFault_ok hS h0_0 rfl (r := Fishref2PeriodicFault x0)) (runs_plain rfl) bd11 rfl rfl rfl ?_
  clear hE hS; rintro e w ⟨rfl, hS⟩; refine ⟨_, rfl, ?_⟩; clear a; intro a hE
  refine WL.vS hS hE (runs_plain rfl) (Gives.p hE rfl) rfl ?_; clear hE a; intro a hE
  refine WL.nil ?_
  refine W.seq ?_
  refine W.region ?_
  refine WL.vS hS hE (runs_plain rfl) (Gives.p hE rfl) rfl ?_; clear hE a; intro a hE
  refine WL.vS hS hE (runs_plain rfl) (Gives.p hE rfl) rfl ?_; clear hE a; intro a hE
  refine WL.nil ?_
  refine W.cond hE rfl (fun hc59 => ?_) (fun hc59 => ?_)
  · replace hr := iteT hc59 hr
    refine W.seq ?_
    obtain ⟨q61, hq60, hr⟩ := bindS hr
    refine W.cut (fun a w => ∃ (q64 : Bool), q64 = q61 ∧ Rep a 55 [(2, .bool q64)] ∧ St w s57 (pt b51 (.cells #[.int .i64 x0.Period, .int .i64 x0.Events, .slice a0_0 x0.Rules.length c0_0] 24 (0, 0)) :: R)) ?_ ?_
    · refine W.gen fun K65 hK65 => ?_
      refine W.region ?_
      obtain ⟨q66, hq67, hq60⟩ := bindS hq60
      have hc_ := Fishlaw2periods_ok hS  hq67
      refine WL.fnq hE (hc_) (runs_plain rfl) bd9 rfl rfl rfl ?_
      clear hE hS hc_; rintro e w ⟨rfl, hS⟩; refine ⟨_, rfl, ?_⟩; clear a; intro a hE
      refine WL.vS hS hE (runs_plain rfl) (Gives.p hE rfl) rfl ?_; clear hE a; intro a hE
      rcases Bool.eq_false_or_eq_true q66 with hg68 | hg68
      · replace hq60 := iteT hg68 hq60
        refine WL.vS hS hE (runs_if hE rfl rfl rfl hg68) (Gives.p hE rfl) rfl ?_; clear hE a; intro a hE
        refine WL.vS hS hE (runs_if hE rfl rfl rfl hg68) (Gives.p hE rfl) rfl ?_; clear hE a; intro a hE
        refine WL.vS hS hE (runs_if hE rfl rfl rfl hg68) (Gives.p hE rfl) rfl ?_; clear hE a; intro a hE
        refine WL.vS hS hE (runs_plain rfl) (Gives.pickT hE rfl hg68 rfl) rfl ?_; clear hE a; intro a hE
        refine WL.vS hS hE (runs_plain rfl) (Gives.p hE rfl) rfl ?_; clear hE a; intro a hE
        rcases Bool.eq_false_or_eq_true (q52.2 == (Fishref2PeriodicFault x0)) with hg69 | hg69
        · replace hq60 := iteT hg69 hq60
          refine WL.vS hS hE (runs_if hE rfl rfl rfl hg69) (Gives.p hE rfl) rfl ?_; clear hE a; intro a hE
          refine WL.vS hS hE (runs_if hE rfl rfl rfl hg69) (Gives.len hE rfl sl29) rfl ?_; clear hE a; intro a hE
          refine WL.vS hS hE (runs_if hE rfl rfl rfl hg69) (Gives.p hE rfl) rfl ?_; clear hE a; intro a hE
          refine WL.vS hS hE (runs_plain rfl) (Gives.pickT hE rfl hg69 rfl) rfl ?_; clear hE a; intro a hE
          refine WL.vS hS hE (runs_plain rfl) (Gives.p hE rfl) rfl ?_; clear hE a; intro a hE
          refine WL.nil ?_
          subst hK65
          exact ⟨(((q52.1).length : Int) == 0), Option.some.inj hq60, hE.pick _ ⟨rfl, trivial⟩, hS⟩
        · replace hq60 := iteF hg69 hq60
          refine WL.no hE (runs_not hE rfl rfl rfl (by rw [hg69]; decide)) rfl ?_; clear hE a; intro a hE
          refine WL.no hE (runs_not hE rfl rfl rfl (by rw [hg69]; decide)) rfl ?_; clear hE a; intro a hE
          refine WL.no hE (runs_not hE rfl rfl rfl (by rw [hg69]; decide)) rfl ?_; clear hE a; intro a hE
          refine WL.vS hS hE (runs_plain rfl) (Gives.pickF hE rfl hg69 rfl) rfl ?_; clear hE a; intro a hE
          refine WL.vS hS hE (runs_plain rfl) (Gives.p hE rfl) rfl ?_; clear hE a; intro a hE
          refine WL.nil ?_
          subst hK65
          exact ⟨false, Option.some.inj hq60, hE.pick _ ⟨rfl, trivial⟩, hS⟩
      · replace hq60 := iteF hg68 hq60
        refine WL.no hE (runs_not hE rfl rfl rfl (by rw [hg68]; decide)) rfl ?_; clear hE a; intro a hE
        refine WL.no hE (runs_not hE rfl rfl rfl (by rw [hg68]; decide)) rfl ?_; clear hE a; intro a hE
        refine WL.no hE (runs_not hE rfl rfl rfl (by rw [hg68]; decide)) rfl ?_; clear hE a; intro a hE
        refine WL.vS hS hE (runs_plain rfl) (Gives.pickF hE rfl hg68 rfl) rfl ?_; clear hE a; intro a hE
        refine WL.vS hS hE (runs_plain rfl) (Gives.p hE rfl) rfl ?_; clear hE a; intro a hE
        refine WL.no hE (runs_not hE rfl rfl rfl (by decide)) rfl ?_; clear hE a; intro a hE
        refine WL.no hE (runs_not hE rfl rfl rfl (by decide)) rfl ?_; clear hE a; intro a hE
        refine WL.no hE (runs_not hE rfl rfl rfl (by decide)) rfl ?_; clear hE a; intro a hE
        refine WL.vS hS hE (runs_plain rfl) (Gives.pickF hE rfl rfl rfl) rfl ?_; clear hE a; intro a hE
        refine WL.vS hS hE (runs_plain rfl) (Gives.p hE rfl) rfl ?_; clear hE a; intro a hE
        refine WL.nil ?_
        subst hK65
        exact ⟨false, Option.some.inj hq60, hE.pick _ ⟨rfl, trivial⟩, hS⟩
    · clear hE hS a w; rintro a w ⟨q64, rfl, hE, hS⟩
      refine W.ret ?_
      refine finG (fn := Try.f5) (rs := [.tmp 2]) (vs := [_]) hE rfl ⟨rfl, trivial⟩ ?_
      obtain rfl := Option.some.inj hr
      replace hS := hS.tail
      exact ⟨rfl, (hS.down hle58)⟩
  · replace hr := iteF hc59 hr
    refine W.skip ?_
    refine W.seq ?_
    refine W.region ?_
    refine WL.vS hS hE (runs_plain rfl) (Gives.loadBA hE 0 rfl rfl ty24) rfl ?_; clear hE a; intro a hE
    obtain ⟨q70, hq71, hr⟩ := bindS hr
    have hc_ := Fishref2SolveOf_ok hS h0_0 hq71
    refine WL.fnq hE (hc_) (runs_plain rfl) bd20 rfl rfl rfl ?_
    clear hE hS hc_; rintro e w ⟨a72, c73, n74, cs75, rfl, h76, rfl, hS⟩; refine ⟨_, rfl, ?_⟩; clear a; intro a hE
    refine WL.vS hS hE (runs_plain rfl) (Gives.p hE rfl) rfl ?_; clear hE a; intro a hE
    refine WL.vS hS hE (runs_plain rfl) (Gives.p hE rfl) rfl ?_; clear hE a; intro a hE
    refine WL.vS hS hE (runs_plain rfl) (Gives.p hE rfl) rfl ?_; clear hE a; intro a hE
    refine WL.vS hS hE (runs_plain rfl) (Gives.p hE rfl) rfl ?_; clear hE a; intro a hE
    refine WL.vS hS hE (runs_plain rfl) (Gives.p hE rfl) rfl ?_; clear hE a; intro a hE
    refine WL.nil ?_
    refine W.seq ?_
    refine W.seq ?_
    refine W.region ?_
    refine WL.vS hS hE (runs_plain rfl) (Gives.p hE rfl) rfl ?_; clear hE a; intro a hE
    refine WL.vS hS hE (runs_plain rfl) (Gives.p hE rfl) rfl ?_; clear hE a; intro a hE
    refine WL.nil ?_
    refine W.cond hE rfl (fun hc78 => ?_) (fun hc78 => ?_)
    · replace hr := iteT hc78 hr
      refine W.seq ?_
      obtain ⟨q80, hq79, hr⟩ := bindS hr
      refine W.cut (fun a w => ∃ (q83 : Bool), q83 = q80 ∧ Rep a 55 [(2, .bool q83)] ∧ St w s57 (pt b51 (.cells #[.int .i64 x0.Period, .int .i64 x0.Events, .slice a0_0 x0.Rules.length c0_0] 24 (0, 0)) :: R)) ?_ ?_
      · refine W.gen fun K84 hK84 => ?_
        refine W.region ?_
        obtain ⟨q85, hq86, hq79⟩ := bindS hq79
        have hc_ := Fishlaw2periods_ok hS  hq86
        refine WL.fnq hE (hc_) (runs_plain rfl) bd9 rfl rfl rfl ?_
        clear hE hS hc_; rintro e w ⟨rfl, hS⟩; refine ⟨_, rfl, ?_⟩; clear a; intro a hE
        refine WL.vS hS hE (runs_plain rfl) (Gives.p hE rfl) rfl ?_; clear hE a; intro a hE
        rcases Bool.eq_false_or_eq_true q85 with hg87 | hg87
        · replace hq79 := iteT hg87 hq79
          refine WL.vS hS hE (runs_if hE rfl rfl rfl hg87) (Gives.p hE rfl) rfl ?_; clear hE a; intro a hE
          refine WL.vS hS hE (runs_if hE rfl rfl rfl hg87) (Gives.p hE rfl) rfl ?_; clear hE a; intro a hE
          refine WL.vS hS hE (runs_plain rfl) (Gives.pickT hE rfl hg87 rfl) rfl ?_; clear hE a; intro a hE
          refine WL.vS hS hE (runs_plain rfl) (Gives.p hE rfl) rfl ?_; clear hE a; intro a hE
          rcases Bool.eq_false_or_eq_true (q52.2 == 9) with hg88 | hg88
          · replace hq79 := iteT hg88 hq79
            refine WL.vS hS hE (runs_if hE rfl rfl rfl hg88) (Gives.p hE rfl) rfl ?_; clear hE a; intro a hE
            refine WL.vS hS hE (runs_if hE rfl rfl rfl hg88) (Gives.len hE rfl sl29) rfl ?_; clear hE a; intro a hE
            refine WL.vS hS hE (runs_if hE rfl rfl rfl hg88) (Gives.p hE rfl) rfl ?_; clear hE a; intro a hE
            refine WL.vS hS hE (runs_plain rfl) (Gives.pickT hE rfl hg88 rfl) rfl ?_; clear hE a; intro a hE
            refine WL.vS hS hE (runs_plain rfl) (Gives.p hE rfl) rfl ?_; clear hE a; intro a hE
            refine WL.nil ?_
            replace hS := hS.tail
            subst hK84
            exact ⟨(((q52.1).length : Int) == 0), Option.some.inj hq79, hE.pick _ ⟨rfl, trivial⟩, hS⟩
          · replace hq79 := iteF hg88 hq79
            refine WL.no hE (runs_not hE rfl rfl rfl (by rw [hg88]; decide)) rfl ?_; clear hE a; intro a hE
            refine WL.no hE (runs_not hE rfl rfl rfl (by rw [hg88]; decide)) rfl ?_; clear hE a; intro a hE
            refine WL.no hE (runs_not hE rfl rfl rfl (by rw [hg88]; decide)) rfl ?_; clear hE a; intro a hE
            refine WL.vS hS hE (runs_plain rfl) (Gives.pickF hE rfl hg88 rfl) rfl ?_; clear hE a; intro a hE
            refine WL.vS hS hE (runs_plain rfl) (Gives.p hE rfl) rfl ?_; clear hE a; intro a hE
            refine WL.nil ?_
            replace hS := hS.tail
            subst hK84
            exact ⟨false, Option.some.inj hq79, hE.pick _ ⟨rfl, trivial⟩, hS⟩
        · replace hq79 := iteF hg87 hq79
          refine WL.no hE (runs_not hE rfl rfl rfl (by rw [hg87]; decide)) rfl ?_; clear hE a; intro a hE
          refine WL.no hE (runs_not hE rfl rfl rfl (by rw [hg87]; decide)) rfl ?_; clear hE a; intro a hE
          refine WL.vS hS hE (runs_plain rfl) (Gives.pickF hE rfl hg87 rfl) rfl ?_; clear hE a; intro a hE
          refine WL.vS hS hE (runs_plain rfl) (Gives.p hE rfl) rfl ?_; clear hE a; intro a hE
          refine WL.no hE (runs_not hE rfl rfl rfl (by decide)) rfl ?_; clear hE a; intro a hE
          refine WL.no hE (runs_not hE rfl rfl rfl (by decide)) rfl ?_; clear hE a; intro a hE
          refine WL.no hE (runs_not hE rfl rfl rfl (by decide)) rfl ?_; clear hE a; intro a hE
          refine WL.vS hS hE (runs_plain rfl) (Gives.pickF hE rfl rfl rfl) rfl ?_; clear hE a; intro a hE
          refine WL.vS hS hE (runs_plain rfl) (Gives.p hE rfl) rfl ?_; clear hE a; intro a hE
          refine WL.nil ?_
          replace hS := hS.tail
          subst hK84
          exact ⟨false, Option.some.inj hq79, hE.pick _ ⟨rfl, trivial⟩, hS⟩
      · clear hE hS a w; rintro a w ⟨q83, rfl, hE, hS⟩
        refine W.ret ?_
        refine finG (fn := Try.f5) (rs := [.tmp 2]) (vs := [_]) hE rfl ⟨rfl, trivial⟩ ?_
        obtain rfl := Option.some.inj hr
        replace hS := hS.tail
        exact ⟨rfl, (hS.down hle58)⟩
    · replace hr := iteF hc78 hr
      refine W.skip ?_
      refine W.seq ?_
      obtain ⟨q90, hq89, hr⟩ := bindS hr
      refine W.cut (fun a w => ∃ (q93 : Bool), q93 = q90 ∧ Rep a 55 [(2, .bool q93)] ∧ St w s57 (pt b51 (.cells #[.int .i64 x0.Period, .int .i64 x0.Events, .slice a0_0 x0.Rules.length c0_0] 24 (0, 0)) :: R)) ?_ ?_
      · refine W.gen fun K94 hK94 => ?_
        refine W.region ?_
        obtain ⟨q95, hq96, hq89⟩ := bindS hq89
        have hc_ := Fishlaw2periods_ok hS  hq96
        refine WL.fnq hE (hc_) (runs_plain rfl) bd9 rfl rfl rfl ?_
        clear hE hS hc_; rintro e w ⟨rfl, hS⟩; refine ⟨_, rfl, ?_⟩; clear a; intro a hE
        refine WL.vS hS hE (runs_plain rfl) (Gives.p hE rfl) rfl ?_; clear hE a; intro a hE
        rcases Bool.eq_false_or_eq_true q95 with hg97 | hg97
        · replace hq89 := iteT hg97 hq89
          refine WL.vS hS hE (runs_if hE rfl rfl rfl hg97) (Gives.p hE rfl) rfl ?_; clear hE a; intro a hE
          refine WL.vS hS hE (runs_if hE rfl rfl rfl hg97) (Gives.p hE rfl) rfl ?_; clear hE a; intro a hE
          refine WL.vS hS hE (runs_plain rfl) (Gives.pickT hE rfl hg97 rfl) rfl ?_; clear hE a; intro a hE
          refine WL.vS hS hE (runs_plain rfl) (Gives.p hE rfl) rfl ?_; clear hE a; intro a hE
          rcases Bool.eq_false_or_eq_true (q52.2 == 0) with hg98 | hg98
          · replace hq89 := iteT hg98 hq89
            refine WL.vS hS hE (runs_if hE rfl rfl rfl hg98) (Gives.p hE rfl) rfl ?_; clear hE a; intro a hE
            refine WL.vS hS hE (runs_if hE rfl rfl rfl hg98) (Gives.p hE rfl) rfl ?_; clear hE a; intro a hE
            obtain ⟨q99, hq100, hq89⟩ := bindS hq89
            have hF := hS.lendV RI.mono 0 rfl h76 rfl; clear hS; obtain ⟨t101, hle102, hS, hs103, bk104⟩ := hF
            have hc_ := SlicesEqualLint_ok hS (Sl.mono RI.mono hle102 h56) hs103 hq100
            refine WL.fnq hE (hc_) (runs_if hE rfl rfl rfl hg98) bd21 rfl rfl rfl ?_
            clear hE hS hc_; rintro e w ⟨rfl, hS⟩; refine ⟨_, rfl, ?_⟩; clear a; intro a hE
            replace hS := bk104 _ _ hS
            refine WL.vS hS hE (runs_plain rfl) (Gives.pickT hE rfl hg98 rfl) rfl ?_; clear hE a; intro a hE
            refine WL.vS hS hE (runs_plain rfl) (Gives.p hE rfl) rfl ?_; clear hE a; intro a hE
            refine WL.nil ?_
            replace hS := hS.tail
            subst hK94
            exact ⟨q99, Option.some.inj hq89, hE.pick _ ⟨rfl, trivial⟩, hS⟩
          · replace hq89 := iteF hg98 hq89
            refine WL.no hE (runs_not hE rfl rfl rfl (by rw [hg98]; decide)) rfl ?_; clear hE a; intro a hE
            refine WL.no hE (runs_not hE rfl rfl rfl (by rw [hg98]; decide)) rfl ?_; clear hE a; intro a hE
            refine WL.no hE (runs_not hE rfl rfl rfl (by rw [hg98]; decide)) rfl ?_; clear hE a; intro a hE
            refine WL.vS hS hE (runs_plain rfl) (Gives.pickF hE rfl hg98 rfl) rfl ?_; clear hE a; intro a hE
            refine WL.vS hS hE (runs_plain rfl) (Gives.p hE rfl) rfl ?_; clear hE a; intro a hE
            refine WL.nil ?_
            replace hS := hS.tail
            subst hK94
            exact ⟨false, Option.some.inj hq89, hE.pick _ ⟨rfl, trivial⟩, hS⟩
        · replace hq89 := iteF hg97 hq89
          refine WL.no hE (runs_not hE rfl rfl rfl (by rw [hg97]; decide)) rfl ?_; clear hE a; intro a hE
          refine WL.no hE (runs_not hE rfl rfl rfl (by rw [hg97]; decide)) rfl ?_; clear hE a; intro a hE
          refine WL.vS hS hE (runs_plain rfl) (Gives.pickF hE rfl hg97 rfl) rfl ?_; clear hE a; intro a hE
          refine WL.vS hS hE (runs_plain rfl) (Gives.p hE rfl) rfl ?_; clear hE a; intro a hE
          refine WL.no hE (runs_not hE rfl rfl rfl (by decide)) rfl ?_; clear hE a; intro a hE
          refine WL.no hE (runs_not hE rfl rfl rfl (by decide)) rfl ?_; clear hE a; intro a hE
          refine WL.no hE (runs_not hE rfl rfl rfl (by decide)) rfl ?_; clear hE a; intro a hE
          refine WL.vS hS hE (runs_plain rfl) (Gives.pickF hE rfl rfl rfl) rfl ?_; clear hE a; intro a hE
          refine WL.vS hS hE (runs_plain rfl) (Gives.p hE rfl) rfl ?_; clear hE a; intro a hE
          refine WL.nil ?_
          replace hS := hS.tail
          subst hK94
          exact ⟨false, Option.some.inj hq89, hE.pick _ ⟨rfl, trivial⟩, hS⟩
      · clear hE hS a w; rintro a w ⟨q93, rfl, hE, hS⟩
        refine W.ret ?_
        refine finG (fn := Try.f5) (rs := [.tmp 2]) (vs := [_]) hE rfl ⟨rfl, trivial⟩ ?_
        obtain rfl := Option.some.inj hr
        replace hS := hS.tail
        exact ⟨rfl, (hS.down hle58)⟩
end Go.Proofs.Ytffleanbfkjfiaa
