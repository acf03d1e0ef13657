/- The walks of the functions that TopRounds reaches: each call comes to what its mirror says. The conditions are those of each contract. -/
import Derived.Test.YtffleanbfkjfiaaProg
import Derived.Test.YtffleanbfkjfiaaTopRoundsM
import Derived.Test.YtffleanbfkjfiaaFpMore
import Derived.Test.YtffleanbfkjfiaaTopRoundsW2
namespace Go.Proofs.Ytffleanbfkjfiaa
open Go Go.Fp
set_option maxHeartbeats 8000000 in
theorem PlannewSearch_ok {fu : Nat}  {w : World} {s : Sg} {R : List HP} {x0 : PlanPeriodic} {a0_0 : Option Addr} {c0_0 : Nat} (hS : St w s (R)) (h0_0 : Sl 5 RPlanRule s a0_0 c0_0 x0.Rules) {r : (Int × Int × (List PlanRule) × (List Int) × (List Bool))} (hr : PlannewSearch fu x0 = some r) :
  Calls Try.prog 48 [.agg [.int .i64 x0.Period, .int .i64 x0.Events, .slice a0_0 x0.Rules.length c0_0].toArray].toArray w (fun e w => ∃ (b0 : Nat) (a0_2 : Option Addr) (c0_2 : Nat) (a0_5 : Option Addr) (c0_5 n0_5 : Nat) (cs0_5 : List Value) (a0_6 : Option Addr) (c0_6 n0_6 : Nat) (cs0_6 : List Value) (t : Sg), e = .returned (.pointer (some ⟨b0, 0, none⟩)) ∧ s.Le t ∧ Sl 5 RPlanRule t a0_2 c0_2 r.2.2.1 ∧ Ev 1 (RI .i64) t cs0_5 r.2.2.2.1 ∧ (r.2.2.2.1).length = n0_5 ∧ Ev 1 RB t cs0_6 r.2.2.2.2 ∧ (r.2.2.2.2).length = n0_6 ∧ St w t (pt b0 (.cells #[.int .i64 r.1, .int .i64 r.2.1, .slice a0_2 (r.2.2.1).length c0_2, .nilFunc, .func (.func 78) #[] #[], .slice a0_5 n0_5 c0_5, .slice a0_6 n0_6 c0_6] 80 (0, 0)) :: vecC 3 1 a0_5 c0_5 n0_5 cs0_5 :: vecC 4 1 a0_6 c0_6 n0_6 cs0_6 :: R)) := by
 refine enter Try.func48 rfl rfl rfl fun a hE => ?_
 rw [PlannewSearch] at hr
 refine W.seq (W.region ?_)
 refine WL.box hE hS (runs_plain rfl) rfl rfl rfl ?_; clear hE hS a w; intro b51 a w hE hS
 refine WL.vS hS hE (runs_plain rfl) (Gives.p hE rfl) rfl ?_; clear hE a; intro a hE
 refine WL.nil ?_
 refine W.seq ?_
 refine W.gen fun K52 hK52 => ?_
 refine W.regionE (sel (fun w => St w s (pt b51 (.cells #[.int .i64 x0.Period, .int .i64 x0.Events, .slice a0_0 x0.Rules.length c0_0] 24 (0, 0)) :: R)) (fun w => St w s (pt b51 (.cells #[.int .i64 x0.Period, .int .i64 x0.Events, .slice a0_0 x0.Rules.length c0_0] 24 (0, 0)) :: R))) (fun b i => cond b ([0, 1, 2, 3, 4, 5, 6, 7, 8, 9, 10, 11, 12].contains i) ([0, 1, 2, 3, 4, 5, 6, 7, 8, 9, 10, 11, 12].contains i)) mixed ?_
 replace hS := hS.drew
 have hT := tw_sel (A := fun w => St w s (pt b51 (.cells #[.int .i64 x0.Period, .int .i64 x0.Events, .slice a0_0 x0.Rules.length c0_0] 24 (0, 0)) :: R)) (B := fun w => St w s (pt b51 (.cells #[.int .i64 x0.Period, .int .i64 x0.Events, .slice a0_0 x0.Rules.length c0_0] 24 (0, 0)) :: R)) (w := _) (x := true) (y := true) (fun _ => hS) (fun _ => hS)
 have hF := hS; replace hS := hS
 refine Rg.take (i := 0) true rfl hE rfl (by kernel_rfl) (runs_plain rfl) (Gives.loadBA hE 0 rfl rfl ty24) rfl hT ?_; clear hE a; intro a hE
 replace hS := hF; clear hF hT
 refine Rg.takeP (i := 1) hE rfl (by kernel_rfl) (runs_plain rfl) (Gives.fld hE rfl fl24_2) rfl (tw_sel (fun _ => hS) (fun _ => hS)) ?_; clear hE a; intro a hE
 have hT := tw_sel (A := fun w => St w s (pt b51 (.cells #[.int .i64 x0.Period, .int .i64 x0.Events, .slice a0_0 x0.Rules.length c0_0] 24 (0, 0)) :: R)) (B := fun w => St w s (pt b51 (.cells #[.int .i64 x0.Period, .int .i64 x0.Events, .slice a0_0 x0.Rules.length c0_0] 24 (0, 0)) :: R)) (w := _) (x := true) (y := true) (fun _ => hS) (fun _ => hS)
 have hF := hS; replace hS := hS
 refine Rg.take (i := 2) true rfl hE rfl (by kernel_rfl) (runs_plain rfl) (Gives.loadB hE 0 rfl rfl rfl ty22) rfl hT ?_; clear hE a; intro a hE
 replace hS := hF; clear hF hT
 refine Rg.takeP (i := 3) hE rfl (by kernel_rfl) (runs_plain rfl) (Gives.len hE rfl sl22) rfl (tw_sel (fun _ => hS) (fun _ => hS)) ?_; clear hE a; intro a hE
 refine Rg.takeP (i := 6) hE rfl (by kernel_rfl) (runs_plain rfl) (Gives.fld hE rfl fl24_2) rfl (tw_sel (fun _ => hS) (fun _ => hS)) ?_; clear hE a; intro a hE
 have hT := tw_sel (A := fun w => St w s (pt b51 (.cells #[.int .i64 x0.Period, .int .i64 x0.Events, .slice a0_0 x0.Rules.length c0_0] 24 (0, 0)) :: R)) (B := fun w => St w s (pt b51 (.cells #[.int .i64 x0.Period, .int .i64 x0.Events, .slice a0_0 x0.Rules.length c0_0] 24 (0, 0)) :: R)) (w := _) (x := true) (y := true) (fun _ => hS) (fun _ => hS)
 have hF := hS; replace hS := hS
 refine Rg.take (i := 7) true rfl hE rfl (by kernel_rfl) (runs_plain rfl) (Gives.loadB hE 0 rfl rfl rfl ty22) rfl hT ?_; clear hE a; intro a hE
 replace hS := hF; clear hF hT
 refine Rg.takeP (i := 8) hE rfl (by kernel_rfl) (runs_plain rfl) (Gives.len hE rfl sl22) rfl (tw_sel (fun _ => hS) (fun _ => hS)) ?_; clear hE a; intro a hE
 obtain ⟨x53, hx54, hr⟩ := bindS hr
 obtain ⟨q65, hq66, hr⟩ := bindS hr
 suffices key : ∀ s62 cs70 cs56 b73 b55 a67 c68 (a : Act) (w : World), s.Le s62 → Sl 5 RPlanRule s62 a0_0 c0_0 x0.Rules → Ev 1 RB s62 cs70 q65 → Ev 1 (RI .i64) s62 cs56 x53 → Rep a 15 [(2, .pointer (some ⟨b73, 0, none⟩))] → St w s62 (pt b73 (.cells #[.int .i64 x0.Period, .int .i64 x0.Events, .slice a0_0 x0.Rules.length c0_0, .nilFunc, .func (.func 78) #[] #[], .slice (some ⟨b55, 0, none⟩) x53.length x53.length, .slice a67 q65.length c68] 80 (0, 0)) :: vecC 4 1 a67 c68 q65.length cs70 :: vecC 3 1 (some ⟨b55, 0, none⟩) x53.length x53.length cs56 :: pt b51 (.cells #[.int .i64 x0.Period, .int .i64 x0.Events, .slice a0_0 x0.Rules.length c0_0] 24 (0, 0)) :: R) → K52.nor a w by
  refine Rg.many 4 [5] (by kernel_rfl) ⟨?_, ?_, trivial⟩
  ·refine Br.mk (i := 4) true true rfl (by kernel_rfl) (by kernel_rfl) ?_
   refine WL.mkD (Rr := RI .i64) hE hS (runs_plain rfl) rfl rfl ap29 zr3 rfl hx54 rfl ?_; clear hE hS a w; intro b55 cs56 a w h57 hE hS
   refine WL.nil ?_
   refine ⟨⟨fun _ => (hS.tail), fun _ => (hS.tail)⟩, ?_⟩
   refine Rg.one (i := 5) true true rfl (by kernel_rfl) (by kernel_rfl) (by kernel_rfl) ?_
   refine WL.lit hE hS (e := 4) (es := 1) (vs := [(0, .bool true)]) (cs := [.bool true]) (runs_plain rfl) rfl (by kernel_rfl) rfl ?_; clear hE hS a w; intro b59 a w hE hS
   replace hS := hS.ptVec (es := 1) (m := 1) rfl (by decide)
   have h61 : Ev 1 RB s [.bool true] [true] := (Ev.cons (c1 := [.bool true]) rfl rfl (Ev.nil))
   have hF := hS.fixD RB.mono 0 rfl h61 (rfl); clear hS; obtain ⟨s62, hle63, hS, h64⟩ := hF
   replace h0_0 := Sl.mono RPlanRule.mono hle63 h0_0
   replace h57 := Ev.mono RI.mono hle63 h57
   refine WL.nil ?_
   refine ⟨⟨fun _ => (St.down hle63 (hS.tail)), fun _ => (St.down hle63 (hS.tail))⟩, ?_⟩
   refine Rg.one (i := 9) true true rfl (by kernel_rfl) (by kernel_rfl) (by kernel_rfl) ?_
   have hc_ := SlicesRepeatLbool_ok hS h64 hq66
   refine WL.fnq hE (hc_) (runs_plain rfl) bd46 rfl rfl rfl ?_
   clear hE hS hc_; rintro e w ⟨a67, c68, n69, cs70, rfl, h71, rfl, hS⟩; refine ⟨_, rfl, ?_⟩; clear a; intro a hE
   refine WL.nil ?_
   refine ⟨⟨fun _ => (St.down hle63 ((hS.tail).tail)), fun _ => (St.down hle63 ((hS.tail).tail))⟩, ?_⟩
   refine Rg.takeP (i := 10) hE rfl (by kernel_rfl) (runs_plain rfl) (Gives.build hE (vs := [(0, .agg [.int .i64 x0.Period, .int .i64 x0.Events, .slice a0_0 x0.Rules.length c0_0].toArray), (3, .slice (some ⟨b55, 0, none⟩) x53.length x53.length), (4, .slice a67 q65.length c68), (2, .func (.func 78) #[] #[])]) [.int .i64 x0.Period, .int .i64 x0.Events, .slice a0_0 x0.Rules.length c0_0, .nilFunc, .func (.func 78) #[] #[], .slice (some ⟨b55, 0, none⟩) x53.length x53.length, .slice a67 q65.length c68] rfl (by kernel_rfl)) rfl (tw_sel (fun _ => (St.down hle63 ((hS.tail).tail))) (fun _ => (St.down hle63 ((hS.tail).tail)))) ?_; clear hE a; intro a hE
   refine Rg.one (i := 11) true true rfl (by kernel_rfl) (by kernel_rfl) (by kernel_rfl) ?_
   refine WL.box hE hS (runs_plain rfl) rfl rfl rfl ?_; clear hE hS a w; intro b73 a w hE hS
   refine WL.nil ?_
   refine ⟨⟨fun _ => (St.down hle63 (((hS.tail).tail).tail)), fun _ => (St.down hle63 (((hS.tail).tail).tail))⟩, ?_⟩
   refine Rg.takeP (i := 12) hE rfl (by kernel_rfl) (runs_plain rfl) (Gives.p hE rfl) rfl (tw_sel (fun _ => (St.down hle63 (((hS.tail).tail).tail))) (fun _ => (St.down hle63 (((hS.tail).tail).tail)))) ?_; clear hE a; intro a hE
   refine Rg.done (by kernel_rfl) ?_
   exact key _ _ _ _ _ _ _ _ _ hle63 h0_0 h71 h57 (hE.pick _ ⟨rfl, trivial⟩) hS
  ·refine Br.mk (i := 5) true true rfl (by kernel_rfl) (by kernel_rfl) ?_
   refine WL.lit hE hS (e := 4) (es := 1) (vs := [(0, .bool true)]) (cs := [.bool true]) (runs_plain rfl) rfl (by kernel_rfl) rfl ?_; clear hE hS a w; intro b59 a w hE hS
   replace hS := hS.ptVec (es := 1) (m := 1) rfl (by decide)
   have h61 : Ev 1 RB s [.bool true] [true] := (Ev.cons (c1 := [.bool true]) rfl rfl (Ev.nil))
   have hF := hS.fixD RB.mono 0 rfl h61 (rfl); clear hS; obtain ⟨s62, hle63, hS, h64⟩ := hF
   replace h0_0 := Sl.mono RPlanRule.mono hle63 h0_0
   refine WL.nil ?_
   refine ⟨⟨fun _ => (St.down hle63 hS), fun _ => (St.down hle63 hS)⟩, ?_⟩
   refine Rg.many 4 [9] (by kernel_rfl) ⟨?_, ?_, trivial⟩
   ·refine Br.mk (i := 4) true true rfl (by kernel_rfl) (by kernel_rfl) ?_
    refine WL.mkD (Rr := RI .i64) hE hS (runs_plain rfl) rfl rfl ap29 zr3 rfl hx54 rfl ?_; clear hE hS a w; intro b55 cs56 a w h57 hE hS
    refine WL.nil ?_
    refine ⟨⟨fun _ => (St.down hle63 (hS.tail)), fun _ => (St.down hle63 (hS.tail))⟩, ?_⟩
    refine Rg.one (i := 9) true true rfl (by kernel_rfl) (by kernel_rfl) (by kernel_rfl) ?_
    have hc_ := SlicesRepeatLbool_ok hS h64 hq66
    refine WL.fnq hE (hc_) (runs_plain rfl) bd46 rfl rfl rfl ?_
    clear hE hS hc_; rintro e w ⟨a67, c68, n69, cs70, rfl, h71, rfl, hS⟩; refine ⟨_, rfl, ?_⟩; clear a; intro a hE
    refine WL.nil ?_
    refine ⟨⟨fun _ => (St.down hle63 ((hS.tail).tail)), fun _ => (St.down hle63 ((hS.tail).tail))⟩, ?_⟩
    refine Rg.takeP (i := 10) hE rfl (by kernel_rfl) (runs_plain rfl) (Gives.build hE (vs := [(0, .agg [.int .i64 x0.Period, .int .i64 x0.Events, .slice a0_0 x0.Rules.length c0_0].toArray), (3, .slice (some ⟨b55, 0, none⟩) x53.length x53.length), (4, .slice a67 q65.length c68), (2, .func (.func 78) #[] #[])]) [.int .i64 x0.Period, .int .i64 x0.Events, .slice a0_0 x0.Rules.length c0_0, .nilFunc, .func (.func 78) #[] #[], .slice (some ⟨b55, 0, none⟩) x53.length x53.length, .slice a67 q65.length c68] rfl (by kernel_rfl)) rfl (tw_sel (fun _ => (St.down hle63 ((hS.tail).tail))) (fun _ => (St.down hle63 ((hS.tail).tail)))) ?_; clear hE a; intro a hE
    refine Rg.one (i := 11) true true rfl (by kernel_rfl) (by kernel_rfl) (by kernel_rfl) ?_
    refine WL.box hE hS (runs_plain rfl) rfl rfl rfl ?_; clear hE hS a w; intro b73 a w hE hS
    refine WL.nil ?_
    refine ⟨⟨fun _ => (St.down hle63 (((hS.tail).tail).tail)), fun _ => (St.down hle63 (((hS.tail).tail).tail))⟩, ?_⟩
    refine Rg.takeP (i := 12) hE rfl (by kernel_rfl) (runs_plain rfl) (Gives.p hE rfl) rfl (tw_sel (fun _ => (St.down hle63 (((hS.tail).tail).tail))) (fun _ => (St.down hle63 (((hS.tail).tail).tail)))) ?_; clear hE a; intro a hE
    refine Rg.done (by kernel_rfl) ?_
    exact key _ _ _ _ _ _ _ _ _ hle63 h0_0 h71 h57 (hE.pick _ ⟨rfl, trivial⟩) hS
   ·refine Br.mk (i := 9) true true rfl (by kernel_rfl) (by kernel_rfl) ?_
    have hc_ := SlicesRepeatLbool_ok hS h64 hq66
    refine WL.fnq hE (hc_) (runs_plain rfl) bd46 rfl rfl rfl ?_
    clear hE hS hc_; rintro e w ⟨a67, c68, n69, cs70, rfl, h71, rfl, hS⟩; refine ⟨_, rfl, ?_⟩; clear a; intro a hE
    refine WL.nil ?_
    refine ⟨⟨fun _ => (St.down hle63 (hS.tail)), fun _ => (St.down hle63 (hS.tail))⟩, ?_⟩
    refine Rg.one (i := 4) true true rfl (by kernel_rfl) (by kernel_rfl) (by kernel_rfl) ?_
    refine WL.mkD (Rr := RI .i64) hE hS (runs_plain rfl) rfl rfl ap29 zr3 rfl hx54 rfl ?_; clear hE hS a w; intro b55 cs56 a w h57 hE hS
    refine WL.nil ?_
    refine ⟨⟨fun _ => (St.down hle63 ((hS.tail).tail)), fun _ => (St.down hle63 ((hS.tail).tail))⟩, ?_⟩
    refine Rg.takeP (i := 10) hE rfl (by kernel_rfl) (runs_plain rfl) (Gives.build hE (vs := [(0, .agg [.int .i64 x0.Period, .int .i64 x0.Events, .slice a0_0 x0.Rules.length c0_0].toArray), (3, .slice (some ⟨b55, 0, none⟩) x53.length x53.length), (4, .slice a67 q65.length c68), (2, .func (.func 78) #[] #[])]) [.int .i64 x0.Period, .int .i64 x0.Events, .slice a0_0 x0.Rules.length c0_0, .nilFunc, .func (.func 78) #[] #[], .slice (some ⟨b55, 0, none⟩) x53.length x53.length, .slice a67 q65.length c68] rfl (by kernel_rfl)) rfl (tw_sel (fun _ => (St.down hle63 ((hS.tail).tail))) (fun _ => (St.down hle63 ((hS.tail).tail)))) ?_; clear hE a; intro a hE
    refine Rg.one (i := 11) true true rfl (by kernel_rfl) (by kernel_rfl) (by kernel_rfl) ?_
    refine WL.box hE hS (runs_plain rfl) rfl rfl rfl ?_; clear hE hS a w; intro b73 a w hE hS
    refine WL.nil ?_
    refine ⟨⟨fun _ => (St.down hle63 (((hS.tail).tail).tail)), fun _ => (St.down hle63 (((hS.tail).tail).tail))⟩, ?_⟩
    refine Rg.takeP (i := 12) hE rfl (by kernel_rfl) (runs_plain rfl) (Gives.p hE rfl) rfl (tw_sel (fun _ => (St.down hle63 (((hS.tail).tail).tail))) (fun _ => (St.down hle63 (((hS.tail).tail).tail)))) ?_; clear hE a; intro a hE
    refine Rg.done (by kernel_rfl) ?_
    replace hS := hS.front 3 rfl
    replace hS := hS.front 2 rfl
    replace hS := hS.front 3 rfl
    replace hS := hS.front 3 rfl
    exact key _ _ _ _ _ _ _ _ _ hle63 h0_0 h71 h57 (hE.pick _ ⟨rfl, trivial⟩) hS
 clear hE hS a w; intro s62 cs70 cs56 b73 b55 a67 c68 a w hle74 h0_0 h71 h57 hE hS
 subst hK52
 refine W.ret ?_
 refine finG (fn := Try.f48) (rs := [.tmp 2]) (vs := [_]) hE rfl ⟨rfl, trivial⟩ ?_
 obtain rfl := Option.some.inj hr
 replace hS := hS.front 1 rfl
 replace hS := hS.front 2 rfl
 replace hS := hS.front 2 rfl
 replace hS := hS.dropAt 3
 exact ⟨b73, a0_0, c0_0, (some ⟨b55, 0, none⟩), x53.length, x53.length, cs56, a67, c68, q65.length, cs70, s62, rfl, hle74, h0_0, h57, (rfl), h71, rfl, hS⟩
set_option maxHeartbeats 8000000 in
theorem PlanSearchstart_v1_ok {fu : Nat}  {w : World} {s : Sg} {R : List HP} {pb0 : Nat} {y0_0 : Int} {y0_1 : Int} {y0_2 : List PlanRule} {a_y0_2 : Option Addr} {c_y0_2 : Nat} {y0_5 : List Int} {a_v0 : Option Addr} {c_v0 n_v0 : Nat} {cs_v0 : List Value} {y0_6 : List Bool} {a_v1 : Option Addr} {c_v1 n_v1 : Nat} {cs_v1 : List Value} (hS : St w s (pt pb0 (.cells #[.int .i64 y0_0, .int .i64 y0_1, .slice a_y0_2 y0_2.length c_y0_2, .nilFunc, .func (.func 78) #[] #[], .slice a_v0 n_v0 c_v0, .slice a_v1 n_v1 c_v1] 80 (0, 0)) :: vecC 3 1 a_v0 c_v0 n_v0 cs_v0 :: vecC 4 1 a_v1 c_v1 n_v1 cs_v1 :: R)) (h_y0_2 : Sl 5 RPlanRule s a_y0_2 c_y0_2 y0_2) (h_v0 : Ev 1 (RI .i64) s cs_v0 y0_5) (hn_v0 : y0_5.length = n_v0) (h_v1 : Ev 1 RB s cs_v1 y0_6) (hn_v1 : y0_6.length = n_v1) {r : (Option (List Int))} (hr : PlanSearchstart_v1 fu y0_0 y0_1 y0_2 y0_5 y0_6 = some r) :
  Calls Try.prog 53 [.pointer (some ⟨pb0, 0, none⟩)].toArray w (fun e w => ∃ (a0 : Option Addr) (t : Sg), e = .returned (.pointer a0) ∧ s.Le t ∧ Pt 64 (RA .i64 64) t a0 r ∧ St w t (pt pb0 (.cells #[.int .i64 y0_0, .int .i64 y0_1, .slice a_y0_2 y0_2.length c_y0_2, .nilFunc, .func (.func 78) #[] #[], .slice a_v0 n_v0 c_v0, .slice a_v1 n_v1 c_v1] 80 (0, 0)) :: vecC 3 1 a_v0 c_v0 n_v0 cs_v0 :: vecC 4 1 a_v1 c_v1 n_v1 cs_v1 :: R)) := by
 refine enter Try.func53 rfl rfl rfl fun a hE => ?_
 rw [PlanSearchstart_v1] at hr
 subst hn_v0
 subst hn_v1
 refine W.seq (W.region ?_)
 refine WL.vS hS hE (runs_plain rfl) (Gives.p hE rfl) rfl ?_; clear hE a; intro a hE
 refine WL.nil ?_
 refine W.seq (W.region ?_)
 refine WL.vS hS hE (runs_plain rfl) (Gives.build hE (vs := []) [.int .i64 0, .int .i64 0, .int .i64 0, .int .i64 0, .int .i64 0, .int .i64 0, .int .i64 0, .int .i64 0, .int .i64 0, .int .i64 0, .int .i64 0, .int .i64 0, .int .i64 0, .int .i64 0, .int .i64 0, .int .i64 0, .int .i64 0, .int .i64 0, .int .i64 0, .int .i64 0, .int .i64 0, .int .i64 0, .int .i64 0, .int .i64 0, .int .i64 0, .int .i64 0, .int .i64 0, .int .i64 0, .int .i64 0, .int .i64 0, .int .i64 0, .int .i64 0, .int .i64 0, .int .i64 0, .int .i64 0, .int .i64 0, .int .i64 0, .int .i64 0, .int .i64 0, .int .i64 0, .int .i64 0, .int .i64 0, .int .i64 0, .int .i64 0, .int .i64 0, .int .i64 0, .int .i64 0, .int .i64 0, .int .i64 0, .int .i64 0, .int .i64 0, .int .i64 0, .int .i64 0, .int .i64 0, .int .i64 0, .int .i64 0, .int .i64 0, .int .i64 0, .int .i64 0, .int .i64 0, .int .i64 0, .int .i64 0, .int .i64 0, .int .i64 0] rfl (by kernel_rfl)) rfl ?_; clear hE a; intro a hE
 refine WL.box hE hS (runs_plain rfl) rfl rfl rfl ?_; clear hE hS a w; intro b51 a w hE hS
 replace hS := hS.ptVec (es := 1) (m := 64) rfl (by decide)
 have h52 : Ev 1 (RI .i64) s [.int .i64 0, .int .i64 0, .int .i64 0, .int .i64 0, .int .i64 0, .int .i64 0, .int .i64 0, .int .i64 0, .int .i64 0, .int .i64 0, .int .i64 0, .int .i64 0, .int .i64 0, .int .i64 0, .int .i64 0, .int .i64 0, .int .i64 0, .int .i64 0, .int .i64 0, .int .i64 0, .int .i64 0, .int .i64 0, .int .i64 0, .int .i64 0, .int .i64 0, .int .i64 0, .int .i64 0, .int .i64 0, .int .i64 0, .int .i64 0, .int .i64 0, .int .i64 0, .int .i64 0, .int .i64 0, .int .i64 0, .int .i64 0, .int .i64 0, .int .i64 0, .int .i64 0, .int .i64 0, .int .i64 0, .int .i64 0, .int .i64 0, .int .i64 0, .int .i64 0, .int .i64 0, .int .i64 0, .int .i64 0, .int .i64 0, .int .i64 0, .int .i64 0, .int .i64 0, .int .i64 0, .int .i64 0, .int .i64 0, .int .i64 0, .int .i64 0, .int .i64 0, .int .i64 0, .int .i64 0, .int .i64 0, .int .i64 0, .int .i64 0, .int .i64 0] (List.replicate 64 (0 : Int)) := (Ev.ofMap (k := .i64) (List.replicate 64 (0 : Int)))
 refine WL.vS hS hE (runs_plain rfl) (Gives.p hE rfl) rfl ?_; clear hE a; intro a hE
 refine WL.nil ?_
 refine W.seq ?_
 refine W.seq (W.region ?_)
 refine WL.vS hS hE (runs_plain rfl) (Gives.p hE rfl) rfl ?_; clear hE a; intro a hE
 refine WL.vS hS hE (runs_plain rfl) (Gives.nilOk hE rfl) rfl ?_; clear hE a; intro a hE
 refine WL.vS hS hE (runs_plain rfl) (Gives.fld hE rfl fl80_0) rfl ?_; clear hE a; intro a hE
 refine WL.vS hS hE (runs_plain rfl) (Gives.fld hE rfl fl24_1) rfl ?_; clear hE a; intro a hE
 refine WL.vS hS hE (runs_plain rfl) (Gives.loadB hE 1 rfl rfl rfl ty3) rfl ?_; clear hE a; intro a hE
 refine WL.vS hS hE (runs_plain rfl) (Gives.p hE rfl) rfl ?_; clear hE a; intro a hE
 refine WL.nil ?_
 obtain ⟨q66, hq65, hr⟩ := bindS hr
 refine W.cut (fun a w => ∃ (q71 : Int), ∃ (q72 : List Int), ∃ (cs76 : List Value), (q71, q72) = q66 ∧ Ev 1 (RI .i64) s cs76 q72 ∧ q72.length = 64 ∧ Rep a 47 [(3, .pointer (some ⟨b51, 0, none⟩))] ∧ St w s (vecC 116 1 (some ⟨b51, 0, none⟩) 64 64 cs76 :: pt pb0 (.cells #[.int .i64 y0_0, .int .i64 y0_1, .slice a_y0_2 y0_2.length c_y0_2, .nilFunc, .func (.func 78) #[] #[], .slice a_v0 y0_5.length c_v0, .slice a_v1 y0_6.length c_v1] 80 (0, 0)) :: vecC 3 1 a_v0 c_v0 y0_5.length cs_v0 :: vecC 4 1 a_v1 c_v1 y0_6.length cs_v1 :: R)) ?_ ?_
 ·refine W.block ?_
  refine W.loop (fun m a w => ∃ (n67 : Nat), ∃ (q71 : Int), ∃ (q72 : List Int), ∃ (cs76 : List Value), n67 = m ∧ PlanSearchstart_v1.loop2 y0_0 y0_1 fu n67 q71 q72 = some q66 ∧ Ev 1 (RI .i64) s cs76 q72 ∧ q72.length = 64 ∧ Rep a 47 [(0, .pointer (some ⟨pb0, 0, none⟩)), (3, .pointer (some ⟨b51, 0, none⟩)), (12, .int .i64 y0_1), (13, .int .i64 q71)] ∧ St w s (vecC 116 1 (some ⟨b51, 0, none⟩) 64 64 cs76 :: pt pb0 (.cells #[.int .i64 y0_0, .int .i64 y0_1, .slice a_y0_2 y0_2.length c_y0_2, .nilFunc, .func (.func 78) #[] #[], .slice a_v0 y0_5.length c_v0, .slice a_v1 y0_6.length c_v1] 80 (0, 0)) :: vecC 3 1 a_v0 c_v0 y0_5.length cs_v0 :: vecC 4 1 a_v1 c_v1 y0_6.length cs_v1 :: R)) (m := fu) ⟨fu, 0, (List.replicate 64 (0 : Int)), [.int .i64 0, .int .i64 0, .int .i64 0, .int .i64 0, .int .i64 0, .int .i64 0, .int .i64 0, .int .i64 0, .int .i64 0, .int .i64 0, .int .i64 0, .int .i64 0, .int .i64 0, .int .i64 0, .int .i64 0, .int .i64 0, .int .i64 0, .int .i64 0, .int .i64 0, .int .i64 0, .int .i64 0, .int .i64 0, .int .i64 0, .int .i64 0, .int .i64 0, .int .i64 0, .int .i64 0, .int .i64 0, .int .i64 0, .int .i64 0, .int .i64 0, .int .i64 0, .int .i64 0, .int .i64 0, .int .i64 0, .int .i64 0, .int .i64 0, .int .i64 0, .int .i64 0, .int .i64 0, .int .i64 0, .int .i64 0, .int .i64 0, .int .i64 0, .int .i64 0, .int .i64 0, .int .i64 0, .int .i64 0, .int .i64 0, .int .i64 0, .int .i64 0, .int .i64 0, .int .i64 0, .int .i64 0, .int .i64 0, .int .i64 0, .int .i64 0, .int .i64 0, .int .i64 0, .int .i64 0, .int .i64 0, .int .i64 0, .int .i64 0, .int .i64 0], rfl, hq65, h52, (rfl), hE.pick _ ⟨rfl, rfl, rfl, rfl, trivial⟩, hS⟩ ?_
  clear hE hS a w hq65; rintro m68 a w ⟨n67, q71, q72, cs76, rfl, hq65, h75, hn77, hE, hS⟩
  refine W.gen fun K78 hK78 => ?_
  rcases n67 with _ | n67
  ·rw [PlanSearchstart_v1.loop2] at hq65; exact absurd hq65 (by simp)
  rw [PlanSearchstart_v1.loop2] at hq65
  refine W.seq (W.region ?_)
  refine WL.vS hS hE (runs_plain rfl) (Gives.p hE rfl) rfl ?_; clear hE a; intro a hE
  refine WL.nil ?_
  refine W.seq ?_
  refine W.cond hE rfl (fun hc79 => ?_) (fun hc79 => ?_)
  ·replace hq65 := iteT hc79 hq65
   refine W.skip ?_
   refine W.seq ?_
   refine W.block ?_
   refine W.seq (W.region ?_)
   refine WL.vS hS hE (runs_plain rfl) (Gives.p hE rfl) rfl ?_; clear hE a; intro a hE
   refine WL.vS hS hE (runs_plain rfl) (Gives.p hE rfl) rfl ?_; clear hE a; intro a hE
   refine WL.nil ?_
   refine W.seq ?_
   refine W.seq (W.region ?_)
   refine WL.vS hS hE (runs_plain rfl) (Gives.p hE rfl) rfl ?_; clear hE a; intro a hE
   refine WL.vS hS hE (runs_plain rfl) (Gives.nilOk hE rfl) rfl ?_; clear hE a; intro a hE
   refine WL.vS hS hE (runs_plain rfl) (Gives.fld hE rfl fl80_0) rfl ?_; clear hE a; intro a hE
   refine WL.vS hS hE (runs_plain rfl) (Gives.fld hE rfl fl24_1) rfl ?_; clear hE a; intro a hE
   refine WL.vS hS hE (runs_plain rfl) (Gives.loadB hE 1 rfl rfl rfl ty3) rfl ?_; clear hE a; intro a hE
   refine WL.vS hS hE (runs_plain rfl) (Gives.p hE rfl) rfl ?_; clear hE a; intro a hE
   refine WL.nil ?_
   obtain ⟨q92, hq91, hq65⟩ := bindS hq65
   refine W.cut (fun a w => ∃ (q97 : Int), ∃ (q98 : List Int), ∃ (cs102 : List Value), (q97, q98) = q92 ∧ Ev 1 (RI .i64) s cs102 q98 ∧ q98.length = 64 ∧ Rep a 47 [(0, .pointer (some ⟨pb0, 0, none⟩)), (3, .pointer (some ⟨b51, 0, none⟩)), (4, .int .i64 q71), (12, .int .i64 y0_1), (13, .int .i64 q71)] ∧ St w s (vecC 116 1 (some ⟨b51, 0, none⟩) 64 64 cs102 :: pt pb0 (.cells #[.int .i64 y0_0, .int .i64 y0_1, .slice a_y0_2 y0_2.length c_y0_2, .nilFunc, .func (.func 78) #[] #[], .slice a_v0 y0_5.length c_v0, .slice a_v1 y0_6.length c_v1] 80 (0, 0)) :: vecC 3 1 a_v0 c_v0 y0_5.length cs_v0 :: vecC 4 1 a_v1 c_v1 y0_6.length cs_v1 :: R)) ?_ ?_
   ·refine W.block ?_
    refine W.loop (fun m a w => ∃ (n93 : Nat), ∃ (q97 : Int), ∃ (q98 : List Int), ∃ (cs102 : List Value), n93 = m ∧ PlanSearchstart_v1.loop4 y0_0 y0_1 q71 n93 q97 q98 = some q92 ∧ Ev 1 (RI .i64) s cs102 q98 ∧ q98.length = 64 ∧ Rep a 47 [(0, .pointer (some ⟨pb0, 0, none⟩)), (3, .pointer (some ⟨b51, 0, none⟩)), (4, .int .i64 q71), (12, .int .i64 y0_1), (13, .int .i64 q71), (20, .int .i64 y0_1), (21, .int .i64 q97)] ∧ St w s (vecC 116 1 (some ⟨b51, 0, none⟩) 64 64 cs102 :: pt pb0 (.cells #[.int .i64 y0_0, .int .i64 y0_1, .slice a_y0_2 y0_2.length c_y0_2, .nilFunc, .func (.func 78) #[] #[], .slice a_v0 y0_5.length c_v0, .slice a_v1 y0_6.length c_v1] 80 (0, 0)) :: vecC 3 1 a_v0 c_v0 y0_5.length cs_v0 :: vecC 4 1 a_v1 c_v1 y0_6.length cs_v1 :: R)) (m := fu) ⟨fu, 0, q72, cs76, rfl, hq91, h75, hn77, hE.pick _ ⟨rfl, rfl, rfl, rfl, rfl, rfl, rfl, trivial⟩, hS⟩ ?_
    clear hE hS a w hq91; rintro m94 a w ⟨n93, q97, q98, cs102, rfl, hq91, h101, hn103, hE, hS⟩
    refine W.gen fun K104 hK104 => ?_
    rcases n93 with _ | n93
    ·rw [PlanSearchstart_v1.loop4] at hq91; exact absurd hq91 (by simp)
    rw [PlanSearchstart_v1.loop4] at hq91
    refine W.seq (W.region ?_)
    refine WL.vS hS hE (runs_plain rfl) (Gives.p hE rfl) rfl ?_; clear hE a; intro a hE
    refine WL.nil ?_
    refine W.seq ?_
    refine W.cond hE rfl (fun hc105 => ?_) (fun hc105 => ?_)
    ·replace hq91 := iteT hc105 hq91
     refine W.skip ?_
     refine W.seq ?_
     refine W.block ?_
     refine W.seq (W.region ?_)
     refine WL.vS hS hE (runs_plain rfl) (Gives.p hE rfl) rfl ?_; clear hE a; intro a hE
     refine WL.vS hS hE (runs_plain rfl) (Gives.p hE rfl) rfl ?_; clear hE a; intro a hE
     refine WL.nil ?_
     refine W.seq (W.region ?_)
     refine WL.vS hS hE (runs_plain rfl) (Gives.p hE rfl) rfl ?_; clear hE a; intro a hE
     refine WL.vS hS hE (runs_plain rfl) (Gives.p hE rfl) rfl ?_; clear hE a; intro a hE
     refine WL.vS hS hE (runs_plain rfl) (Gives.p hE rfl) rfl ?_; clear hE a; intro a hE
     refine WL.nil ?_
     obtain ⟨q107, hq106, hq91⟩ := bindS hq91
     refine W.cut (fun a w => ∃ (q110 : List Int), ∃ (cs114 : List Value), q110 = q107 ∧ Ev 1 (RI .i64) s cs114 q110 ∧ q110.length = 64 ∧ Rep a 47 [(0, .pointer (some ⟨pb0, 0, none⟩)), (3, .pointer (some ⟨b51, 0, none⟩)), (4, .int .i64 q71), (12, .int .i64 y0_1), (13, .int .i64 q71), (20, .int .i64 y0_1), (21, .int .i64 q97)] ∧ St w s (vecC 116 1 (some ⟨b51, 0, none⟩) 64 64 cs114 :: pt pb0 (.cells #[.int .i64 y0_0, .int .i64 y0_1, .slice a_y0_2 y0_2.length c_y0_2, .nilFunc, .func (.func 78) #[] #[], .slice a_v0 y0_5.length c_v0, .slice a_v1 y0_6.length c_v1] 80 (0, 0)) :: vecC 3 1 a_v0 c_v0 y0_5.length cs_v0 :: vecC 4 1 a_v1 c_v1 y0_6.length cs_v1 :: R)) ?_ ?_
     ·refine W.gen fun K116 hK116 => ?_
      refine W.cond hE rfl (fun hc117 => ?_) (fun hc117 => ?_)
      ·replace hq106 := iteT hc117 hq106
       refine W.gen fun K118 hK118 => ?_
       refine W.regionE (sel (fun w => St w s (vecC 116 1 (some ⟨b51, 0, none⟩) 64 64 cs102 :: pt pb0 (.cells #[.int .i64 y0_0, .int .i64 y0_1, .slice a_y0_2 y0_2.length c_y0_2, .nilFunc, .func (.func 78) #[] #[], .slice a_v0 y0_5.length c_v0, .slice a_v1 y0_6.length c_v1] 80 (0, 0)) :: vecC 3 1 a_v0 c_v0 y0_5.length cs_v0 :: vecC 4 1 a_v1 c_v1 y0_6.length cs_v1 :: R)) (fun w => St w s (pt pb0 (.cells #[.int .i64 y0_0, .int .i64 y0_1, .slice a_y0_2 y0_2.length c_y0_2, .nilFunc, .func (.func 78) #[] #[], .slice a_v0 y0_5.length c_v0, .slice a_v1 y0_6.length c_v1] 80 (0, 0)) :: vecC 3 1 a_v0 c_v0 y0_5.length cs_v0 :: vecC 4 1 a_v1 c_v1 y0_6.length cs_v1 :: R))) (fun b i => cond b ([0, 1, 2, 3, 4, 5, 6, 7, 8, 9, 10, 11].contains i) ([0, 1, 2, 3, 4, 5, 6, 7, 8, 9, 10, 11, 12].contains i)) mixed ?_
       replace hS := hS.drew
       refine Rg.takeP (i := 0) hE rfl (by kernel_rfl) (runs_plain rfl) (Gives.p hE rfl) rfl (tw_sel (fun _ => hS) (fun _ => (hS.tail))) ?_; clear hE a; intro a hE
       refine Rg.takeP (i := 1) hE rfl (by kernel_rfl) (runs_plain rfl) (Gives.p hE rfl) rfl (tw_sel (fun _ => hS) (fun _ => (hS.tail))) ?_; clear hE a; intro a hE
       refine Rg.takeP (i := 2) hE rfl (by kernel_rfl) (runs_plain rfl) (Gives.p hE rfl) rfl (tw_sel (fun _ => hS) (fun _ => (hS.tail))) ?_; clear hE a; intro a hE
       refine Rg.takeP (i := 3) hE rfl (by kernel_rfl) (runs_plain rfl) (Gives.p hE rfl) rfl (tw_sel (fun _ => hS) (fun _ => (hS.tail))) ?_; clear hE a; intro a hE
       have hT := tw_sel (A := fun w => St w s (vecC 116 1 (some ⟨b51, 0, none⟩) 64 64 cs102 :: pt pb0 (.cells #[.int .i64 y0_0, .int .i64 y0_1, .slice a_y0_2 y0_2.length c_y0_2, .nilFunc, .func (.func 78) #[] #[], .slice a_v0 y0_5.length c_v0, .slice a_v1 y0_6.length c_v1] 80 (0, 0)) :: vecC 3 1 a_v0 c_v0 y0_5.length cs_v0 :: vecC 4 1 a_v1 c_v1 y0_6.length cs_v1 :: R)) (B := fun w => St w s (pt pb0 (.cells #[.int .i64 y0_0, .int .i64 y0_1, .slice a_y0_2 y0_2.length c_y0_2, .nilFunc, .func (.func 78) #[] #[], .slice a_v0 y0_5.length c_v0, .slice a_v1 y0_6.length c_v1] 80 (0, 0)) :: vecC 3 1 a_v0 c_v0 y0_5.length cs_v0 :: vecC 4 1 a_v1 c_v1 y0_6.length cs_v1 :: R)) (w := _) (x := true) (y := true) (fun _ => hS) (fun _ => (hS.tail))
       have hF := hS; replace hS := hS
       refine Rg.take (i := 4) true rfl hE rfl (by kernel_rfl) (runs_plain rfl) (Gives.nilOk hE rfl) rfl hT ?_; clear hE a; intro a hE
       replace hS := hF; clear hF hT
       refine Rg.takeP (i := 5) hE rfl (by kernel_rfl) (runs_plain rfl) (Gives.fld hE rfl fl80_0) rfl (tw_sel (fun _ => hS) (fun _ => (hS.tail))) ?_; clear hE a; intro a hE
       refine Rg.takeP (i := 6) hE rfl (by kernel_rfl) (runs_plain rfl) (Gives.fld hE rfl fl24_0) rfl (tw_sel (fun _ => hS) (fun _ => (hS.tail))) ?_; clear hE a; intro a hE
       have hT := tw_sel (A := fun w => St w s (vecC 116 1 (some ⟨b51, 0, none⟩) 64 64 cs102 :: pt pb0 (.cells #[.int .i64 y0_0, .int .i64 y0_1, .slice a_y0_2 y0_2.length c_y0_2, .nilFunc, .func (.func 78) #[] #[], .slice a_v0 y0_5.length c_v0, .slice a_v1 y0_6.length c_v1] 80 (0, 0)) :: vecC 3 1 a_v0 c_v0 y0_5.length cs_v0 :: vecC 4 1 a_v1 c_v1 y0_6.length cs_v1 :: R)) (B := fun w => St w s (pt pb0 (.cells #[.int .i64 y0_0, .int .i64 y0_1, .slice a_y0_2 y0_2.length c_y0_2, .nilFunc, .func (.func 78) #[] #[], .slice a_v0 y0_5.length c_v0, .slice a_v1 y0_6.length c_v1] 80 (0, 0)) :: vecC 3 1 a_v0 c_v0 y0_5.length cs_v0 :: vecC 4 1 a_v1 c_v1 y0_6.length cs_v1 :: R)) (w := _) (x := true) (y := true) (fun _ => hS) (fun _ => (hS.tail))
       have hF := hS; replace hS := hS
       refine Rg.take (i := 7) true rfl hE rfl (by kernel_rfl) (runs_plain rfl) (Gives.loadB hE 1 rfl rfl rfl ty3) rfl hT ?_; clear hE a; intro a hE
       replace hS := hF; clear hF hT
       refine Rg.takeP (i := 8) hE rfl (by kernel_rfl) (runs_plain rfl) (Gives.p hE rfl) rfl (tw_sel (fun _ => hS) (fun _ => (hS.tail))) ?_; clear hE a; intro a hE
       have hT := tw_sel (A := fun w => St w s (vecC 116 1 (some ⟨b51, 0, none⟩) 64 64 cs102 :: pt pb0 (.cells #[.int .i64 y0_0, .int .i64 y0_1, .slice a_y0_2 y0_2.length c_y0_2, .nilFunc, .func (.func 78) #[] #[], .slice a_v0 y0_5.length c_v0, .slice a_v1 y0_6.length c_v1] 80 (0, 0)) :: vecC 3 1 a_v0 c_v0 y0_5.length cs_v0 :: vecC 4 1 a_v1 c_v1 y0_6.length cs_v1 :: R)) (B := fun w => St w s (pt pb0 (.cells #[.int .i64 y0_0, .int .i64 y0_1, .slice a_y0_2 y0_2.length c_y0_2, .nilFunc, .func (.func 78) #[] #[], .slice a_v0 y0_5.length c_v0, .slice a_v1 y0_6.length c_v1] 80 (0, 0)) :: vecC 3 1 a_v0 c_v0 y0_5.length cs_v0 :: vecC 4 1 a_v1 c_v1 y0_6.length cs_v1 :: R)) (w := _) (x := true) (y := true) (fun _ => hS) (fun _ => (hS.tail))
       have hF := hS; replace hS := (hS.tail)
       refine Rg.take (i := 9) false rfl hE rfl (by kernel_rfl) (runs_plain rfl) (Gives.nilOk hE rfl) rfl hT ?_; clear hE a; intro a hE
       replace hS := hF; clear hF hT
       obtain ⟨_, hx119, hq106⟩ := bindS hq106
       obtain ⟨h120, h121⟩ := bx_some hx119
       refine Rg.takeP (i := 10) hE rfl (by kernel_rfl) (runs_plain rfl) (Gives.idxG hE ((q71).toNat) rfl rfl an116 h120 h121 (hS.vecAok 0 rfl (k := 0) (by decide)) rfl) rfl (tw_sel (fun _ => hS) (fun _ => (hS.tail))) ?_; clear hE a; intro a hE
       obtain ⟨_, hx122, hq106⟩ := bindS hq106
       obtain ⟨h123, h124⟩ := bx_some hx122
       refine Rg.takeP (i := 11) hE rfl (by kernel_rfl) (runs_plain rfl) (Gives.idxG hE ((q97).toNat) rfl rfl an81 h123 h124 ⟨_, _, rfl⟩ (by show ao (some ⟨b51, 0, none⟩) + (q71).toNat * 8 + (q97).toNat * 1 = ao (some ⟨b51, 0, none⟩) + ((q71 * 8 + q97)).toNat * 1; omega)) rfl (tw_sel (fun _ => hS) (fun _ => (hS.tail))) ?_; clear hE a; intro a hE
       refine Rg.one (i := 12) false true rfl (by kernel_rfl) (by kernel_rfl) (by kernel_rfl) ?_
       obtain ⟨x125, hx126, hq106⟩ := bindS hq106
       refine WL.setD hE hS 0 rfl (runs_plain rfl) rfl rfl (vs := [.int .i64 (w64 (y0_0 - 1))]) rfl ty3 rfl rfl rfl h101 hn103 (sx_some hx126).1 hx126 rfl rfl ?_; clear hE hS a w; intro cs127 a w h128 hn129 hE hS
       refine WL.nil ?_
       refine ⟨⟨fun h => absurd h (by decide), fun _ => (hS.tail)⟩, ?_⟩
       refine Rg.done (by kernel_rfl) ?_
       subst hK118
       subst hK116
       exact ⟨x125, cs127, Option.some.inj hq106, h128, hn129, hE.pick _ ⟨rfl, rfl, rfl, rfl, rfl, rfl, rfl, trivial⟩, hS⟩
      ·replace hq106 := iteF hc117 hq106
       refine W.skip ?_
       subst hK116
       exact ⟨q98, cs102, Option.some.inj hq106, h101, hn103, hE.pick _ ⟨rfl, rfl, rfl, rfl, rfl, rfl, rfl, trivial⟩, hS⟩
     ·clear hE hS a w; rintro a w ⟨q110, cs114, rfl, h113, hn115, hE, hS⟩
      refine W.region ?_
      refine WL.vS hS hE (runs_plain rfl) (Gives.p hE rfl) rfl ?_; clear hE a; intro a hE
      refine WL.vS hS hE (runs_plain rfl) (Gives.p hE rfl) rfl ?_; clear hE a; intro a hE
      refine WL.nil ?_
      subst hK104
      exact ⟨n93, Nat.lt_succ_self _, n93, (w64 (q97 + 1)), q110, cs114, rfl, hq91, h113, hn115, hE.pick _ ⟨rfl, rfl, rfl, rfl, rfl, rfl, rfl, trivial⟩, hS⟩
    ·replace hq91 := iteF hc105 hq91
     subst hK104
     refine W.exit rfl ?_
     exact ⟨q97, q98, cs102, Option.some.inj hq91, h101, hn103, hE.pick _ ⟨rfl, rfl, rfl, rfl, rfl, trivial⟩, hS⟩
   ·clear hE hS a w; rintro a w ⟨q97, q98, cs102, rfl, h101, hn103, hE, hS⟩
    dsimp only at hq65
    refine W.region ?_
    refine WL.vS hS hE (runs_plain rfl) (Gives.p hE rfl) rfl ?_; clear hE a; intro a hE
    refine WL.vS hS hE (runs_plain rfl) (Gives.p hE rfl) rfl ?_; clear hE a; intro a hE
    refine WL.vS hS hE (runs_plain rfl) (Gives.nilOk hE rfl) rfl ?_; clear hE a; intro a hE
    obtain ⟨_, hx130, hq65⟩ := bindS hq65
    obtain ⟨h131, h132⟩ := bx_some hx130
    refine WL.vS hS hE (runs_plain rfl) (Gives.idxG hE ((q71).toNat) rfl rfl an116 h131 h132 (hS.vecAok 0 rfl (k := 0) (by decide)) rfl) rfl ?_; clear hE a; intro a hE
    obtain ⟨_, hx133, hq65⟩ := bindS hq65
    obtain ⟨h134, h135⟩ := bx_some hx133
    refine WL.vS hS hE (runs_plain rfl) (Gives.idxG hE (((0 : Int)).toNat) rfl rfl an81 h134 h135 ⟨_, _, rfl⟩ (by show ao (some ⟨b51, 0, none⟩) + (q71).toNat * 8 + ((0 : Int)).toNat * 1 = ao (some ⟨b51, 0, none⟩) + ((q71 * 8 + 0)).toNat * 1; omega)) rfl ?_; clear hE a; intro a hE
    obtain ⟨x136, hx137, hq65⟩ := bindS hq65
    refine WL.setD hE hS 0 rfl (runs_plain rfl) rfl rfl (vs := [.int .i64 0]) rfl ty3 rfl rfl rfl h101 hn103 (sx_some hx137).1 hx137 rfl rfl ?_; clear hE hS a w; intro cs138 a w h139 hn140 hE hS
    refine WL.nil ?_
    refine W.region ?_
    refine WL.vS hS hE (runs_plain rfl) (Gives.p hE rfl) rfl ?_; clear hE a; intro a hE
    refine WL.vS hS hE (runs_plain rfl) (Gives.p hE rfl) rfl ?_; clear hE a; intro a hE
    refine WL.nil ?_
    subst hK78
    exact ⟨n67, Nat.lt_succ_self _, n67, (w64 (q71 + 1)), x136, cs138, rfl, hq65, h139, hn140, hE.pick _ ⟨rfl, rfl, rfl, rfl, trivial⟩, hS⟩
  ·replace hq65 := iteF hc79 hq65
   subst hK78
   refine W.exit rfl ?_
   exact ⟨q71, q72, cs76, Option.some.inj hq65, h75, hn77, hE.pick _ ⟨rfl, trivial⟩, hS⟩
 ·clear hE hS a w; rintro a w ⟨q71, q72, cs76, rfl, h75, hn77, hE, hS⟩
  dsimp only at hr
  refine W.seq (W.region ?_)
  refine WL.vS hS hE (runs_plain rfl) (Gives.p hE rfl) rfl ?_; clear hE a; intro a hE
  refine WL.vS hS hE (runs_plain rfl) (Gives.p hE rfl) rfl ?_; clear hE a; intro a hE
  refine WL.nil ?_
  refine W.ret ?_
  have hF := hS.fixA 0 rfl h75 hn77 (by decide); clear hS; obtain ⟨s141, hle142, hS, h143⟩ := hF
  replace h_y0_2 := Sl.mono RPlanRule.mono hle142 h_y0_2
  replace h_v0 := Ev.mono RI.mono hle142 h_v0
  replace h_v1 := Ev.mono RB.mono hle142 h_v1
  refine finG (fn := Try.f53) (rs := [.tmp 2]) (vs := [_]) hE rfl ⟨rfl, trivial⟩ ?_
  obtain rfl := Option.some.inj hr
  exact ⟨(some ⟨b51, 0, none⟩), s141, rfl, hle142, h143, hS⟩
set_option maxHeartbeats 8000000 in
theorem Plansolve_1_v1_ok  {w : World} {s : Sg} {R : List HP} {pb0 : Nat} {pb1 : Nat} {x0 : Option (List Int)} {a0 : Option Addr} {y0 : Int} {y1 : Int} (hS : St w s (pt pb0 (.cells #[.int .i64 y0] 3 (0, 0)) :: pt pb1 (.cells #[.int .i64 y1] 3 (0, 0)) :: R)) (h0 : Pt 64 (RA .i64 64) s a0 x0) {r : Bool} (hr : Plansolve_1_v1 x0 y0 y1 = some r) :
  Calls Try.prog 70 [.pointer a0, .pointer (some ⟨pb0, 0, none⟩), .pointer (some ⟨pb1, 0, none⟩)].toArray w (fun e w => e = .returned (.bool r) ∧ St w s (pt pb0 (.cells #[.int .i64 y0] 3 (0, 0)) :: pt pb1 (.cells #[.int .i64 y1] 3 (0, 0)) :: R)) := by
 refine enter Try.func70 rfl rfl rfl fun a hE => ?_
 rw [Plansolve_1_v1] at hr
 refine W.seq (W.region ?_)
 refine WL.vS hS hE (runs_plain rfl) (Gives.p hE rfl) rfl ?_; clear hE a; intro a hE
 refine WL.nil ?_
 refine W.seq ?_
 refine W.regionQ (C := fun w => St w s (pt pb0 (.cells #[.int .i64 y0] 3 (0, 0)) :: pt pb1 (.cells #[.int .i64 y1] 3 (0, 0)) :: R)) mixed (by kernel_rfl) hS.drew ?_
 refine QL.v hE (runs_plain rfl) (Gives.p hE rfl) rfl ?_; clear hE a; intro a hE
 refine QL.v hE (runs_plain rfl) (Gives.loadB hE 0 rfl rfl rfl ty3) rfl ?_; clear hE a; intro a hE
 obtain ⟨x51, hx52, hr⟩ := bindS hr
 obtain ⟨b53, o54, cs55, rfl, hl56, hR57, hat58⟩ := h0.at hx52
 obtain ⟨rfl, hl59⟩ := hR57
 refine QL.v hE (runs_plain rfl) (Gives.nilOk hE rfl) rfl ?_; clear hE a; intro a hE
 obtain ⟨_, hx60, hr⟩ := bindS hr
 obtain ⟨h61, h62⟩ := bx_some hx60
 refine QL.v hE (runs_plain rfl) (Gives.idxG hE ((y0).toNat) rfl rfl an116 h61 h62 ⟨_, _, rfl⟩ rfl) rfl ?_; clear hE a; intro a hE
 obtain ⟨_, hx63, hr⟩ := bindS hr
 obtain ⟨h64, h65⟩ := bx_some hx63
 obtain ⟨x66, hx67, hr⟩ := bindS hr
 obtain ⟨hi68, hlt69, hy70⟩ := gx_some hx67
 refine QL.v hE (runs_plain rfl) (Gives.idxG hE (((0 : Int)).toNat) rfl rfl an81 h64 h65 ⟨_, _, rfl⟩ (by show ao (some ⟨b53, o54, none⟩) + (y0).toNat * 8 + ((0 : Int)).toNat * 1 = ao (some ⟨b53, o54, none⟩) + ((y0 * 8 + 0)).toNat; omega)) rfl ?_; clear hE a; intro a hE
 refine QL.v hE (runs_plain rfl) (Gives.load1 hE rfl (fun w h => Sees.cell1 (hat58 w _ h) hy70) ty3) rfl ?_; clear hE a; intro a hE
 refine QL.v hE (runs_plain rfl) (Gives.p hE rfl) rfl ?_; clear hE a; intro a hE
 refine QL.v hE (runs_plain rfl) (Gives.loadB hE 1 rfl rfl rfl ty3) rfl ?_; clear hE a; intro a hE
 refine QL.v hE (runs_plain rfl) (Gives.p hE rfl) rfl ?_; clear hE a; intro a hE
 refine QL.v hE (runs_plain rfl) (Gives.p hE rfl) rfl ?_; clear hE a; intro a hE
 refine QL.nil ?_; clear hS w; intro w hS
 refine W.ret ?_
 refine finG (fn := Try.f70) (rs := [.tmp 4]) (vs := [_]) hE rfl ⟨rfl, trivial⟩ ?_
 obtain rfl := Option.some.inj hr
 exact ⟨rfl, hS⟩
set_option maxHeartbeats 8000000 in
theorem Planfloor_ok  {w : World} {s : Sg} {R : List HP} {x0 : Int} {x1 : Int} (hS : St w s (R))  {r : Int} (hr : Planfloor x0 x1 = some r) :
  Calls Try.prog 91 [.int .i64 x0, .int .i64 x1].toArray w (fun e w => e = .returned (.int .i64 r) ∧ St w s (R)) := by
 refine enter Try.func91 rfl rfl rfl fun a hE => ?_
 rw [Planfloor] at hr
 refine W.seq (W.region ?_)
 refine WL.vS hS hE (runs_plain rfl) (Gives.p hE rfl) rfl ?_; clear hE a; intro a hE
 refine WL.nil ?_
 refine W.seq (W.region ?_)
 refine WL.vS hS hE (runs_plain rfl) (Gives.p hE rfl) rfl ?_; clear hE a; intro a hE
 refine WL.vS hS hE (runs_plain rfl) (Gives.p hE rfl) rfl ?_; clear hE a; intro a hE
 obtain ⟨x51, hx52, hr⟩ := bindS hr
 refine WL.vS hS hE (runs_plain rfl) (Gives.dv hE rfl rfl hx52) rfl ?_; clear hE a; intro a hE
 refine WL.vS hS hE (runs_plain rfl) (Gives.p hE rfl) rfl ?_; clear hE a; intro a hE
 refine WL.nil ?_
 refine W.seq ?_
 refine W.seq (W.region ?_)
 refine WL.vS hS hE (runs_plain rfl) (Gives.p hE rfl) rfl ?_; clear hE a; intro a hE
 refine WL.vS hS hE (runs_plain rfl) (Gives.p hE rfl) rfl ?_; clear hE a; intro a hE
 obtain ⟨x53, hx54, hr⟩ := bindS hr
 refine WL.vS hS hE (runs_plain rfl) (Gives.rm hE rfl rfl hx54) rfl ?_; clear hE a; intro a hE
 refine WL.vS hS hE (runs_plain rfl) (Gives.p hE rfl) rfl ?_; clear hE a; intro a hE
 refine WL.nil ?_
 obtain ⟨q56, hq55, hr⟩ := bndS hr
 refine W.cut (fun a w => ∃ (q59 : Int), q59 = q56 ∧ Rep a 16 [(5, .int .i64 q59)] ∧ St w s (R)) ?_ ?_
 ·refine W.gen fun K60 hK60 => ?_
  refine W.cond hE rfl (fun hc61 => ?_) (fun hc61 => ?_)
  ·replace hq55 := iteT hc61 hq55
   refine W.region ?_
   refine WL.vS hS hE (runs_plain rfl) (Gives.p hE rfl) rfl ?_; clear hE a; intro a hE
   refine WL.vS hS hE (runs_plain rfl) (Gives.p hE rfl) rfl ?_; clear hE a; intro a hE
   refine WL.vS hS hE (runs_plain rfl) (Gives.p hE rfl) rfl ?_; clear hE a; intro a hE
   refine WL.nil ?_
   subst hK60
   exact ⟨w64 (x51 - 1), hq55, hE.pick _ ⟨rfl, trivial⟩, hS⟩
  ·replace hq55 := iteF hc61 hq55
   refine W.skip ?_
   subst hK60
   exact ⟨x51, hq55, hE.pick _ ⟨rfl, trivial⟩, hS⟩
 ·clear hE hS a w; rintro a w ⟨q59, rfl, hE, hS⟩
  refine W.seq (W.region ?_)
  refine WL.vS hS hE (runs_plain rfl) (Gives.p hE rfl) rfl ?_; clear hE a; intro a hE
  refine WL.vS hS hE (runs_plain rfl) (Gives.p hE rfl) rfl ?_; clear hE a; intro a hE
  refine WL.nil ?_
  refine W.ret ?_
  refine finG (fn := Try.f91) (rs := [.tmp 4]) (vs := [_]) hE rfl ⟨rfl, trivial⟩ ?_
  obtain rfl := Option.some.inj hr
  exact ⟨rfl, hS⟩
set_option maxHeartbeats 8000000 in
theorem PlanSearchchoices_v1_ok {fu : Nat}  {w : World} {s : Sg} {R : List HP} {pb0 : Nat} {pb1 : Nat} {pb2 : Nat} {x1 : Option (List Int)} {a1 : Option Addr} {x2 : PlanRule} {y0_0 : Int} {y0_1 : Int} {y0_2 : List PlanRule} {a_y0_2 : Option Addr} {c_y0_2 : Nat} {y0_5 : List Int} {a_v0 : Option Addr} {c_v0 n_v0 : Nat} {cs_v0 : List Value} {y0_6 : List Bool} {a_v1 : Option Addr} {c_v1 n_v1 : Nat} {cs_v1 : List Value} {y1 : Int} {y2 : Int} (hS : St w s (pt pb0 (.cells #[.int .i64 y0_0, .int .i64 y0_1, .slice a_y0_2 y0_2.length c_y0_2, .func (.func 71) #[] #[.pointer (some ⟨pb1, 0, none⟩), .pointer (some ⟨pb2, 0, none⟩)], .func (.func 70) #[] #[.pointer (some ⟨pb1, 0, none⟩), .pointer (some ⟨pb2, 0, none⟩)], .slice a_v0 n_v0 c_v0, .slice a_v1 n_v1 c_v1] 80 (0, 0)) :: pt pb1 (.cells #[.int .i64 y1] 3 (0, 0)) :: pt pb2 (.cells #[.int .i64 y2] 3 (0, 0)) :: vecC 3 1 a_v0 c_v0 n_v0 cs_v0 :: vecC 4 1 a_v1 c_v1 n_v1 cs_v1 :: R)) (h1 : Pt 64 (RA .i64 64) s a1 x1) (_h_y0_2 : Sl 5 RPlanRule s a_y0_2 c_y0_2 y0_2) (_h_v0 : Ev 1 (RI .i64) s cs_v0 y0_5) (hn_v0 : y0_5.length = n_v0) (_h_v1 : Ev 1 RB s cs_v1 y0_6) (hn_v1 : y0_6.length = n_v1) {r : (List Int)} (hr : PlanSearchchoices_v1 fu x1 x2 y0_0 y0_1 y0_2 y0_5 y0_6 y1 y2 = some r) :
  Calls Try.prog 82 [.pointer (some ⟨pb0, 0, none⟩), .pointer a1, .agg (PlanRule.cells x2).toArray].toArray w (fun e w => ∃ (a0 : Option Addr) (c0 n0 : Nat) (cs0 : List Value), e = .returned (.slice a0 n0 c0) ∧ Ev 1 (RI .i64) s cs0 r ∧ r.length = n0 ∧ St w s (vecC 3 1 a0 c0 n0 cs0 :: pt pb0 (.cells #[.int .i64 y0_0, .int .i64 y0_1, .slice a_y0_2 y0_2.length c_y0_2, .func (.func 71) #[] #[.pointer (some ⟨pb1, 0, none⟩), .pointer (some ⟨pb2, 0, none⟩)], .func (.func 70) #[] #[.pointer (some ⟨pb1, 0, none⟩), .pointer (some ⟨pb2, 0, none⟩)], .slice a_v0 n_v0 c_v0, .slice a_v1 n_v1 c_v1] 80 (0, 0)) :: pt pb1 (.cells #[.int .i64 y1] 3 (0, 0)) :: pt pb2 (.cells #[.int .i64 y2] 3 (0, 0)) :: vecC 3 1 a_v0 c_v0 n_v0 cs_v0 :: vecC 4 1 a_v1 c_v1 n_v1 cs_v1 :: R)) := by
 refine enter Try.func82 rfl rfl rfl fun a hE => ?_
 rw [PlanSearchchoices_v1] at hr
 subst hn_v0
 subst hn_v1
 refine W.seq (W.region ?_)
 refine WL.box hE hS (runs_plain rfl) rfl rfl rfl ?_; clear hE hS a w; intro b51 a w hE hS
 refine WL.vS hS hE (runs_plain rfl) (Gives.p hE rfl) rfl ?_; clear hE a; intro a hE
 refine WL.nil ?_
 refine W.seq (W.region ?_)
 replace hS := hS.vecNil 3 1
 refine WL.vS hS hE (runs_plain rfl) (Gives.p hE rfl) rfl ?_; clear hE a; intro a hE
 refine WL.nil ?_
 refine W.seq ?_
 refine W.regionQ (C := fun w => St w s (vecC 3 1 none 0 0 [] :: pt b51 (.cells (PlanRule.cells x2).toArray 37 (0, 0)) :: pt pb0 (.cells #[.int .i64 y0_0, .int .i64 y0_1, .slice a_y0_2 y0_2.length c_y0_2, .func (.func 71) #[] #[.pointer (some ⟨pb1, 0, none⟩), .pointer (some ⟨pb2, 0, none⟩)], .func (.func 70) #[] #[.pointer (some ⟨pb1, 0, none⟩), .pointer (some ⟨pb2, 0, none⟩)], .slice a_v0 y0_5.length c_v0, .slice a_v1 y0_6.length c_v1] 80 (0, 0)) :: pt pb1 (.cells #[.int .i64 y1] 3 (0, 0)) :: pt pb2 (.cells #[.int .i64 y2] 3 (0, 0)) :: vecC 3 1 a_v0 c_v0 y0_5.length cs_v0 :: vecC 4 1 a_v1 c_v1 y0_6.length cs_v1 :: R)) mixed (by kernel_rfl) hS.drew ?_
 refine QL.v hE (runs_plain rfl) (Gives.p hE rfl) rfl ?_; clear hE a; intro a hE
 refine QL.v hE (runs_plain rfl) (Gives.fld hE rfl fl37_0) rfl ?_; clear hE a; intro a hE
 refine QL.v hE (runs_plain rfl) (Gives.loadB hE 1 rfl rfl rfl ty3) rfl ?_; clear hE a; intro a hE
 refine QL.v hE (runs_plain rfl) (Gives.fld hE rfl fl37_1) rfl ?_; clear hE a; intro a hE
 refine QL.v hE (runs_plain rfl) (Gives.loadB hE 1 rfl rfl rfl ty3) rfl ?_; clear hE a; intro a hE
 obtain ⟨x53, hx54, hr⟩ := bindS hr
 obtain ⟨b55, o56, cs57, rfl, hl58, hR59, hat60⟩ := h1.at hx54
 obtain ⟨rfl, hl61⟩ := hR59
 refine QL.v hE (runs_plain rfl) (Gives.nilOk hE rfl) rfl ?_; clear hE a; intro a hE
 obtain ⟨_, hx62, hr⟩ := bindS hr
 obtain ⟨h63, h64⟩ := bx_some hx62
 refine QL.v hE (runs_plain rfl) (Gives.idxG hE ((x2.From).toNat) rfl rfl an116 h63 h64 ⟨_, _, rfl⟩ rfl) rfl ?_; clear hE a; intro a hE
 obtain ⟨_, hx65, hr⟩ := bindS hr
 obtain ⟨h66, h67⟩ := bx_some hx65
 obtain ⟨x68, hx69, hr⟩ := bindS hr
 obtain ⟨hi70, hlt71, hy72⟩ := gx_some hx69
 refine QL.v hE (runs_plain rfl) (Gives.idxG hE ((x2.To).toNat) rfl rfl an81 h66 h67 ⟨_, _, rfl⟩ (by show ao (some ⟨b55, o56, none⟩) + (x2.From).toNat * 8 + (x2.To).toNat * 1 = ao (some ⟨b55, o56, none⟩) + ((x2.From * 8 + x2.To)).toNat; omega)) rfl ?_; clear hE a; intro a hE
 refine QL.v hE (runs_plain rfl) (Gives.load1 hE rfl (fun w h => Sees.cell1 (hat60 w _ h) hy72) ty3) rfl ?_; clear hE a; intro a hE
 refine QL.v hE (runs_plain rfl) (Gives.fld hE rfl fl37_2) rfl ?_; clear hE a; intro a hE
 refine QL.v hE (runs_plain rfl) (Gives.loadB hE 1 rfl rfl rfl ty3) rfl ?_; clear hE a; intro a hE
 refine QL.v hE (runs_plain rfl) (Gives.p hE rfl) rfl ?_; clear hE a; intro a hE
 refine QL.v hE (runs_plain rfl) (Gives.p hE rfl) rfl ?_; clear hE a; intro a hE
 refine QL.v hE (runs_plain rfl) (Gives.nilOk hE rfl) rfl ?_; clear hE a; intro a hE
 refine QL.v hE (runs_plain rfl) (Gives.fld hE rfl fl80_0) rfl ?_; clear hE a; intro a hE
 refine QL.v hE (runs_plain rfl) (Gives.fld hE rfl fl24_0) rfl ?_; clear hE a; intro a hE
 refine QL.v hE (runs_plain rfl) (Gives.loadB hE 2 rfl rfl rfl ty3) rfl ?_; clear hE a; intro a hE
 obtain ⟨q73, hq74, hr⟩ := bindS hr
 refine QL.fnq hE (fun w hS => Planfloor_ok hS  hq74) (runs_plain rfl) bd91 rfl rfl rfl ?_; clear hE a; intro a hE
 refine QL.v hE (runs_plain rfl) (Gives.p hE rfl) rfl ?_; clear hE a; intro a hE
 refine QL.v hE (runs_plain rfl) (Gives.p hE rfl) rfl ?_; clear hE a; intro a hE
 refine QL.nil ?_; clear hS w; intro w hS
 refine W.seq ?_
 refine W.seq (W.region ?_)
 refine WL.vS hS hE (runs_plain rfl) (Gives.p hE rfl) rfl ?_; clear hE a; intro a hE
 refine WL.vS hS hE (runs_plain rfl) (Gives.p hE rfl) rfl ?_; clear hE a; intro a hE
 refine WL.nil ?_
 obtain ⟨q76, hq75, hr⟩ := bindS hr
 refine W.cut (fun a w => ∃ (q81 : List Int), ∃ (q88 : Int), ∃ (a82 : Option Addr), ∃ (c83 : Nat), ∃ (n85 : Nat), ∃ (cs86 : List Value), (q81, q88) = q76 ∧ Ev 1 (RI .i64) s cs86 q81 ∧ q81.length = n85 ∧ Rep a 58 [(7, .slice a82 n85 c83)] ∧ St w s (vecC 3 1 a82 c83 n85 cs86 :: pt b51 (.cells (PlanRule.cells x2).toArray 37 (0, 0)) :: pt pb0 (.cells #[.int .i64 y0_0, .int .i64 y0_1, .slice a_y0_2 y0_2.length c_y0_2, .func (.func 71) #[] #[.pointer (some ⟨pb1, 0, none⟩), .pointer (some ⟨pb2, 0, none⟩)], .func (.func 70) #[] #[.pointer (some ⟨pb1, 0, none⟩), .pointer (some ⟨pb2, 0, none⟩)], .slice a_v0 y0_5.length c_v0, .slice a_v1 y0_6.length c_v1] 80 (0, 0)) :: pt pb1 (.cells #[.int .i64 y1] 3 (0, 0)) :: pt pb2 (.cells #[.int .i64 y2] 3 (0, 0)) :: vecC 3 1 a_v0 c_v0 y0_5.length cs_v0 :: vecC 4 1 a_v1 c_v1 y0_6.length cs_v1 :: R)) ?_ ?_
 ·refine W.block ?_
  refine W.loop (fun m a w => ∃ (n77 : Nat), ∃ (q81 : List Int), ∃ (q88 : Int), ∃ (a82 : Option Addr), ∃ (c83 : Nat), ∃ (n85 : Nat), ∃ (cs86 : List Value), n77 = m ∧ PlanSearchchoices_v1.loop1 x2 y0_0 x53 n77 q81 q88 = some q76 ∧ Ev 1 (RI .i64) s cs86 q81 ∧ q81.length = n85 ∧ Rep a 58 [(0, .pointer (some ⟨pb0, 0, none⟩)), (1, .pointer (some ⟨b55, o56, none⟩)), (5, .pointer (some ⟨b51, 0, none⟩)), (7, .slice a82 n85 c83), (9, .int .i64 q88)] ∧ St w s (vecC 3 1 a82 c83 n85 cs86 :: pt b51 (.cells (PlanRule.cells x2).toArray 37 (0, 0)) :: pt pb0 (.cells #[.int .i64 y0_0, .int .i64 y0_1, .slice a_y0_2 y0_2.length c_y0_2, .func (.func 71) #[] #[.pointer (some ⟨pb1, 0, none⟩), .pointer (some ⟨pb2, 0, none⟩)], .func (.func 70) #[] #[.pointer (some ⟨pb1, 0, none⟩), .pointer (some ⟨pb2, 0, none⟩)], .slice a_v0 y0_5.length c_v0, .slice a_v1 y0_6.length c_v1] 80 (0, 0)) :: pt pb1 (.cells #[.int .i64 y1] 3 (0, 0)) :: pt pb2 (.cells #[.int .i64 y2] 3 (0, 0)) :: vecC 3 1 a_v0 c_v0 y0_5.length cs_v0 :: vecC 4 1 a_v1 c_v1 y0_6.length cs_v1 :: R)) (m := fu) ⟨fu, [], (w64 (0 - q73)), none, 0, 0, [], rfl, hq75, (Ev.nil), (rfl), hE.pick _ ⟨rfl, rfl, rfl, rfl, rfl, trivial⟩, hS⟩ ?_
  clear hE hS a w hq75; rintro m78 a w ⟨n77, q81, q88, a82, c83, n85, cs86, rfl, hq75, h84, rfl, hE, hS⟩
  refine W.gen fun K89 hK89 => ?_
  rcases n77 with _ | n77
  ·rw [PlanSearchchoices_v1.loop1] at hq75; exact absurd hq75 (by simp)
  rw [PlanSearchchoices_v1.loop1] at hq75
  refine W.seq ?_
  refine W.seq ?_
  refine W.regionQ (C := fun w => St w s (vecC 3 1 a82 c83 q81.length cs86 :: pt b51 (.cells (PlanRule.cells x2).toArray 37 (0, 0)) :: pt pb0 (.cells #[.int .i64 y0_0, .int .i64 y0_1, .slice a_y0_2 y0_2.length c_y0_2, .func (.func 71) #[] #[.pointer (some ⟨pb1, 0, none⟩), .pointer (some ⟨pb2, 0, none⟩)], .func (.func 70) #[] #[.pointer (some ⟨pb1, 0, none⟩), .pointer (some ⟨pb2, 0, none⟩)], .slice a_v0 y0_5.length c_v0, .slice a_v1 y0_6.length c_v1] 80 (0, 0)) :: pt pb1 (.cells #[.int .i64 y1] 3 (0, 0)) :: pt pb2 (.cells #[.int .i64 y2] 3 (0, 0)) :: vecC 3 1 a_v0 c_v0 y0_5.length cs_v0 :: vecC 4 1 a_v1 c_v1 y0_6.length cs_v1 :: R)) mixed (by kernel_rfl) hS.drew ?_
  refine QL.v hE (runs_plain rfl) (Gives.fld hE rfl fl37_3) rfl ?_; clear hE a; intro a hE
  refine QL.v hE (runs_plain rfl) (Gives.loadB hE 1 rfl rfl rfl ty3) rfl ?_; clear hE a; intro a hE
  refine QL.v hE (runs_plain rfl) (Gives.p hE rfl) rfl ?_; clear hE a; intro a hE
  refine QL.v hE (runs_plain rfl) (Gives.p hE rfl) rfl ?_; clear hE a; intro a hE
  refine QL.v hE (runs_plain rfl) (Gives.nilOk hE rfl) rfl ?_; clear hE a; intro a hE
  refine QL.v hE (runs_plain rfl) (Gives.fld hE rfl fl80_0) rfl ?_; clear hE a; intro a hE
  refine QL.v hE (runs_plain rfl) (Gives.fld hE rfl fl24_0) rfl ?_; clear hE a; intro a hE
  refine QL.v hE (runs_plain rfl) (Gives.loadB hE 2 rfl rfl rfl ty3) rfl ?_; clear hE a; intro a hE
  refine QL.v hE (runs_plain rfl) (Gives.p hE rfl) rfl ?_; clear hE a; intro a hE
  refine QL.v hE (runs_plain rfl) (Gives.p hE rfl) rfl ?_; clear hE a; intro a hE
  refine QL.v hE (runs_plain rfl) (Gives.p hE rfl) rfl ?_; clear hE a; intro a hE
  refine QL.v hE (runs_plain rfl) (Gives.fld hE rfl fl37_1) rfl ?_; clear hE a; intro a hE
  refine QL.v hE (runs_plain rfl) (Gives.loadB hE 1 rfl rfl rfl ty3) rfl ?_; clear hE a; intro a hE
  refine QL.v hE (runs_plain rfl) (Gives.fld hE rfl fl37_0) rfl ?_; clear hE a; intro a hE
  refine QL.v hE (runs_plain rfl) (Gives.loadB hE 1 rfl rfl rfl ty3) rfl ?_; clear hE a; intro a hE
  refine QL.v hE (runs_plain rfl) (Gives.nilOk hE rfl) rfl ?_; clear hE a; intro a hE
  obtain ⟨_, hx90, hq75⟩ := bindS hq75
  obtain ⟨h91, h92⟩ := bx_some hx90
  refine QL.v hE (runs_plain rfl) (Gives.idxG hE ((x2.To).toNat) rfl rfl an116 h91 h92 ⟨_, _, rfl⟩ rfl) rfl ?_; clear hE a; intro a hE
  obtain ⟨_, hx93, hq75⟩ := bindS hq75
  obtain ⟨h94, h95⟩ := bx_some hx93
  obtain ⟨x96, hx97, hq75⟩ := bindS hq75
  obtain ⟨hi98, hlt99, hy100⟩ := gx_some hx97
  refine QL.v hE (runs_plain rfl) (Gives.idxG hE ((x2.From).toNat) rfl rfl an81 h94 h95 ⟨_, _, rfl⟩ (by show ao (some ⟨b55, o56, none⟩) + (x2.To).toNat * 8 + (x2.From).toNat * 1 = ao (some ⟨b55, o56, none⟩) + ((x2.To * 8 + x2.From)).toNat; omega)) rfl ?_; clear hE a; intro a hE
  refine QL.v hE (runs_plain rfl) (Gives.load1 hE rfl (fun w h => Sees.cell1 (hat60 w _ h) hy100) ty3) rfl ?_; clear hE a; intro a hE
  refine QL.v hE (runs_plain rfl) (Gives.p hE rfl) rfl ?_; clear hE a; intro a hE
  refine QL.v hE (runs_plain rfl) (Gives.p hE rfl) rfl ?_; clear hE a; intro a hE
  refine QL.nil ?_; clear hS w; intro w hS
  refine W.cond hE rfl (fun hc101 => ?_) (fun hc101 => ?_)
  ·replace hq75 := iteT hc101 hq75
   refine W.skip ?_
   refine W.seq ?_
   refine W.block ?_
   refine W.region ?_
   refine WL.vS hS hE (runs_plain rfl) (Gives.p hE rfl) rfl ?_; clear hE a; intro a hE
   refine WL.vS hS hE (runs_plain rfl) (Gives.p hE rfl) rfl ?_; clear hE a; intro a hE
   refine WL.lit hE hS (e := 3) (es := 1) (vs := [(0, .int .i64 q88)]) (cs := [.int .i64 q88]) (runs_plain rfl) rfl (by kernel_rfl) rfl ?_; clear hE hS a w; intro b102 a w hE hS
   obtain ⟨x103, hx104, hq75⟩ := bindS hq75
   refine WL.appD hE hS 0 (m := 1) (runs_plain rfl) rfl rfl rfl ap29 rfl h84 rfl (xs := [q88]) (Ev.cons (c1 := [.int .i64 q88]) rfl rfl (Ev.nil)) rfl rfl hx104 rfl ?_; clear hE hS a w; intro a105 c106 cs107 a w h108 hE hS
   refine WL.vS hS hE (runs_plain rfl) (Gives.p hE rfl) rfl ?_; clear hE a; intro a hE
   refine WL.nil ?_
   refine W.region ?_
   refine WL.vS hS hE (runs_plain rfl) (Gives.p hE rfl) rfl ?_; clear hE a; intro a hE
   refine WL.vS hS hE (runs_plain rfl) (Gives.p hE rfl) rfl ?_; clear hE a; intro a hE
   refine WL.vS hS hE (runs_plain rfl) (Gives.p hE rfl) rfl ?_; clear hE a; intro a hE
   refine WL.nil ?_
   subst hK89
   exact ⟨n77, Nat.lt_succ_self _, n77, x103, (w64 (q88 + 1)), a105, c106, x103.length, cs107, rfl, hq75, h108, (rfl), hE.pick _ ⟨rfl, rfl, rfl, rfl, rfl, trivial⟩, hS⟩
  ·replace hq75 := iteF hc101 hq75
   subst hK89
   refine W.exit rfl ?_
   exact ⟨q81, q88, a82, c83, q81.length, cs86, Option.some.inj hq75, h84, rfl, hE.pick _ ⟨rfl, trivial⟩, hS⟩
 ·clear hE hS a w; rintro a w ⟨q81, q88, a82, c83, n85, cs86, rfl, h84, rfl, hE, hS⟩
  dsimp only at hr
  refine W.seq (W.region ?_)
  refine WL.vS hS hE (runs_plain rfl) (Gives.p hE rfl) rfl ?_; clear hE a; intro a hE
  refine WL.vS hS hE (runs_plain rfl) (Gives.p hE rfl) rfl ?_; clear hE a; intro a hE
  refine WL.nil ?_
  refine W.ret ?_
  refine finG (fn := Try.f82) (rs := [.tmp 6]) (vs := [_]) hE rfl ⟨rfl, trivial⟩ ?_
  obtain rfl := Option.some.inj hr
  replace hS := hS.dropAt 1
  exact ⟨a82, c83, q81.length, cs86, rfl, h84, rfl, hS⟩
set_option maxHeartbeats 8000000 in
theorem Plansolve_2_v1_ok  {w : World} {s : Sg} {R : List HP} {pb0 : Nat} {pb1 : Nat} {x0 : Option (List Int)} {a0 : Option Addr} {x1 : List Int} {a1 : Option Addr} {c1 : Nat} {y0 : Int} {y1 : Int} (hS : St w s (pt pb0 (.cells #[.int .i64 y0] 3 (0, 0)) :: pt pb1 (.cells #[.int .i64 y1] 3 (0, 0)) :: R)) (h0 : Pt 64 (RA .i64 64) s a0 x0) (_h1 : Sl 1 (RI .i64) s a1 c1 x1) {r : Int} (hr : Plansolve_2_v1 x0 x1 y0 y1 = some r) :
  Calls Try.prog 71 [.pointer a0, .slice a1 x1.length c1, .pointer (some ⟨pb0, 0, none⟩), .pointer (some ⟨pb1, 0, none⟩)].toArray w (fun e w => e = .returned (.tuple #[]) ∧ St w s (pt pb0 (.cells #[.int .i64 y0] 3 (0, 0)) :: pt pb1 (.cells #[.int .i64 r] 3 (0, 0)) :: R)) := by
 refine enter Try.func71 rfl rfl rfl fun a hE => ?_
 rw [Plansolve_2_v1] at hr
 refine W.gen fun K52 hK52 => ?_
 refine W.regionE (sel (fun w => St w s (pt pb0 (.cells #[.int .i64 y0] 3 (0, 0)) :: pt pb1 (.cells #[.int .i64 y1] 3 (0, 0)) :: R)) (fun w => St w s (pt pb0 (.cells #[.int .i64 y0] 3 (0, 0)) :: R))) (fun b i => cond b ([0, 1, 2, 3, 4, 5, 6].contains i) ([0, 1, 2, 3, 4, 5, 6, 7].contains i)) mixed ?_
 replace hS := hS.drew
 refine Rg.takeP (i := 0) hE rfl (by kernel_rfl) (runs_plain rfl) (Gives.p hE rfl) rfl (tw_sel (fun _ => hS) (fun _ => (hS.dropAt 1))) ?_; clear hE a; intro a hE
 have hT := tw_sel (A := fun w => St w s (pt pb0 (.cells #[.int .i64 y0] 3 (0, 0)) :: pt pb1 (.cells #[.int .i64 y1] 3 (0, 0)) :: R)) (B := fun w => St w s (pt pb0 (.cells #[.int .i64 y0] 3 (0, 0)) :: R)) (w := _) (x := true) (y := true) (fun _ => hS) (fun _ => (hS.dropAt 1))
 have hF := hS; replace hS := hS
 refine Rg.take (i := 1) true rfl hE rfl (by kernel_rfl) (runs_plain rfl) (Gives.loadB hE 0 rfl rfl rfl ty3) rfl hT ?_; clear hE a; intro a hE
 replace hS := hF; clear hF hT
 have hT := tw_sel (A := fun w => St w s (pt pb0 (.cells #[.int .i64 y0] 3 (0, 0)) :: pt pb1 (.cells #[.int .i64 y1] 3 (0, 0)) :: R)) (B := fun w => St w s (pt pb0 (.cells #[.int .i64 y0] 3 (0, 0)) :: R)) (w := _) (x := true) (y := true) (fun _ => hS) (fun _ => (hS.dropAt 1))
 have hF := hS; replace hS := hS
 obtain ⟨x53, hx54, hr⟩ := bindS hr
 obtain ⟨b55, o56, cs57, rfl, hl58, hR59, hat60⟩ := h0.at hx54
 obtain ⟨rfl, hl61⟩ := hR59
 refine Rg.take (i := 2) true rfl hE rfl (by kernel_rfl) (runs_plain rfl) (Gives.nilOk hE rfl) rfl hT ?_; clear hE a; intro a hE
 replace hS := hF; clear hF hT
 obtain ⟨_, hx62, hr⟩ := bindS hr
 obtain ⟨h63, h64⟩ := bx_some hx62
 refine Rg.takeP (i := 3) hE rfl (by kernel_rfl) (runs_plain rfl) (Gives.idxG hE ((y0).toNat) rfl rfl an116 h63 h64 ⟨_, _, rfl⟩ rfl) rfl (tw_sel (fun _ => hS) (fun _ => (hS.dropAt 1))) ?_; clear hE a; intro a hE
 obtain ⟨_, hx65, hr⟩ := bindS hr
 obtain ⟨h66, h67⟩ := bx_some hx65
 obtain ⟨x68, hx69, hr⟩ := bindS hr
 obtain ⟨hi70, hlt71, hy72⟩ := gx_some hx69
 refine Rg.takeP (i := 4) hE rfl (by kernel_rfl) (runs_plain rfl) (Gives.idxG hE (((0 : Int)).toNat) rfl rfl an81 h66 h67 ⟨_, _, rfl⟩ (by show ao (some ⟨b55, o56, none⟩) + (y0).toNat * 8 + ((0 : Int)).toNat * 1 = ao (some ⟨b55, o56, none⟩) + ((y0 * 8 + 0)).toNat; omega)) rfl (tw_sel (fun _ => hS) (fun _ => (hS.dropAt 1))) ?_; clear hE a; intro a hE
 have hT := tw_sel (A := fun w => St w s (pt pb0 (.cells #[.int .i64 y0] 3 (0, 0)) :: pt pb1 (.cells #[.int .i64 y1] 3 (0, 0)) :: R)) (B := fun w => St w s (pt pb0 (.cells #[.int .i64 y0] 3 (0, 0)) :: R)) (w := _) (x := true) (y := true) (fun _ => hS) (fun _ => (hS.dropAt 1))
 have hF := hS; replace hS := hS
 refine Rg.take (i := 5) true rfl hE rfl (by kernel_rfl) (runs_plain rfl) (Gives.load1 hE rfl (fun w h => Sees.cell1 (hat60 w _ h) hy72) ty3) rfl hT ?_; clear hE a; intro a hE
 replace hS := hF; clear hF hT
 refine Rg.takeP (i := 6) hE rfl (by kernel_rfl) (runs_plain rfl) (Gives.p hE rfl) rfl (tw_sel (fun _ => hS) (fun _ => (hS.dropAt 1))) ?_; clear hE a; intro a hE
 refine Rg.one (i := 7) false true rfl (by kernel_rfl) (by kernel_rfl) (by kernel_rfl) ?_
 refine WL.storeI hE hS 1 rfl [.int .i64 (w64 (0 - x68))] (runs_plain rfl) rfl rfl rfl ty3 rfl rfl rfl rfl ?_; clear hE hS a w; intro a w hE hS
 refine WL.nil ?_
 refine ⟨⟨fun h => absurd h (by decide), fun _ => (hS.dropAt 1)⟩, ?_⟩
 refine Rg.done (by kernel_rfl) ?_
 subst hK52
 refine finG (fn := Try.f71) (rs := []) (vs := []) hE rfl trivial ?_
 obtain rfl := Option.some.inj hr
 exact ⟨rfl, hS⟩
set_option maxHeartbeats 8000000 in
theorem PlanBoundsclosed_ok {fu : Nat}  {w : World} {s : Sg} {R : List HP} {x0 : Option (List Int)} {a0 : Option Addr} {x1 : Int} {x2 : Int} {x3 : Int} {x4 : Int} (hS : St w s (R)) (h0 : Pt 64 (RA .i64 64) s a0 x0) {r : (Option (List Int)) × Bool} (hr : PlanBoundsclosed fu x0 x1 x2 x3 x4 = some r) :
  Calls Try.prog 87 [.pointer a0, .int .i64 x1, .int .i64 x2, .int .i64 x3, .int .i64 x4].toArray w (fun e w => ∃ (a0 : Option Addr) (t : Sg), e = .returned (.tuple #[.pointer a0, .bool r.2]) ∧ s.Le t ∧ Pt 64 (RA .i64 64) t a0 r.1 ∧ St w t (R)) := by
 refine enter Try.func87 rfl rfl rfl fun a hE => ?_
 rw [PlanBoundsclosed] at hr
 refine W.seq (W.region ?_)
 refine WL.vS hS hE (runs_plain rfl) (Gives.p hE rfl) rfl ?_; clear hE a; intro a hE
 refine WL.vS hS hE (runs_plain rfl) (Gives.p hE rfl) rfl ?_; clear hE a; intro a hE
 refine WL.nil ?_
 refine W.seq ?_
 refine W.seq (W.region ?_)
 refine WL.vS hS hE (runs_plain rfl) (Gives.p hE rfl) rfl ?_; clear hE a; intro a hE
 refine WL.vS hS hE (runs_plain rfl) (Gives.p hE rfl) rfl ?_; clear hE a; intro a hE
 refine WL.vS hS hE (runs_plain rfl) (Gives.p hE rfl) rfl ?_; clear hE a; intro a hE
 obtain ⟨x51, hx52, hr⟩ := bindS hr
 obtain ⟨b53, o54, cs55, rfl, hl56, hR57, hat58⟩ := h0.at hx52
 obtain ⟨rfl, hl59⟩ := hR57
 refine WL.vS hS hE (runs_plain rfl) (Gives.nilOk hE rfl) rfl ?_; clear hE a; intro a hE
 obtain ⟨_, hx60, hr⟩ := bindS hr
 obtain ⟨h61, h62⟩ := bx_some hx60
 refine WL.vS hS hE (runs_plain rfl) (Gives.idxG hE ((x2).toNat) rfl rfl an116 h61 h62 ⟨_, _, rfl⟩ rfl) rfl ?_; clear hE a; intro a hE
 obtain ⟨_, hx63, hr⟩ := bindS hr
 obtain ⟨h64, h65⟩ := bx_some hx63
 obtain ⟨x66, hx67, hr⟩ := bindS hr
 obtain ⟨hi68, hlt69, hy70⟩ := gx_some hx67
 refine WL.vS hS hE (runs_plain rfl) (Gives.idxG hE ((x3).toNat) rfl rfl an81 h64 h65 ⟨_, _, rfl⟩ (by show ao (some ⟨b53, o54, none⟩) + (x2).toNat * 8 + (x3).toNat * 1 = ao (some ⟨b53, o54, none⟩) + ((x2 * 8 + x3)).toNat; omega)) rfl ?_; clear hE a; intro a hE
 refine WL.vS hS hE (runs_plain rfl) (Gives.load1 hE rfl (fun w h => Sees.cell1 (hat58 w _ h) hy70) ty3) rfl ?_; clear hE a; intro a hE
 refine WL.vS hS hE (runs_plain rfl) (Gives.p hE rfl) rfl ?_; clear hE a; intro a hE
 refine WL.vS hS hE (runs_plain rfl) (Gives.p hE rfl) rfl ?_; clear hE a; intro a hE
 refine WL.nil ?_
 refine W.cond hE rfl (fun hc71 => ?_) (fun hc71 => ?_)
 ·replace hr := iteT hc71 hr
  refine W.seq (W.region ?_)
  refine WL.vS hS hE (runs_plain rfl) (Gives.p hE rfl) rfl ?_; clear hE a; intro a hE
  refine WL.vS hS hE (runs_plain rfl) (Gives.p hE rfl) rfl ?_; clear hE a; intro a hE
  refine WL.vS hS hE (runs_plain rfl) (Gives.p hE rfl) rfl ?_; clear hE a; intro a hE
  refine WL.nil ?_
  refine W.ret ?_
  refine finG (fn := Try.f87) (rs := [.tmp 10, .tmp 11]) (vs := [_, _]) hE rfl ⟨rfl, rfl, trivial⟩ ?_
  obtain rfl := Option.some.inj hr
  exact ⟨(some ⟨b53, o54, none⟩), s, rfl, (Sg.Le.refl _), h0, hS⟩
 ·replace hr := iteF hc71 hr
  refine W.skip ?_
  refine W.seq ?_
  refine W.seq (W.region ?_)
  refine WL.vS hS hE (runs_plain rfl) (Gives.p hE rfl) rfl ?_; clear hE a; intro a hE
  refine WL.vS hS hE (runs_plain rfl) (Gives.p hE rfl) rfl ?_; clear hE a; intro a hE
  refine WL.vS hS hE (runs_plain rfl) (Gives.p hE rfl) rfl ?_; clear hE a; intro a hE
  refine WL.vS hS hE (runs_plain rfl) (Gives.nilOk hE rfl) rfl ?_; clear hE a; intro a hE
  obtain ⟨_, hx72, hr⟩ := bindS hr
  obtain ⟨h73, h74⟩ := bx_some hx72
  refine WL.vS hS hE (runs_plain rfl) (Gives.idxG hE ((x3).toNat) rfl rfl an116 h73 h74 ⟨_, _, rfl⟩ rfl) rfl ?_; clear hE a; intro a hE
  obtain ⟨_, hx75, hr⟩ := bindS hr
  obtain ⟨h76, h77⟩ := bx_some hx75
  obtain ⟨x78, hx79, hr⟩ := bindS hr
  obtain ⟨hi80, hlt81, hy82⟩ := gx_some hx79
  refine WL.vS hS hE (runs_plain rfl) (Gives.idxG hE ((x2).toNat) rfl rfl an81 h76 h77 ⟨_, _, rfl⟩ (by show ao (some ⟨b53, o54, none⟩) + (x3).toNat * 8 + (x2).toNat * 1 = ao (some ⟨b53, o54, none⟩) + ((x3 * 8 + x2)).toNat; omega)) rfl ?_; clear hE a; intro a hE
  refine WL.vS hS hE (runs_plain rfl) (Gives.load1 hE rfl (fun w h => Sees.cell1 (hat58 w _ h) hy82) ty3) rfl ?_; clear hE a; intro a hE
  refine WL.vS hS hE (runs_plain rfl) (Gives.p hE rfl) rfl ?_; clear hE a; intro a hE
  refine WL.vS hS hE (runs_plain rfl) (Gives.p hE rfl) rfl ?_; clear hE a; intro a hE
  refine WL.vS hS hE (runs_plain rfl) (Gives.p hE rfl) rfl ?_; clear hE a; intro a hE
  refine WL.nil ?_
  refine W.cond hE rfl (fun hc83 => ?_) (fun hc83 => ?_)
  ·replace hr := iteT hc83 hr
   refine W.seq (W.region ?_)
   refine WL.vS hS hE (runs_plain rfl) (Gives.p hE rfl) rfl ?_; clear hE a; intro a hE
   refine WL.vS hS hE (runs_plain rfl) (Gives.p hE rfl) rfl ?_; clear hE a; intro a hE
   refine WL.nil ?_
   refine W.ret ?_
   refine finG (fn := Try.f87) (rs := [.tmp 10, .tmp 11]) (vs := [_, _]) hE rfl ⟨rfl, rfl, trivial⟩ ?_
   obtain rfl := Option.some.inj hr
   exact ⟨none, s, rfl, (Sg.Le.refl _), Pt.nil, hS⟩
  ·replace hr := iteF hc83 hr
   refine W.skip ?_
   refine W.seq (W.region ?_)
   refine WL.vS hS hE (runs_plain rfl) (Gives.p hE rfl) rfl ?_; clear hE a; intro a hE
   refine WL.vS hS hE (runs_plain rfl) (Gives.nilOk hE rfl) rfl ?_; clear hE a; intro a hE
   refine WL.vS hS hE (runs_plain rfl) (Gives.loadA hE rfl (fun w h => hat58 w _ h) (by rw [List.length_map, hl59]; exact ty116)) rfl ?_; clear hE a; intro a hE
   refine WL.alloc hE hS (runs_plain rfl) zr116 rfl ?_; clear hE hS a w; intro b84 a w hE hS
   replace hS := hS.ptVec (es := 1) (m := 64) rfl (by decide)
   have h85 : Ev 1 (RI .i64) s [.int .i64 0, .int .i64 0, .int .i64 0, .int .i64 0, .int .i64 0, .int .i64 0, .int .i64 0, .int .i64 0, .int .i64 0, .int .i64 0, .int .i64 0, .int .i64 0, .int .i64 0, .int .i64 0, .int .i64 0, .int .i64 0, .int .i64 0, .int .i64 0, .int .i64 0, .int .i64 0, .int .i64 0, .int .i64 0, .int .i64 0, .int .i64 0, .int .i64 0, .int .i64 0, .int .i64 0, .int .i64 0, .int .i64 0, .int .i64 0, .int .i64 0, .int .i64 0, .int .i64 0, .int .i64 0, .int .i64 0, .int .i64 0, .int .i64 0, .int .i64 0, .int .i64 0, .int .i64 0, .int .i64 0, .int .i64 0, .int .i64 0, .int .i64 0, .int .i64 0, .int .i64 0, .int .i64 0, .int .i64 0, .int .i64 0, .int .i64 0, .int .i64 0, .int .i64 0, .int .i64 0, .int .i64 0, .int .i64 0, .int .i64 0, .int .i64 0, .int .i64 0, .int .i64 0, .int .i64 0, .int .i64 0, .int .i64 0, .int .i64 0, .int .i64 0] (List.replicate 64 (0 : Int)) := (Ev.ofMap (k := .i64) (List.replicate 64 (0 : Int)))
   have h87 : Ev 1 (RI .i64) s (x51.map (Value.int .i64)) x51 := (Ev.ofMap x51)
   have hn88 : (x51).length = 64 := hl59
   refine WL.storeArr hE hS 0 rfl (runs_plain rfl) rfl rfl rfl ty116 (by decide) (by first | rfl | (rw [h87.ints]; simp [List.all_map, Function.comp_def, Value.oneCell'])) h87 hn88 rfl ?_; clear hE hS a w; intro a w hE hS
   refine WL.nil ?_
   refine W.seq ?_
   refine W.seq (W.region ?_)
   refine WL.vS hS hE (runs_plain rfl) (Gives.p hE rfl) rfl ?_; clear hE a; intro a hE
   refine WL.vS hS hE (runs_plain rfl) (Gives.p hE rfl) rfl ?_; clear hE a; intro a hE
   refine WL.nil ?_
   obtain ⟨q101, hq100, hr⟩ := bindS hr
   refine W.cut (fun a w => ∃ (q106 : Int), ∃ (q107 : List Int), ∃ (cs111 : List Value), (q106, q107) = q101 ∧ Ev 1 (RI .i64) s cs111 q107 ∧ q107.length = 64 ∧ Rep a 75 [(12, .pointer (some ⟨b84, 0, none⟩))] ∧ St w s (vecC 116 1 (some ⟨b84, 0, none⟩) 64 64 cs111 :: R)) ?_ ?_
   ·refine W.block ?_
    refine W.loop (fun m a w => ∃ (n102 : Nat), ∃ (q106 : Int), ∃ (q107 : List Int), ∃ (cs111 : List Value), n102 = m ∧ PlanBoundsclosed.loop2 x1 x2 x3 x4 fu x51 n102 q106 q107 = some q101 ∧ Ev 1 (RI .i64) s cs111 q107 ∧ q107.length = 64 ∧ Rep a 75 [(0, .pointer (some ⟨b53, o54, none⟩)), (1, .int .i64 x1), (2, .int .i64 x2), (3, .int .i64 x3), (4, .int .i64 x4), (12, .pointer (some ⟨b84, 0, none⟩)), (38, .int .i64 x1), (39, .int .i64 q106)] ∧ St w s (vecC 116 1 (some ⟨b84, 0, none⟩) 64 64 cs111 :: R)) (m := fu) ⟨fu, 0, x51, (x51.map (Value.int .i64)), rfl, hq100, h87, hn88, hE.pick _ ⟨rfl, rfl, rfl, rfl, rfl, rfl, rfl, rfl, trivial⟩, hS⟩ ?_
    clear hE hS a w hq100; rintro m103 a w ⟨n102, q106, q107, cs111, rfl, hq100, h110, hn112, hE, hS⟩
    refine W.gen fun K113 hK113 => ?_
    rcases n102 with _ | n102
    ·rw [PlanBoundsclosed.loop2] at hq100; exact absurd hq100 (by simp)
    rw [PlanBoundsclosed.loop2] at hq100
    refine W.seq (W.region ?_)
    refine WL.vS hS hE (runs_plain rfl) (Gives.p hE rfl) rfl ?_; clear hE a; intro a hE
    refine WL.nil ?_
    refine W.seq ?_
    refine W.cond hE rfl (fun hc114 => ?_) (fun hc114 => ?_)
    ·replace hq100 := iteT hc114 hq100
     refine W.skip ?_
     refine W.seq ?_
     refine W.block ?_
     refine W.seq (W.region ?_)
     refine WL.vS hS hE (runs_plain rfl) (Gives.p hE rfl) rfl ?_; clear hE a; intro a hE
     refine WL.vS hS hE (runs_plain rfl) (Gives.p hE rfl) rfl ?_; clear hE a; intro a hE
     refine WL.nil ?_
     refine W.seq (W.region ?_)
     refine WL.vS hS hE (runs_plain rfl) (Gives.p hE rfl) rfl ?_; clear hE a; intro a hE
     refine WL.vS hS hE (runs_plain rfl) (Gives.p hE rfl) rfl ?_; clear hE a; intro a hE
     refine WL.nil ?_
     obtain ⟨q127, hq126, hq100⟩ := bindS hq100
     refine W.cut (fun a w => ∃ (q132 : Int), ∃ (q133 : List Int), ∃ (cs137 : List Value), (q132, q133) = q127 ∧ Ev 1 (RI .i64) s cs137 q133 ∧ q133.length = 64 ∧ Rep a 75 [(0, .pointer (some ⟨b53, o54, none⟩)), (1, .int .i64 x1), (2, .int .i64 x2), (3, .int .i64 x3), (4, .int .i64 x4), (12, .pointer (some ⟨b84, 0, none⟩)), (38, .int .i64 x1), (39, .int .i64 q106)] ∧ St w s (vecC 116 1 (some ⟨b84, 0, none⟩) 64 64 cs137 :: R)) ?_ ?_
     ·refine W.block ?_
      refine W.loop (fun m a w => ∃ (n128 : Nat), ∃ (q132 : Int), ∃ (q133 : List Int), ∃ (cs137 : List Value), n128 = m ∧ PlanBoundsclosed.loop4 x1 x2 x3 x4 x51 q106 n128 q132 q133 = some q127 ∧ Ev 1 (RI .i64) s cs137 q133 ∧ q133.length = 64 ∧ Rep a 75 [(0, .pointer (some ⟨b53, o54, none⟩)), (1, .int .i64 x1), (2, .int .i64 x2), (3, .int .i64 x3), (4, .int .i64 x4), (12, .pointer (some ⟨b84, 0, none⟩)), (13, .int .i64 q106), (38, .int .i64 x1), (39, .int .i64 q106), (42, .int .i64 x1), (43, .int .i64 q132)] ∧ St w s (vecC 116 1 (some ⟨b84, 0, none⟩) 64 64 cs137 :: R)) (m := fu) ⟨fu, 0, q107, cs111, rfl, hq126, h110, hn112, hE.pick _ ⟨rfl, rfl, rfl, rfl, rfl, rfl, rfl, rfl, rfl, rfl, rfl, trivial⟩, hS⟩ ?_
      clear hE hS a w hq126; rintro m129 a w ⟨n128, q132, q133, cs137, rfl, hq126, h136, hn138, hE, hS⟩
      refine W.gen fun K139 hK139 => ?_
      rcases n128 with _ | n128
      ·rw [PlanBoundsclosed.loop4] at hq126; exact absurd hq126 (by simp)
      rw [PlanBoundsclosed.loop4] at hq126
      refine W.seq (W.region ?_)
      refine WL.vS hS hE (runs_plain rfl) (Gives.p hE rfl) rfl ?_; clear hE a; intro a hE
      refine WL.nil ?_
      refine W.seq ?_
      refine W.cond hE rfl (fun hc140 => ?_) (fun hc140 => ?_)
      ·replace hq126 := iteT hc140 hq126
       refine W.skip ?_
       refine W.seq ?_
       refine W.block ?_
       refine W.seq (W.region ?_)
       refine WL.vS hS hE (runs_plain rfl) (Gives.p hE rfl) rfl ?_; clear hE a; intro a hE
       refine WL.vS hS hE (runs_plain rfl) (Gives.p hE rfl) rfl ?_; clear hE a; intro a hE
       refine WL.nil ?_
       refine W.gen fun K141 hK141 => ?_
       refine W.regionE (sel (fun w => St w s (vecC 116 1 (some ⟨b84, 0, none⟩) 64 64 cs137 :: R)) (fun w => St w s (R))) (fun b i => cond b ([0, 1, 2, 3, 4, 5, 6, 7, 8, 9, 10, 11, 12, 13, 14, 15, 16, 17, 18, 19, 20, 21, 22, 23, 24, 25, 26].contains i) ([0, 1, 2, 3, 4, 5, 6, 7, 8, 9, 10, 11, 12, 13, 14, 15, 16, 17, 18, 19, 20, 21, 22, 23, 24, 25, 26, 27].contains i)) mixed ?_
       replace hS := hS.drew
       refine Rg.takeP (i := 0) hE rfl (by kernel_rfl) (runs_plain rfl) (Gives.p hE rfl) rfl (tw_sel (fun _ => hS) (fun _ => (hS.tail))) ?_; clear hE a; intro a hE
       refine Rg.takeP (i := 1) hE rfl (by kernel_rfl) (runs_plain rfl) (Gives.p hE rfl) rfl (tw_sel (fun _ => hS) (fun _ => (hS.tail))) ?_; clear hE a; intro a hE
       refine Rg.takeP (i := 2) hE rfl (by kernel_rfl) (runs_plain rfl) (Gives.p hE rfl) rfl (tw_sel (fun _ => hS) (fun _ => (hS.tail))) ?_; clear hE a; intro a hE
       refine Rg.takeP (i := 3) hE rfl (by kernel_rfl) (runs_plain rfl) (Gives.p hE rfl) rfl (tw_sel (fun _ => hS) (fun _ => (hS.tail))) ?_; clear hE a; intro a hE
       obtain ⟨_, hx142, hq126⟩ := bindS hq126
       obtain ⟨h143, h144⟩ := bx_some hx142
       refine Rg.takeP (i := 4) hE rfl (by kernel_rfl) (runs_plain rfl) (Gives.idxG hE ((q106).toNat) rfl rfl an116 h143 h144 (hS.vecAok 0 rfl (k := 0) (by decide)) rfl) rfl (tw_sel (fun _ => hS) (fun _ => (hS.tail))) ?_; clear hE a; intro a hE
       obtain ⟨_, hx145, hq126⟩ := bindS hq126
       obtain ⟨h146, h147⟩ := bx_some hx145
       obtain ⟨x148, hx149, hq126⟩ := bindS hq126
       obtain ⟨hi150, hlt151, hy152⟩ := gx_some hx149
       obtain ⟨vs153, hl154, hR155, hd156, hget157⟩ := h136.at hy152
       subst hR155
       refine Rg.takeP (i := 5) hE rfl (by kernel_rfl) (runs_plain rfl) (Gives.idxG hE ((q132).toNat) rfl rfl an81 h146 h147 ⟨_, _, rfl⟩ (by show ao (some ⟨b84, 0, none⟩) + (q106).toNat * 8 + (q132).toNat * 1 = ao (some ⟨b84, 0, none⟩) + ((q106 * 8 + q132)).toNat * 1; omega)) rfl (tw_sel (fun _ => hS) (fun _ => (hS.tail))) ?_; clear hE a; intro a hE
       have hT := tw_sel (A := fun w => St w s (vecC 116 1 (some ⟨b84, 0, none⟩) 64 64 cs137 :: R)) (B := fun w => St w s (R)) (w := _) (x := true) (y := true) (fun _ => hS) (fun _ => (hS.tail))
       have hF := hS; replace hS := hS
       refine Rg.take (i := 6) true rfl hE rfl (by kernel_rfl) (runs_plain rfl) (Gives.load1 hE rfl (fun w h => St.vecSees h 0 rfl (((q106 * 8 + q132)).toNat * 1) _ hget157) ty3) rfl hT ?_; clear hE a; intro a hE
       replace hS := hF; clear hF hT
       refine Rg.takeP (i := 7) hE rfl (by kernel_rfl) (runs_plain rfl) (Gives.p hE rfl) rfl (tw_sel (fun _ => hS) (fun _ => (hS.tail))) ?_; clear hE a; intro a hE
       refine Rg.takeP (i := 8) hE rfl (by kernel_rfl) (runs_plain rfl) (Gives.p hE rfl) rfl (tw_sel (fun _ => hS) (fun _ => (hS.tail))) ?_; clear hE a; intro a hE
       refine Rg.takeP (i := 9) hE rfl (by kernel_rfl) (runs_plain rfl) (Gives.p hE rfl) rfl (tw_sel (fun _ => hS) (fun _ => (hS.tail))) ?_; clear hE a; intro a hE
       have hT := tw_sel (A := fun w => St w s (vecC 116 1 (some ⟨b84, 0, none⟩) 64 64 cs137 :: R)) (B := fun w => St w s (R)) (w := _) (x := true) (y := true) (fun _ => hS) (fun _ => (hS.tail))
       have hF := hS; replace hS := hS
       refine Rg.take (i := 10) true rfl hE rfl (by kernel_rfl) (runs_plain rfl) (Gives.nilOk hE rfl) rfl hT ?_; clear hE a; intro a hE
       replace hS := hF; clear hF hT
       obtain ⟨_, hx158, hq126⟩ := bindS hq126
       obtain ⟨h159, h160⟩ := bx_some hx158
       refine Rg.takeP (i := 11) hE rfl (by kernel_rfl) (runs_plain rfl) (Gives.idxG hE ((q106).toNat) rfl rfl an116 h159 h160 ⟨_, _, rfl⟩ rfl) rfl (tw_sel (fun _ => hS) (fun _ => (hS.tail))) ?_; clear hE a; intro a hE
       obtain ⟨_, hx161, hq126⟩ := bindS hq126
       obtain ⟨h162, h163⟩ := bx_some hx161
       obtain ⟨x164, hx165, hq126⟩ := bindS hq126
       obtain ⟨hi166, hlt167, hy168⟩ := gx_some hx165
       refine Rg.takeP (i := 12) hE rfl (by kernel_rfl) (runs_plain rfl) (Gives.idxG hE ((x2).toNat) rfl rfl an81 h162 h163 ⟨_, _, rfl⟩ (by show ao (some ⟨b53, o54, none⟩) + (q106).toNat * 8 + (x2).toNat * 1 = ao (some ⟨b53, o54, none⟩) + ((q106 * 8 + x2)).toNat; omega)) rfl (tw_sel (fun _ => hS) (fun _ => (hS.tail))) ?_; clear hE a; intro a hE
       have hT := tw_sel (A := fun w => St w s (vecC 116 1 (some ⟨b84, 0, none⟩) 64 64 cs137 :: R)) (B := fun w => St w s (R)) (w := _) (x := true) (y := true) (fun _ => hS) (fun _ => (hS.tail))
       have hF := hS; replace hS := hS
       refine Rg.take (i := 13) true rfl hE rfl (by kernel_rfl) (runs_plain rfl) (Gives.load1 hE rfl (fun w h => Sees.cell1 (hat58 w _ h) hy168) ty3) rfl hT ?_; clear hE a; intro a hE
       replace hS := hF; clear hF hT
       refine Rg.takeP (i := 14) hE rfl (by kernel_rfl) (runs_plain rfl) (Gives.p hE rfl) rfl (tw_sel (fun _ => hS) (fun _ => (hS.tail))) ?_; clear hE a; intro a hE
       refine Rg.takeP (i := 15) hE rfl (by kernel_rfl) (runs_plain rfl) (Gives.p hE rfl) rfl (tw_sel (fun _ => hS) (fun _ => (hS.tail))) ?_; clear hE a; intro a hE
       refine Rg.takeP (i := 16) hE rfl (by kernel_rfl) (runs_plain rfl) (Gives.p hE rfl) rfl (tw_sel (fun _ => hS) (fun _ => (hS.tail))) ?_; clear hE a; intro a hE
       refine Rg.takeP (i := 17) hE rfl (by kernel_rfl) (runs_plain rfl) (Gives.p hE rfl) rfl (tw_sel (fun _ => hS) (fun _ => (hS.tail))) ?_; clear hE a; intro a hE
       refine Rg.takeP (i := 18) hE rfl (by kernel_rfl) (runs_plain rfl) (Gives.p hE rfl) rfl (tw_sel (fun _ => hS) (fun _ => (hS.tail))) ?_; clear hE a; intro a hE
       have hT := tw_sel (A := fun w => St w s (vecC 116 1 (some ⟨b84, 0, none⟩) 64 64 cs137 :: R)) (B := fun w => St w s (R)) (w := _) (x := true) (y := true) (fun _ => hS) (fun _ => (hS.tail))
       have hF := hS; replace hS := hS
       refine Rg.take (i := 19) true rfl hE rfl (by kernel_rfl) (runs_plain rfl) (Gives.nilOk hE rfl) rfl hT ?_; clear hE a; intro a hE
       replace hS := hF; clear hF hT
       obtain ⟨_, hx169, hq126⟩ := bindS hq126
       obtain ⟨h170, h171⟩ := bx_some hx169
       refine Rg.takeP (i := 20) hE rfl (by kernel_rfl) (runs_plain rfl) (Gives.idxG hE ((x3).toNat) rfl rfl an116 h170 h171 ⟨_, _, rfl⟩ rfl) rfl (tw_sel (fun _ => hS) (fun _ => (hS.tail))) ?_; clear hE a; intro a hE
       obtain ⟨_, hx172, hq126⟩ := bindS hq126
       obtain ⟨h173, h174⟩ := bx_some hx172
       obtain ⟨x175, hx176, hq126⟩ := bindS hq126
       obtain ⟨hi177, hlt178, hy179⟩ := gx_some hx176
       refine Rg.takeP (i := 21) hE rfl (by kernel_rfl) (runs_plain rfl) (Gives.idxG hE ((q132).toNat) rfl rfl an81 h173 h174 ⟨_, _, rfl⟩ (by show ao (some ⟨b53, o54, none⟩) + (x3).toNat * 8 + (q132).toNat * 1 = ao (some ⟨b53, o54, none⟩) + ((x3 * 8 + q132)).toNat; omega)) rfl (tw_sel (fun _ => hS) (fun _ => (hS.tail))) ?_; clear hE a; intro a hE
       have hT := tw_sel (A := fun w => St w s (vecC 116 1 (some ⟨b84, 0, none⟩) 64 64 cs137 :: R)) (B := fun w => St w s (R)) (w := _) (x := true) (y := true) (fun _ => hS) (fun _ => (hS.tail))
       have hF := hS; replace hS := hS
       refine Rg.take (i := 22) true rfl hE rfl (by kernel_rfl) (runs_plain rfl) (Gives.load1 hE rfl (fun w h => Sees.cell1 (hat58 w _ h) hy179) ty3) rfl hT ?_; clear hE a; intro a hE
       replace hS := hF; clear hF hT
       refine Rg.takeP (i := 23) hE rfl (by kernel_rfl) (runs_plain rfl) (Gives.p hE rfl) rfl (tw_sel (fun _ => hS) (fun _ => (hS.tail))) ?_; clear hE a; intro a hE
       refine Rg.takeP (i := 24) hE rfl (by kernel_rfl) (runs_plain rfl) (Gives.min2 hE rfl rfl) rfl (tw_sel (fun _ => hS) (fun _ => (hS.tail))) ?_; clear hE a; intro a hE
       obtain ⟨_, hx180, hq126⟩ := bindS hq126
       obtain ⟨h181, h182⟩ := bx_some hx180
       refine Rg.takeP (i := 25) hE rfl (by kernel_rfl) (runs_plain rfl) (Gives.idxG hE ((q106).toNat) rfl rfl an116 h181 h182 (hS.vecAok 0 rfl (k := 0) (by decide)) rfl) rfl (tw_sel (fun _ => hS) (fun _ => (hS.tail))) ?_; clear hE a; intro a hE
       obtain ⟨_, hx183, hq126⟩ := bindS hq126
       obtain ⟨h184, h185⟩ := bx_some hx183
       refine Rg.takeP (i := 26) hE rfl (by kernel_rfl) (runs_plain rfl) (Gives.idxG hE ((q132).toNat) rfl rfl an81 h184 h185 ⟨_, _, rfl⟩ (by show ao (some ⟨b84, 0, none⟩) + (q106).toNat * 8 + (q132).toNat * 1 = ao (some ⟨b84, 0, none⟩) + ((q106 * 8 + q132)).toNat * 1; omega)) rfl (tw_sel (fun _ => hS) (fun _ => (hS.tail))) ?_; clear hE a; intro a hE
       refine Rg.one (i := 27) false true rfl (by kernel_rfl) (by kernel_rfl) (by kernel_rfl) ?_
       obtain ⟨x186, hx187, hq126⟩ := bindS hq126
       refine WL.setD hE hS 0 rfl (runs_plain rfl) rfl rfl (vs := [.int .i64 (mn x148 (w64 ((w64 (x164 + x4)) + x175)))]) rfl ty3 rfl rfl rfl h136 hn138 (sx_some hx187).1 hx187 rfl rfl ?_; clear hE hS a w; intro cs188 a w h189 hn190 hE hS
       refine WL.nil ?_
       refine ⟨⟨fun h => absurd h (by decide), fun _ => (hS.tail)⟩, ?_⟩
       refine Rg.done (by kernel_rfl) ?_
       subst hK141
       refine W.region ?_
       refine WL.vS hS hE (runs_plain rfl) (Gives.p hE rfl) rfl ?_; clear hE a; intro a hE
       refine WL.vS hS hE (runs_plain rfl) (Gives.p hE rfl) rfl ?_; clear hE a; intro a hE
       refine WL.nil ?_
       subst hK139
       exact ⟨n128, Nat.lt_succ_self _, n128, (w64 (q132 + 1)), x186, cs188, rfl, hq126, h189, hn190, hE.pick _ ⟨rfl, rfl, rfl, rfl, rfl, rfl, rfl, rfl, rfl, rfl, rfl, trivial⟩, hS⟩
      ·replace hq126 := iteF hc140 hq126
       subst hK139
       refine W.exit rfl ?_
       exact ⟨q132, q133, cs137, Option.some.inj hq126, h136, hn138, hE.pick _ ⟨rfl, rfl, rfl, rfl, rfl, rfl, rfl, rfl, trivial⟩, hS⟩
     ·clear hE hS a w; rintro a w ⟨q132, q133, cs137, rfl, h136, hn138, hE, hS⟩
      dsimp only at hq100
      refine W.region ?_
      refine WL.vS hS hE (runs_plain rfl) (Gives.p hE rfl) rfl ?_; clear hE a; intro a hE
      refine WL.vS hS hE (runs_plain rfl) (Gives.p hE rfl) rfl ?_; clear hE a; intro a hE
      refine WL.nil ?_
      subst hK113
      exact ⟨n102, Nat.lt_succ_self _, n102, (w64 (q106 + 1)), q133, cs137, rfl, hq100, h136, hn138, hE.pick _ ⟨rfl, rfl, rfl, rfl, rfl, rfl, rfl, rfl, trivial⟩, hS⟩
    ·replace hq100 := iteF hc114 hq100
     subst hK113
     refine W.exit rfl ?_
     exact ⟨q106, q107, cs111, Option.some.inj hq100, h110, hn112, hE.pick _ ⟨rfl, trivial⟩, hS⟩
   ·clear hE hS a w; rintro a w ⟨q106, q107, cs111, rfl, h110, hn112, hE, hS⟩
    dsimp only at hr
    refine W.seq (W.region ?_)
    refine WL.vS hS hE (runs_plain rfl) (Gives.p hE rfl) rfl ?_; clear hE a; intro a hE
    refine WL.vS hS hE (runs_plain rfl) (Gives.p hE rfl) rfl ?_; clear hE a; intro a hE
    refine WL.nil ?_
    refine W.ret ?_
    have hF := hS.fixA 0 rfl h110 hn112 (by decide); clear hS; obtain ⟨s191, hle192, hS, h193⟩ := hF
    refine finG (fn := Try.f87) (rs := [.tmp 10, .tmp 11]) (vs := [_, _]) hE rfl ⟨rfl, rfl, trivial⟩ ?_
    obtain rfl := Option.some.inj hr
    exact ⟨(some ⟨b84, 0, none⟩), s191, rfl, hle192, h193, hS⟩
set_option maxHeartbeats 8000000 in
theorem PlanBoundsbetween_ok {fu : Nat}  {w : World} {s : Sg} {R : List HP} {x0 : Option (List Int)} {a0 : Option Addr} {x1 : Int} {x2 : Int} {x3 : Int} {x4 : Int} {x5 : Int} (hS : St w s (R)) (h0 : Pt 64 (RA .i64 64) s a0 x0) {r : (Option (List Int)) × Bool} (hr : PlanBoundsbetween fu x0 x1 x2 x3 x4 x5 = some r) :
  Calls Try.prog 72 [.pointer a0, .int .i64 x1, .int .i64 x2, .int .i64 x3, .int .i64 x4, .int .i64 x5].toArray w (fun e w => ∃ (a0 : Option Addr) (t : Sg), e = .returned (.tuple #[.pointer a0, .bool r.2]) ∧ s.Le t ∧ Pt 64 (RA .i64 64) t a0 r.1 ∧ St w t (R)) := by
 refine enter Try.func72 rfl rfl rfl fun a hE => ?_
 rw [PlanBoundsbetween] at hr
 refine W.seq (W.region ?_)
 refine WL.vS hS hE (runs_plain rfl) (Gives.p hE rfl) rfl ?_; clear hE a; intro a hE
 refine WL.vS hS hE (runs_plain rfl) (Gives.p hE rfl) rfl ?_; clear hE a; intro a hE
 refine WL.nil ?_
 refine W.seq (W.region ?_)
 refine WL.vS hS hE (runs_plain rfl) (Gives.p hE rfl) rfl ?_; clear hE a; intro a hE
 refine WL.vS hS hE (runs_plain rfl) (Gives.p hE rfl) rfl ?_; clear hE a; intro a hE
 refine WL.vS hS hE (runs_plain rfl) (Gives.p hE rfl) rfl ?_; clear hE a; intro a hE
 refine WL.vS hS hE (runs_plain rfl) (Gives.p hE rfl) rfl ?_; clear hE a; intro a hE
 refine WL.vS hS hE (runs_plain rfl) (Gives.p hE rfl) rfl ?_; clear hE a; intro a hE
 obtain ⟨q51, hq52, hr⟩ := bindS hr
 have hc_ := PlanBoundsclosed_ok hS h0 hq52
 refine WL.fnq hE (hc_) (runs_plain rfl) bd87 rfl rfl rfl ?_
 clear hE hS hc_; rintro e w ⟨a53, s55, rfl, hle56, h54, hS⟩; refine ⟨_, rfl, ?_⟩; clear a; intro a hE
 replace h0 := Pt.mono RA.mono hle56 h0
 refine WL.vS hS hE (runs_plain rfl) (Gives.p hE rfl) rfl ?_; clear hE a; intro a hE
 refine WL.vS hS hE (runs_plain rfl) (Gives.p hE rfl) rfl ?_; clear hE a; intro a hE
 refine WL.vS hS hE (runs_plain rfl) (Gives.p hE rfl) rfl ?_; clear hE a; intro a hE
 refine WL.vS hS hE (runs_plain rfl) (Gives.p hE rfl) rfl ?_; clear hE a; intro a hE
 refine WL.vS hS hE (runs_plain rfl) (Gives.p hE rfl) rfl ?_; clear hE a; intro a hE
 refine WL.nil ?_
 refine W.seq ?_
 refine W.seq (W.region ?_)
 refine WL.vS hS hE (runs_plain rfl) (Gives.p hE rfl) rfl ?_; clear hE a; intro a hE
 refine WL.vS hS hE (runs_plain rfl) (Gives.p hE rfl) rfl ?_; clear hE a; intro a hE
 refine WL.nil ?_
 refine W.cond hE rfl (fun hc57 => ?_) (fun hc57 => ?_)
 ·replace hr := iteT hc57 hr
  refine W.seq (W.region ?_)
  refine WL.vS hS hE (runs_plain rfl) (Gives.p hE rfl) rfl ?_; clear hE a; intro a hE
  refine WL.vS hS hE (runs_plain rfl) (Gives.p hE rfl) rfl ?_; clear hE a; intro a hE
  refine WL.nil ?_
  refine W.ret ?_
  refine finG (fn := Try.f72) (rs := [.tmp 12, .tmp 13]) (vs := [_, _]) hE rfl ⟨rfl, rfl, trivial⟩ ?_
  obtain rfl := Option.some.inj hr
  exact ⟨none, s55, rfl, hle56, Pt.nil, hS⟩
 ·replace hr := iteF hc57 hr
  refine W.skip ?_
  refine W.seq (W.region ?_)
  refine WL.vS hS hE (runs_plain rfl) (Gives.p hE rfl) rfl ?_; clear hE a; intro a hE
  refine WL.vS hS hE (runs_plain rfl) (Gives.p hE rfl) rfl ?_; clear hE a; intro a hE
  refine WL.vS hS hE (runs_plain rfl) (Gives.p hE rfl) rfl ?_; clear hE a; intro a hE
  refine WL.vS hS hE (runs_plain rfl) (Gives.p hE rfl) rfl ?_; clear hE a; intro a hE
  refine WL.vS hS hE (runs_plain rfl) (Gives.p hE rfl) rfl ?_; clear hE a; intro a hE
  refine WL.vS hS hE (runs_plain rfl) (Gives.p hE rfl) rfl ?_; clear hE a; intro a hE
  obtain ⟨q58, hq59, hr⟩ := bindS hr
  have hc_ := PlanBoundsclosed_ok hS h54 hq59
  refine WL.fnq hE (hc_) (runs_plain rfl) bd87 rfl rfl rfl ?_
  clear hE hS hc_; rintro e w ⟨a60, s62, rfl, hle63, h61, hS⟩; refine ⟨_, rfl, ?_⟩; clear a; intro a hE
  replace h0 := Pt.mono RA.mono hle63 h0
  replace h54 := Pt.mono RA.mono hle63 h54
  refine WL.vS hS hE (runs_plain rfl) (Gives.p hE rfl) rfl ?_; clear hE a; intro a hE
  refine WL.vS hS hE (runs_plain rfl) (Gives.p hE rfl) rfl ?_; clear hE a; intro a hE
  refine WL.vS hS hE (runs_plain rfl) (Gives.p hE rfl) rfl ?_; clear hE a; intro a hE
  refine WL.vS hS hE (runs_plain rfl) (Gives.p hE rfl) rfl ?_; clear hE a; intro a hE
  refine WL.nil ?_
  refine W.ret ?_
  refine finG (fn := Try.f72) (rs := [.tmp 12, .tmp 13]) (vs := [_, _]) hE rfl ⟨rfl, rfl, trivial⟩ ?_
  obtain rfl := Option.some.inj hr
  exact ⟨a60, s62, rfl, (Sg.Le.trans hle56 hle63), h61, hS⟩
set_option maxHeartbeats 8000000 in
theorem PlanSearchrun_v1_ok : ∀ {fu : Nat} {w : World} {s : Sg} {R : List HP} {pb0 : Nat} {pb1 : Nat} {pb2 : Nat} {x1 : Option (List Int)} {a1 : Option Addr} {y0_0 : Int} {y0_1 : Int} {y0_2 : List PlanRule} {a_y0_2 : Option Addr} {c_y0_2 : Nat} {y0_5 : List Int} {a_v0 : Option Addr} {c_v0 n_v0 : Nat} {cs_v0 : List Value} {y0_6 : List Bool} {a_v1 : Option Addr} {c_v1 n_v1 : Nat} {cs_v1 : List Value} {y1 : Int} {y2 : Int} (_hS : St w s (pt pb0 (.cells #[.int .i64 y0_0, .int .i64 y0_1, .slice a_y0_2 y0_2.length c_y0_2, .func (.func 71) #[] #[.pointer (some ⟨pb1, 0, none⟩), .pointer (some ⟨pb2, 0, none⟩)], .func (.func 70) #[] #[.pointer (some ⟨pb1, 0, none⟩), .pointer (some ⟨pb2, 0, none⟩)], .slice a_v0 n_v0 c_v0, .slice a_v1 n_v1 c_v1] 80 (0, 0)) :: pt pb1 (.cells #[.int .i64 y1] 3 (0, 0)) :: pt pb2 (.cells #[.int .i64 y2] 3 (0, 0)) :: vecC 3 1 a_v0 c_v0 n_v0 cs_v0 :: vecC 4 1 a_v1 c_v1 n_v1 cs_v1 :: R)) (_h1 : Pt 64 (RA .i64 64) s a1 x1) (_h_y0_2 : Sl 5 RPlanRule s a_y0_2 c_y0_2 y0_2) (_h_v0 : Ev 1 (RI .i64) s cs_v0 y0_5) (_hn_v0 : y0_5.length = n_v0) (_h_v1 : Ev 1 RB s cs_v1 y0_6) (_hn_v1 : y0_6.length = n_v1) {r : (List Int) × (List Bool) × Int} (_hr : PlanSearchrun_v1 fu x1 y0_0 y0_1 y0_2 y0_5 y0_6 y1 y2 = some r),
  Calls Try.prog 54 [.pointer (some ⟨pb0, 0, none⟩), .pointer a1].toArray w (fun e w => ∃ (cs68 : List Value) (cs74 : List Value) (t : Sg), e = .returned (.tuple #[]) ∧ s.Le t ∧ Ev 1 (RI .i64) t cs68 r.1 ∧ r.1.length = n_v0 ∧ Ev 1 RB t cs74 r.2.1 ∧ r.2.1.length = n_v1 ∧ St w t (pt pb0 (.cells #[.int .i64 y0_0, .int .i64 y0_1, .slice a_y0_2 y0_2.length c_y0_2, .func (.func 71) #[] #[.pointer (some ⟨pb1, 0, none⟩), .pointer (some ⟨pb2, 0, none⟩)], .func (.func 70) #[] #[.pointer (some ⟨pb1, 0, none⟩), .pointer (some ⟨pb2, 0, none⟩)], .slice a_v0 n_v0 c_v0, .slice a_v1 n_v1 c_v1] 80 (0, 0)) :: pt pb1 (.cells #[.int .i64 y1] 3 (0, 0)) :: pt pb2 (.cells #[.int .i64 r.2.2] 3 (0, 0)) :: vecC 3 1 a_v0 c_v0 n_v0 cs68 :: vecC 4 1 a_v1 c_v1 n_v1 cs74 :: R)) := by
 intro fu
 induction fu with
 | zero => intro w s R pb0 pb1 pb2 x1 a1 y0_0 y0_1 y0_2 a_y0_2 c_y0_2 y0_5 a_v0 c_v0 n_v0 cs_v0 y0_6 a_v1 c_v1 n_v1 cs_v1 y1 y2 hS h1 h_y0_2 h_v0 hn_v0 h_v1 hn_v1 r hr; rw [PlanSearchrun_v1] at hr; exact absurd hr (by simp)
 | succ fu ih_PlanSearchrun_v1 =>
  intro w s R pb0 pb1 pb2 x1 a1 y0_0 y0_1 y0_2 a_y0_2 c_y0_2 y0_5 a_v0 c_v0 n_v0 cs_v0 y0_6 a_v1 c_v1 n_v1 cs_v1 y1 y2 hS h1 h_y0_2 h_v0 hn_v0 h_v1 hn_v1 r hr
  rw [PlanSearchrun_v1] at hr
  generalize PlanSearchrun_v1 fu = self_PlanSearchrun_v1 at hr ih_PlanSearchrun_v1
  refine enter Try.func54 rfl rfl rfl fun a hE => ?_
  subst hn_v0
  subst hn_v1
  refine W.seq ?_
  refine W.seq (W.region ?_)
  refine WL.vS hS hE (runs_plain rfl) (Gives.p hE rfl) rfl ?_; clear hE a; intro a hE
  refine WL.vS hS hE (runs_plain rfl) (Gives.nilOk hE rfl) rfl ?_; clear hE a; intro a hE
  refine WL.vS hS hE (runs_plain rfl) (Gives.fld hE rfl fl80_2) rfl ?_; clear hE a; intro a hE
  refine WL.vS hS hE (runs_plain rfl) (Gives.loadB hE 0 rfl rfl rfl ty78) rfl ?_; clear hE a; intro a hE
  refine WL.vS hS hE (runs_plain rfl) (Gives.p hE rfl) rfl ?_; clear hE a; intro a hE
  obtain ⟨q77, hq78, hr⟩ := bindS hr
  replace hS := hS.front 2 rfl
  replace hS := hS.front 2 rfl
  have hc_ := Plansolve_1_v1_ok hS h1 hq78
  refine WL.fnw hE (hc_) rfl (runs_plain rfl) bd70 rfl rfl rfl ?_
  clear hE hS hc_; rintro e w ⟨rfl, hS⟩; refine ⟨_, rfl, ?_⟩; clear a; intro a hE
  refine WL.nil ?_
  refine W.cond hE rfl (fun hc79 => ?_) (fun hc79 => ?_)
  ·replace hr := iteT hc79 hr
   refine W.ret ?_
   refine finG (fn := Try.f54) (rs := []) (vs := []) hE rfl trivial ?_
   obtain rfl := Option.some.inj hr
   replace hS := hS.front 4 rfl
   replace hS := hS.front 4 rfl
   replace hS := hS.front 3 rfl
   replace hS := hS.front 3 rfl
   replace hS := hS.front 4 rfl
   exact ⟨cs_v0, cs_v1, s, rfl, (Sg.Le.refl _), h_v0, (rfl), h_v1, (rfl), hS⟩
  ·replace hr := iteF hc79 hr
   refine W.skip ?_
   refine W.seq (W.region ?_)
   refine WL.vS hS hE (runs_plain rfl) (Gives.p hE rfl) rfl ?_; clear hE a; intro a hE
   refine WL.vS hS hE (runs_plain rfl) (Gives.p hE rfl) rfl ?_; clear hE a; intro a hE
   refine WL.nil ?_
   refine W.seq ?_
   refine W.seq (W.region ?_)
   refine WL.vS hS hE (runs_plain rfl) (Gives.p hE rfl) rfl ?_; clear hE a; intro a hE
   refine WL.vS hS hE (runs_plain rfl) (Gives.nilOk hE rfl) rfl ?_; clear hE a; intro a hE
   refine WL.vS hS hE (runs_plain rfl) (Gives.fld hE rfl fl80_0) rfl ?_; clear hE a; intro a hE
   refine WL.vS hS hE (runs_plain rfl) (Gives.fld hE rfl fl24_2) rfl ?_; clear hE a; intro a hE
   refine WL.vS hS hE (runs_plain rfl) (Gives.loadB hE 2 rfl rfl rfl ty22) rfl ?_; clear hE a; intro a hE
   refine WL.vS hS hE (runs_plain rfl) (Gives.len hE rfl sl22) rfl ?_; clear hE a; intro a hE
   refine WL.vS hS hE (runs_plain rfl) (Gives.p hE rfl) rfl ?_; clear hE a; intro a hE
   refine WL.nil ?_
   obtain ⟨q81, hq80, hr⟩ := bindS hr
   refine W.cut (fun a w => ∃ (q91 : Int), ∃ (q92 : List Int), ∃ (q96 : Int), ∃ (a93 : Option Addr), ∃ (c94 : Nat), ∃ (s89 : Sg), s.Le s89 ∧ (.next (q91, q92, q96)) = q81 ∧ Sl 1 (RI .i64) s89 a93 c94 q92 ∧ Rep a 142 [(0, .pointer (some ⟨pb0, 0, none⟩)), (1, .pointer a1), (4, .int .i64 q91), (5, .slice a93 q92.length c94)] ∧ St w s89 (pt pb1 (.cells #[.int .i64 y1] 3 (0, 0)) :: pt pb2 (.cells #[.int .i64 q96] 3 (0, 0)) :: pt pb0 (.cells #[.int .i64 y0_0, .int .i64 y0_1, .slice a_y0_2 y0_2.length c_y0_2, .func (.func 71) #[] #[.pointer (some ⟨pb1, 0, none⟩), .pointer (some ⟨pb2, 0, none⟩)], .func (.func 70) #[] #[.pointer (some ⟨pb1, 0, none⟩), .pointer (some ⟨pb2, 0, none⟩)], .slice a_v0 y0_5.length c_v0, .slice a_v1 y0_6.length c_v1] 80 (0, 0)) :: vecC 3 1 a_v0 c_v0 y0_5.length cs_v0 :: vecC 4 1 a_v1 c_v1 y0_6.length cs_v1 :: R)) ?_ ?_
   ·refine W.block ?_
    refine W.loop (fun m a w => ∃ (rest84 : List PlanRule) (k82 : Nat), ∃ (q91 : Int), ∃ (q92 : List Int), ∃ (q96 : Int), ∃ (a93 : Option Addr), ∃ (c94 : Nat), ∃ (s89 : Sg), rest84.length = m ∧ y0_2.drop k82 = rest84 ∧ s.Le s89 ∧ PlanSearchrun_v1.loop1 x1 y0_0 y0_1 y0_2 y0_5 y0_6 y1 fu rest84 k82 q91 q92 q96 = some q81 ∧ Sl 1 (RI .i64) s89 a93 c94 q92 ∧ Rep a 142 [(0, .pointer (some ⟨pb0, 0, none⟩)), (1, .pointer a1), (4, .int .i64 q91), (5, .slice a93 q92.length c94), (24, .slice a_y0_2 y0_2.length c_y0_2), (25, .int .i64 ((y0_2).length : Int)), (26, .int .i64 ((k82 : Nat) : Int))] ∧ St w s89 (pt pb1 (.cells #[.int .i64 y1] 3 (0, 0)) :: pt pb2 (.cells #[.int .i64 q96] 3 (0, 0)) :: pt pb0 (.cells #[.int .i64 y0_0, .int .i64 y0_1, .slice a_y0_2 y0_2.length c_y0_2, .func (.func 71) #[] #[.pointer (some ⟨pb1, 0, none⟩), .pointer (some ⟨pb2, 0, none⟩)], .func (.func 70) #[] #[.pointer (some ⟨pb1, 0, none⟩), .pointer (some ⟨pb2, 0, none⟩)], .slice a_v0 y0_5.length c_v0, .slice a_v1 y0_6.length c_v1] 80 (0, 0)) :: vecC 3 1 a_v0 c_v0 y0_5.length cs_v0 :: vecC 4 1 a_v1 c_v1 y0_6.length cs_v1 :: R)) (m := y0_2.length) ⟨y0_2, 0, (-1), [], y2, none, 0, s, rfl, rfl, (Sg.Le.refl _), hq80, Sl.nil, hE.pick _ ⟨rfl, rfl, rfl, rfl, rfl, rfl, rfl, trivial⟩, hS⟩ ?_
    clear hE hS a w hq80; rintro m88 a w ⟨rest84, k82, q91, q92, q96, a93, c94, s89, rfl, hd85, hle90, hq80, h95, hE, hS⟩
    refine W.gen fun K97 hK97 => ?_
    replace h1 := Pt.mono RA.mono hle90 h1
    replace h_y0_2 := Sl.mono RPlanRule.mono hle90 h_y0_2
    replace h_v0 := Ev.mono RI.mono hle90 h_v0
    replace h_v1 := Ev.mono RB.mono hle90 h_v1
    rcases rest84 with _ | ⟨x83, rest84⟩
    ·have hlt86 := drop_nil hd85
     refine W.seq (W.region ?_)
     refine WL.vS hS hE (runs_plain rfl) (Gives.p hE rfl) rfl ?_; clear hE a; intro a hE
     refine WL.nil ?_
     refine W.seq ?_
     refine W.condF hE rfl (decide_eq_false (by omega)) ?_
     subst hK97
     refine W.exit rfl ?_
     exact ⟨q91, q92, q96, a93, c94, s89, hle90, Option.some.inj hq80, h95, hE.pick _ ⟨rfl, rfl, rfl, rfl, trivial⟩, hS⟩
    ·obtain ⟨hlt86, hx87, hd85⟩ := drop_cons hd85
     rw [PlanSearchrun_v1.loop1] at hq80
     refine W.seq (W.region ?_)
     refine WL.vS hS hE (runs_plain rfl) (Gives.p hE rfl) rfl ?_; clear hE a; intro a hE
     refine WL.nil ?_
     refine W.seq ?_
     refine W.condT hE rfl (decide_eq_true (by omega)) ?_
     refine W.skip ?_
     refine W.seq ?_
     refine W.block ?_
     refine W.seq (W.region ?_)
     refine WL.vS hS hE (runs_plain rfl) (Gives.p hE rfl) rfl ?_; clear hE a; intro a hE
     obtain ⟨cs98, hl99, hR100, hat101⟩ := h_y0_2.at hx87
     subst hR100
     refine WL.vS hS hE (runs_plain rfl) (Gives.idx hE k82 rfl rfl sl22 rfl hlt86 (h_y0_2.aok hlt86)) rfl ?_; clear hE a; intro a hE
     refine WL.vS hS hE (runs_plain rfl) (Gives.loadA hE rfl (fun w h => hat101 w _ h) ty37) rfl ?_; clear hE a; intro a hE
     refine WL.alloc hE hS (runs_plain rfl) zr37 rfl ?_; clear hE hS a w; intro b102 a w hE hS
     refine WL.vS hS hE (runs_plain rfl) (Gives.p hE rfl) rfl ?_; clear hE a; intro a hE
     refine WL.storeI hE hS 0 rfl (PlanRule.cells x83) (runs_plain rfl) rfl rfl rfl ty37 rfl rfl rfl rfl ?_; clear hE hS a w; intro a w hE hS
     refine WL.nil ?_
     refine W.seq ?_
     refine W.seq (W.region ?_)
     refine WL.vS hS hE (runs_plain rfl) (Gives.p hE rfl) rfl ?_; clear hE a; intro a hE
     refine WL.vS hS hE (runs_plain rfl) (Gives.nilOk hE rfl) rfl ?_; clear hE a; intro a hE
     refine WL.vS hS hE (runs_plain rfl) (Gives.fld hE rfl fl80_4) rfl ?_; clear hE a; intro a hE
     refine WL.vS hS hE (runs_plain rfl) (Gives.loadB hE 3 rfl rfl rfl ty71) rfl ?_; clear hE a; intro a hE
     refine WL.vS hS hE (runs_plain rfl) (Gives.p hE rfl) rfl ?_; clear hE a; intro a hE
     obtain ⟨x103, hx104, hq80⟩ := bindS hq80
     obtain ⟨hi105, hlt106, hy107⟩ := gx_some hx104
     obtain ⟨vs108, hl109, hR110, hd111, hget112⟩ := h_v1.at hy107
     subst hR110
     refine WL.vS hS hE (runs_plain rfl) (Gives.idx hE ((((k82 : Nat) : Int)).toNat) rfl rfl sl71 hi105 (by omega) (hS.vecAok 5 rfl (by omega : (((k82 : Nat) : Int)).toNat < y0_6.length))) rfl ?_; clear hE a; intro a hE
     refine WL.vS hS hE (runs_plain rfl) (Gives.load1 hE rfl (fun w h => St.vecSees h 5 rfl ((((k82 : Nat) : Int)).toNat * 1) _ hget112) ty4) rfl ?_; clear hE a; intro a hE
     refine WL.vS hS hE (runs_plain rfl) (Gives.p hE rfl) rfl ?_; clear hE a; intro a hE
     refine WL.nil ?_
     refine W.cond hE rfl (fun hc113 => ?_) (fun hc113 => ?_)
     ·replace hq80 := iteT hc113 hq80
      refine W.exit rfl ?_
      refine W.region ?_
      refine WL.vS hS hE (runs_plain rfl) (Gives.inc hE rfl (by have := h_y0_2.small; omega)) rfl ?_; clear hE a; intro a hE
      refine WL.vS hS hE (runs_plain rfl) (Gives.p hE rfl) rfl ?_; clear hE a; intro a hE
      refine WL.nil ?_
      replace hS := hS.tail
      subst hK97
      exact ⟨rest84.length, Nat.lt_succ_self _, rest84, k82 + 1, q91, q92, q96, a93, c94, s89, rfl, hd85, hle90, hq80, h95, hE.pick _ ⟨rfl, rfl, rfl, rfl, rfl, rfl, rfl, trivial⟩, hS⟩
     ·replace hq80 := iteF hc113 hq80
      refine W.skip ?_
      refine W.seq (W.region ?_)
      refine WL.vS hS hE (runs_plain rfl) (Gives.p hE rfl) rfl ?_; clear hE a; intro a hE
      refine WL.vS hS hE (runs_plain rfl) (Gives.p hE rfl) rfl ?_; clear hE a; intro a hE
      refine WL.vS hS hE (runs_plain rfl) (Gives.loadBA hE 0 rfl rfl ty37) rfl ?_; clear hE a; intro a hE
      obtain ⟨q114, hq115, hq80⟩ := bindS hq80
      replace hS := hS.front 5 rfl
      replace hS := hS.front 5 rfl
      replace hS := hS.front 4 rfl
      replace hS := hS.front 4 rfl
      replace hS := hS.front 5 rfl
      have hc_ := PlanSearchchoices_v1_ok hS h1 h_y0_2 h_v0 (rfl) h_v1 (rfl) hq115
      refine WL.fnq hE (hc_) (runs_plain rfl) bd82 rfl rfl rfl ?_
      clear hE hS hc_; rintro e w ⟨a116, c117, n118, cs119, rfl, h120, rfl, hS⟩; refine ⟨_, rfl, ?_⟩; clear a; intro a hE
      refine WL.vS hS hE (runs_plain rfl) (Gives.p hE rfl) rfl ?_; clear hE a; intro a hE
      refine WL.nil ?_
      refine W.seq ?_
      refine W.seq ?_
      obtain ⟨q123, hq122, hq80⟩ := bndS hq80
      refine W.cut (fun a w => ∃ (q126 : Bool), q126 = q123 ∧ Rep a 142 [(0, .pointer (some ⟨pb0, 0, none⟩)), (1, .pointer a1), (4, .int .i64 q91), (5, .slice a93 q92.length c94), (6, .int .i64 ((k82 : Nat) : Int)), (8, .slice a116 q114.length c117), (24, .slice a_y0_2 y0_2.length c_y0_2), (25, .int .i64 ((y0_2).length : Int)), (26, .int .i64 ((k82 : Nat) : Int)), (51, .bool q126)] ∧ St w s89 (vecC 3 1 a116 c117 q114.length cs119 :: pt pb0 (.cells #[.int .i64 y0_0, .int .i64 y0_1, .slice a_y0_2 y0_2.length c_y0_2, .func (.func 71) #[] #[.pointer (some ⟨pb1, 0, none⟩), .pointer (some ⟨pb2, 0, none⟩)], .func (.func 70) #[] #[.pointer (some ⟨pb1, 0, none⟩), .pointer (some ⟨pb2, 0, none⟩)], .slice a_v0 y0_5.length c_v0, .slice a_v1 y0_6.length c_v1] 80 (0, 0)) :: pt pb1 (.cells #[.int .i64 y1] 3 (0, 0)) :: pt pb2 (.cells #[.int .i64 q96] 3 (0, 0)) :: vecC 3 1 a_v0 c_v0 y0_5.length cs_v0 :: vecC 4 1 a_v1 c_v1 y0_6.length cs_v1 :: pt b102 (.cells (PlanRule.cells x83).toArray 37 (0, 0)) :: R)) ?_ ?_
      ·refine W.gen fun K127 hK127 => ?_
       refine W.region ?_
       refine WL.vS hS hE (runs_plain rfl) (Gives.p hE rfl) rfl ?_; clear hE a; intro a hE
       refine WL.vS hS hE (runs_plain rfl) (Gives.p hE rfl) rfl ?_; clear hE a; intro a hE
       refine WL.vS hS hE (runs_plain rfl) (Gives.p hE rfl) rfl ?_; clear hE a; intro a hE
       rcases Bool.eq_false_or_eq_true (decide (q91 < 0)) with hg128 | hg128
       ·replace hq122 := iteT hg128 hq122
        refine WL.no hE (runs_not hE rfl rfl rfl (by rw [hg128]; decide)) rfl ?_; clear hE a; intro a hE
        refine WL.no hE (runs_not hE rfl rfl rfl (by rw [hg128]; decide)) rfl ?_; clear hE a; intro a hE
        refine WL.no hE (runs_not hE rfl rfl rfl (by rw [hg128]; decide)) rfl ?_; clear hE a; intro a hE
        refine WL.no hE (runs_not hE rfl rfl rfl (by rw [hg128]; decide)) rfl ?_; clear hE a; intro a hE
        refine WL.no hE (runs_not hE rfl rfl rfl (by rw [hg128]; decide)) rfl ?_; clear hE a; intro a hE
        refine WL.vS hS hE (runs_plain rfl) (Gives.pickT hE rfl hg128 rfl) rfl ?_; clear hE a; intro a hE
        refine WL.nil ?_
        subst hK127
        exact ⟨true, hq122, hE.pick _ ⟨rfl, rfl, rfl, rfl, rfl, rfl, rfl, rfl, rfl, rfl, trivial⟩, hS⟩
       ·replace hq122 := iteF hg128 hq122
        refine WL.vS hS hE (runs_if hE rfl rfl rfl hg128) (Gives.p hE rfl) rfl ?_; clear hE a; intro a hE
        refine WL.vS hS hE (runs_if hE rfl rfl rfl hg128) (Gives.len hE rfl sl29) rfl ?_; clear hE a; intro a hE
        refine WL.vS hS hE (runs_if hE rfl rfl rfl hg128) (Gives.p hE rfl) rfl ?_; clear hE a; intro a hE
        refine WL.vS hS hE (runs_if hE rfl rfl rfl hg128) (Gives.len hE rfl sl29) rfl ?_; clear hE a; intro a hE
        refine WL.vS hS hE (runs_if hE rfl rfl rfl hg128) (Gives.p hE rfl) rfl ?_; clear hE a; intro a hE
        refine WL.vS hS hE (runs_plain rfl) (Gives.pickF hE rfl hg128 rfl) rfl ?_; clear hE a; intro a hE
        refine WL.nil ?_
        subst hK127
        exact ⟨decide (((q114.length : Nat) : Int) < ((q92).length : Int)), hq122, hE.pick _ ⟨rfl, rfl, rfl, rfl, rfl, rfl, rfl, rfl, rfl, rfl, trivial⟩, hS⟩
      ·clear hE hS a w; rintro a w ⟨q126, rfl, hE, hS⟩
       have hF := hS.fixD RI.mono 0 rfl h120 rfl; clear hS; obtain ⟨s129, hle130, hS, h131⟩ := hF
       replace h1 := Pt.mono RA.mono hle130 h1
       replace h95 := Sl.mono RI.mono hle130 h95
       replace h_y0_2 := Sl.mono RPlanRule.mono hle130 h_y0_2
       replace h_v0 := Ev.mono RI.mono hle130 h_v0
       replace h_v1 := Ev.mono RB.mono hle130 h_v1
       obtain ⟨q133, hq132, hq80⟩ := bndS hq80
       refine W.cut (fun a w => ∃ (q136 : Int), ∃ (q137 : List Int), ∃ (a138 : Option Addr), ∃ (c139 : Nat), (q136, q137) = q133 ∧ Sl 1 (RI .i64) s129 a138 c139 q137 ∧ Rep a 142 [(0, .pointer (some ⟨pb0, 0, none⟩)), (1, .pointer a1), (4, .int .i64 q136), (5, .slice a138 q137.length c139), (8, .slice a116 q114.length c117), (24, .slice a_y0_2 y0_2.length c_y0_2), (25, .int .i64 ((y0_2).length : Int)), (26, .int .i64 ((k82 : Nat) : Int))] ∧ St w s129 (pt pb0 (.cells #[.int .i64 y0_0, .int .i64 y0_1, .slice a_y0_2 y0_2.length c_y0_2, .func (.func 71) #[] #[.pointer (some ⟨pb1, 0, none⟩), .pointer (some ⟨pb2, 0, none⟩)], .func (.func 70) #[] #[.pointer (some ⟨pb1, 0, none⟩), .pointer (some ⟨pb2, 0, none⟩)], .slice a_v0 y0_5.length c_v0, .slice a_v1 y0_6.length c_v1] 80 (0, 0)) :: pt pb1 (.cells #[.int .i64 y1] 3 (0, 0)) :: pt pb2 (.cells #[.int .i64 q96] 3 (0, 0)) :: vecC 3 1 a_v0 c_v0 y0_5.length cs_v0 :: vecC 4 1 a_v1 c_v1 y0_6.length cs_v1 :: pt b102 (.cells (PlanRule.cells x83).toArray 37 (0, 0)) :: R)) ?_ ?_
       ·refine W.gen fun K141 hK141 => ?_
        refine W.cond hE rfl (fun hc142 => ?_) (fun hc142 => ?_)
        ·replace hq132 := iteT hc142 hq132
         refine W.region ?_
         refine WL.vS hS hE (runs_plain rfl) (Gives.p hE rfl) rfl ?_; clear hE a; intro a hE
         refine WL.vS hS hE (runs_plain rfl) (Gives.p hE rfl) rfl ?_; clear hE a; intro a hE
         refine WL.vS hS hE (runs_plain rfl) (Gives.p hE rfl) rfl ?_; clear hE a; intro a hE
         refine WL.vS hS hE (runs_plain rfl) (Gives.p hE rfl) rfl ?_; clear hE a; intro a hE
         refine WL.nil ?_
         subst hK141
         exact ⟨((k82 : Nat) : Int), q114, a116, c117, hq132, h131, hE.pick _ ⟨rfl, rfl, rfl, rfl, rfl, rfl, rfl, rfl, trivial⟩, hS⟩
        ·replace hq132 := iteF hc142 hq132
         refine W.skip ?_
         subst hK141
         exact ⟨q91, q92, a93, c94, hq132, h95, hE.pick _ ⟨rfl, rfl, rfl, rfl, rfl, rfl, rfl, rfl, trivial⟩, hS⟩
       ·clear hE hS a w; rintro a w ⟨q136, q137, a138, c139, rfl, h140, hE, hS⟩
        dsimp only at hq80
        refine W.seq (W.region ?_)
        refine WL.vS hS hE (runs_plain rfl) (Gives.p hE rfl) rfl ?_; clear hE a; intro a hE
        refine WL.vS hS hE (runs_plain rfl) (Gives.len hE rfl sl29) rfl ?_; clear hE a; intro a hE
        refine WL.vS hS hE (runs_plain rfl) (Gives.p hE rfl) rfl ?_; clear hE a; intro a hE
        refine WL.nil ?_
        refine W.cond hE rfl (fun hc143 => ?_) (fun hc143 => ?_)
        ·replace hq80 := iteT hc143 hq80
         refine W.ret ?_
         subst hK97
         rw [← Option.some.inj hq80] at hr
         dsimp only at hr
         refine finG (fn := Try.f54) (rs := []) (vs := []) hE rfl trivial ?_
         obtain rfl := Option.some.inj hr
         replace hS := hS.dropAt 5
         exact ⟨cs_v0, cs_v1, s129, rfl, (Sg.Le.trans hle90 hle130), h_v0, (rfl), h_v1, (rfl), hS⟩
        ·replace hq80 := iteF hc143 hq80
         refine W.skip ?_
         refine W.region ?_
         refine WL.vS hS hE (runs_plain rfl) (Gives.inc hE rfl (by have := h_y0_2.small; omega)) rfl ?_; clear hE a; intro a hE
         refine WL.vS hS hE (runs_plain rfl) (Gives.p hE rfl) rfl ?_; clear hE a; intro a hE
         refine WL.nil ?_
         replace hS := hS.dropAt 5
         replace hS := hS.front 4 rfl
         replace hS := hS.front 4 rfl
         replace hS := hS.front 2 rfl
         replace hS := hS.front 4 rfl
         replace hS := hS.front 4 rfl
         subst hK97
         exact ⟨rest84.length, Nat.lt_succ_self _, rest84, k82 + 1, q136, q137, q96, a138, c139, s129, rfl, hd85, (Sg.Le.trans hle90 hle130), hq80, h140, hE.pick _ ⟨rfl, rfl, rfl, rfl, rfl, rfl, rfl, trivial⟩, hS⟩
   ·clear hE hS a w; rintro a w ⟨q91, q92, q96, a93, c94, s89, hle90, rfl, h95, hE, hS⟩
    dsimp only at hr
    replace h1 := Pt.mono RA.mono hle90 h1
    replace h_y0_2 := Sl.mono RPlanRule.mono hle90 h_y0_2
    replace h_v0 := Ev.mono RI.mono hle90 h_v0
    replace h_v1 := Ev.mono RB.mono hle90 h_v1
    refine W.seq ?_
    refine W.seq (W.region ?_)
    refine WL.vS hS hE (runs_plain rfl) (Gives.p hE rfl) rfl ?_; clear hE a; intro a hE
    refine WL.vS hS hE (runs_plain rfl) (Gives.p hE rfl) rfl ?_; clear hE a; intro a hE
    refine WL.nil ?_
    refine W.cond hE rfl (fun hc144 => ?_) (fun hc144 => ?_)
    ·replace hr := iteT hc144 hr
     refine W.seq ?_
     refine W.gen fun K145 hK145 => ?_
     refine W.regionE (sel (fun w => St w s89 (pt pb1 (.cells #[.int .i64 y1] 3 (0, 0)) :: pt pb2 (.cells #[.int .i64 q96] 3 (0, 0)) :: pt pb0 (.cells #[.int .i64 y0_0, .int .i64 y0_1, .slice a_y0_2 y0_2.length c_y0_2, .func (.func 71) #[] #[.pointer (some ⟨pb1, 0, none⟩), .pointer (some ⟨pb2, 0, none⟩)], .func (.func 70) #[] #[.pointer (some ⟨pb1, 0, none⟩), .pointer (some ⟨pb2, 0, none⟩)], .slice a_v0 y0_5.length c_v0, .slice a_v1 y0_6.length c_v1] 80 (0, 0)) :: vecC 3 1 a_v0 c_v0 y0_5.length cs_v0 :: vecC 4 1 a_v1 c_v1 y0_6.length cs_v1 :: R)) (fun w => St w s89 (pt pb1 (.cells #[.int .i64 y1] 3 (0, 0)) :: pt pb0 (.cells #[.int .i64 y0_0, .int .i64 y0_1, .slice a_y0_2 y0_2.length c_y0_2, .func (.func 71) #[] #[.pointer (some ⟨pb1, 0, none⟩), .pointer (some ⟨pb2, 0, none⟩)], .func (.func 70) #[] #[.pointer (some ⟨pb1, 0, none⟩), .pointer (some ⟨pb2, 0, none⟩)], .slice a_v0 y0_5.length c_v0, .slice a_v1 y0_6.length c_v1] 80 (0, 0)) :: vecC 3 1 a_v0 c_v0 y0_5.length cs_v0 :: vecC 4 1 a_v1 c_v1 y0_6.length cs_v1 :: R))) (fun b i => cond b ([0, 1, 2, 3, 4, 5, 6, 7, 8].contains i) ([0, 1, 2, 3, 4, 5, 6, 7, 8, 9].contains i)) mixed ?_
     replace hS := hS.drew
     refine Rg.takeP (i := 0) hE rfl (by kernel_rfl) (runs_plain rfl) (Gives.p hE rfl) rfl (tw_sel (fun _ => hS) (fun _ => (hS.dropAt 1))) ?_; clear hE a; intro a hE
     have hT := tw_sel (A := fun w => St w s89 (pt pb1 (.cells #[.int .i64 y1] 3 (0, 0)) :: pt pb2 (.cells #[.int .i64 q96] 3 (0, 0)) :: pt pb0 (.cells #[.int .i64 y0_0, .int .i64 y0_1, .slice a_y0_2 y0_2.length c_y0_2, .func (.func 71) #[] #[.pointer (some ⟨pb1, 0, none⟩), .pointer (some ⟨pb2, 0, none⟩)], .func (.func 70) #[] #[.pointer (some ⟨pb1, 0, none⟩), .pointer (some ⟨pb2, 0, none⟩)], .slice a_v0 y0_5.length c_v0, .slice a_v1 y0_6.length c_v1] 80 (0, 0)) :: vecC 3 1 a_v0 c_v0 y0_5.length cs_v0 :: vecC 4 1 a_v1 c_v1 y0_6.length cs_v1 :: R)) (B := fun w => St w s89 (pt pb1 (.cells #[.int .i64 y1] 3 (0, 0)) :: pt pb0 (.cells #[.int .i64 y0_0, .int .i64 y0_1, .slice a_y0_2 y0_2.length c_y0_2, .func (.func 71) #[] #[.pointer (some ⟨pb1, 0, none⟩), .pointer (some ⟨pb2, 0, none⟩)], .func (.func 70) #[] #[.pointer (some ⟨pb1, 0, none⟩), .pointer (some ⟨pb2, 0, none⟩)], .slice a_v0 y0_5.length c_v0, .slice a_v1 y0_6.length c_v1] 80 (0, 0)) :: vecC 3 1 a_v0 c_v0 y0_5.length cs_v0 :: vecC 4 1 a_v1 c_v1 y0_6.length cs_v1 :: R)) (w := _) (x := true) (y := true) (fun _ => hS) (fun _ => (hS.dropAt 1))
     have hF := hS; replace hS := (hS.dropAt 1)
     refine Rg.take (i := 1) false rfl hE rfl (by kernel_rfl) (runs_plain rfl) (Gives.nilOk hE rfl) rfl hT ?_; clear hE a; intro a hE
     replace hS := hF; clear hF hT
     refine Rg.takeP (i := 2) hE rfl (by kernel_rfl) (runs_plain rfl) (Gives.fld hE rfl fl80_1) rfl (tw_sel (fun _ => hS) (fun _ => (hS.dropAt 1))) ?_; clear hE a; intro a hE
     have hT := tw_sel (A := fun w => St w s89 (pt pb1 (.cells #[.int .i64 y1] 3 (0, 0)) :: pt pb2 (.cells #[.int .i64 q96] 3 (0, 0)) :: pt pb0 (.cells #[.int .i64 y0_0, .int .i64 y0_1, .slice a_y0_2 y0_2.length c_y0_2, .func (.func 71) #[] #[.pointer (some ⟨pb1, 0, none⟩), .pointer (some ⟨pb2, 0, none⟩)], .func (.func 70) #[] #[.pointer (some ⟨pb1, 0, none⟩), .pointer (some ⟨pb2, 0, none⟩)], .slice a_v0 y0_5.length c_v0, .slice a_v1 y0_6.length c_v1] 80 (0, 0)) :: vecC 3 1 a_v0 c_v0 y0_5.length cs_v0 :: vecC 4 1 a_v1 c_v1 y0_6.length cs_v1 :: R)) (B := fun w => St w s89 (pt pb1 (.cells #[.int .i64 y1] 3 (0, 0)) :: pt pb0 (.cells #[.int .i64 y0_0, .int .i64 y0_1, .slice a_y0_2 y0_2.length c_y0_2, .func (.func 71) #[] #[.pointer (some ⟨pb1, 0, none⟩), .pointer (some ⟨pb2, 0, none⟩)], .func (.func 70) #[] #[.pointer (some ⟨pb1, 0, none⟩), .pointer (some ⟨pb2, 0, none⟩)], .slice a_v0 y0_5.length c_v0, .slice a_v1 y0_6.length c_v1] 80 (0, 0)) :: vecC 3 1 a_v0 c_v0 y0_5.length cs_v0 :: vecC 4 1 a_v1 c_v1 y0_6.length cs_v1 :: R)) (w := _) (x := true) (y := true) (fun _ => hS) (fun _ => (hS.dropAt 1))
     have hF := hS; replace hS := hS
     refine Rg.take (i := 3) true rfl hE rfl (by kernel_rfl) (runs_plain rfl) (Gives.loadB hE 2 rfl rfl rfl ty77) rfl hT ?_; clear hE a; intro a hE
     replace hS := hF; clear hF hT
     refine Rg.takeP (i := 4) hE rfl (by kernel_rfl) (runs_plain rfl) (Gives.p hE rfl) rfl (tw_sel (fun _ => hS) (fun _ => (hS.dropAt 1))) ?_; clear hE a; intro a hE
     refine Rg.takeP (i := 5) hE rfl (by kernel_rfl) (runs_plain rfl) (Gives.p hE rfl) rfl (tw_sel (fun _ => hS) (fun _ => (hS.dropAt 1))) ?_; clear hE a; intro a hE
     have hT := tw_sel (A := fun w => St w s89 (pt pb1 (.cells #[.int .i64 y1] 3 (0, 0)) :: pt pb2 (.cells #[.int .i64 q96] 3 (0, 0)) :: pt pb0 (.cells #[.int .i64 y0_0, .int .i64 y0_1, .slice a_y0_2 y0_2.length c_y0_2, .func (.func 71) #[] #[.pointer (some ⟨pb1, 0, none⟩), .pointer (some ⟨pb2, 0, none⟩)], .func (.func 70) #[] #[.pointer (some ⟨pb1, 0, none⟩), .pointer (some ⟨pb2, 0, none⟩)], .slice a_v0 y0_5.length c_v0, .slice a_v1 y0_6.length c_v1] 80 (0, 0)) :: vecC 3 1 a_v0 c_v0 y0_5.length cs_v0 :: vecC 4 1 a_v1 c_v1 y0_6.length cs_v1 :: R)) (B := fun w => St w s89 (pt pb1 (.cells #[.int .i64 y1] 3 (0, 0)) :: pt pb0 (.cells #[.int .i64 y0_0, .int .i64 y0_1, .slice a_y0_2 y0_2.length c_y0_2, .func (.func 71) #[] #[.pointer (some ⟨pb1, 0, none⟩), .pointer (some ⟨pb2, 0, none⟩)], .func (.func 70) #[] #[.pointer (some ⟨pb1, 0, none⟩), .pointer (some ⟨pb2, 0, none⟩)], .slice a_v0 y0_5.length c_v0, .slice a_v1 y0_6.length c_v1] 80 (0, 0)) :: vecC 3 1 a_v0 c_v0 y0_5.length cs_v0 :: vecC 4 1 a_v1 c_v1 y0_6.length cs_v1 :: R)) (w := _) (x := true) (y := true) (fun _ => hS) (fun _ => (hS.dropAt 1))
     have hF := hS; replace hS := (hS.dropAt 1)
     refine Rg.take (i := 6) false rfl hE rfl (by kernel_rfl) (runs_plain rfl) (Gives.nilOk hE rfl) rfl hT ?_; clear hE a; intro a hE
     replace hS := hF; clear hF hT
     refine Rg.takeP (i := 7) hE rfl (by kernel_rfl) (runs_plain rfl) (Gives.fld hE rfl fl80_3) rfl (tw_sel (fun _ => hS) (fun _ => (hS.dropAt 1))) ?_; clear hE a; intro a hE
     have hT := tw_sel (A := fun w => St w s89 (pt pb1 (.cells #[.int .i64 y1] 3 (0, 0)) :: pt pb2 (.cells #[.int .i64 q96] 3 (0, 0)) :: pt pb0 (.cells #[.int .i64 y0_0, .int .i64 y0_1, .slice a_y0_2 y0_2.length c_y0_2, .func (.func 71) #[] #[.pointer (some ⟨pb1, 0, none⟩), .pointer (some ⟨pb2, 0, none⟩)], .func (.func 70) #[] #[.pointer (some ⟨pb1, 0, none⟩), .pointer (some ⟨pb2, 0, none⟩)], .slice a_v0 y0_5.length c_v0, .slice a_v1 y0_6.length c_v1] 80 (0, 0)) :: vecC 3 1 a_v0 c_v0 y0_5.length cs_v0 :: vecC 4 1 a_v1 c_v1 y0_6.length cs_v1 :: R)) (B := fun w => St w s89 (pt pb1 (.cells #[.int .i64 y1] 3 (0, 0)) :: pt pb0 (.cells #[.int .i64 y0_0, .int .i64 y0_1, .slice a_y0_2 y0_2.length c_y0_2, .func (.func 71) #[] #[.pointer (some ⟨pb1, 0, none⟩), .pointer (some ⟨pb2, 0, none⟩)], .func (.func 70) #[] #[.pointer (some ⟨pb1, 0, none⟩), .pointer (some ⟨pb2, 0, none⟩)], .slice a_v0 y0_5.length c_v0, .slice a_v1 y0_6.length c_v1] 80 (0, 0)) :: vecC 3 1 a_v0 c_v0 y0_5.length cs_v0 :: vecC 4 1 a_v1 c_v1 y0_6.length cs_v1 :: R)) (w := _) (x := true) (y := true) (fun _ => hS) (fun _ => (hS.dropAt 1))
     have hF := hS; replace hS := hS
     refine Rg.take (i := 8) true rfl hE rfl (by kernel_rfl) (runs_plain rfl) (Gives.loadB hE 2 rfl rfl rfl ty29) rfl hT ?_; clear hE a; intro a hE
     replace hS := hF; clear hF hT
     refine Rg.one (i := 9) false true rfl (by kernel_rfl) (by kernel_rfl) (by kernel_rfl) ?_
     obtain ⟨q146, hq147, hr⟩ := bindS hr
     have hF := hS.lendV RI.mono 3 rfl h_v0 (rfl); clear hS; obtain ⟨t148, hle149, hS, hs150, bk151⟩ := hF
     have hc_ := Plansolve_2_v1_ok hS (Pt.mono RA.mono hle149 h1) hs150 hq147
     refine WL.fnw hE (hc_) rfl (runs_plain rfl) bd71 rfl rfl rfl ?_
     clear hE hS hc_; rintro e w ⟨rfl, hS⟩; refine ⟨_, rfl, ?_⟩; clear a; intro a hE
     replace hS := bk151 _ _ hS
     refine WL.nil ?_
     refine ⟨⟨fun h => absurd h (by decide), fun _ => (St.front (St.front (St.front (St.front (hS.dropAt 2) 3 rfl) 1 rfl) 3 rfl) 3 rfl)⟩, ?_⟩
     refine Rg.done (by kernel_rfl) ?_
     subst hK145
     refine W.ret ?_
     refine finG (fn := Try.f54) (rs := []) (vs := []) hE rfl trivial ?_
     obtain rfl := Option.some.inj hr
     replace hS := hS.front 4 rfl
     replace hS := hS.front 1 rfl
     replace hS := hS.front 3 rfl
     replace hS := hS.front 3 rfl
     replace hS := hS.front 4 rfl
     exact ⟨cs_v0, cs_v1, s89, rfl, hle90, h_v0, (rfl), h_v1, (rfl), hS⟩
    ·replace hr := iteF hc144 hr
     refine W.skip ?_
     refine W.seq (W.region ?_)
     refine WL.vS hS hE (runs_plain rfl) (Gives.p hE rfl) rfl ?_; clear hE a; intro a hE
     refine WL.vS hS hE (runs_plain rfl) (Gives.nilOk hE rfl) rfl ?_; clear hE a; intro a hE
     refine WL.vS hS hE (runs_plain rfl) (Gives.fld hE rfl fl80_0) rfl ?_; clear hE a; intro a hE
     refine WL.vS hS hE (runs_plain rfl) (Gives.fld hE rfl fl24_2) rfl ?_; clear hE a; intro a hE
     refine WL.vS hS hE (runs_plain rfl) (Gives.loadB hE 2 rfl rfl rfl ty22) rfl ?_; clear hE a; intro a hE
     refine WL.vS hS hE (runs_plain rfl) (Gives.p hE rfl) rfl ?_; clear hE a; intro a hE
     obtain ⟨x152, hx153, hr⟩ := bindS hr
     obtain ⟨hi154, hlt155, hy156⟩ := gx_some hx153
     obtain ⟨cs157, hl158, hR159, hat160⟩ := h_y0_2.at hy156
     subst hR159
     refine WL.vS hS hE (runs_plain rfl) (Gives.idx hE (q91).toNat rfl rfl sl22 hi154 hlt155 (h_y0_2.aok hlt155)) rfl ?_; clear hE a; intro a hE
     refine WL.vS hS hE (runs_plain rfl) (Gives.loadA hE rfl (fun w h => hat160 w _ h) ty37) rfl ?_; clear hE a; intro a hE
     refine WL.alloc hE hS (runs_plain rfl) zr37 rfl ?_; clear hE hS a w; intro b161 a w hE hS
     refine WL.storeI hE hS 0 rfl (PlanRule.cells x152) (runs_plain rfl) rfl rfl rfl ty37 rfl rfl rfl rfl ?_; clear hE hS a w; intro a w hE hS
     refine WL.nil ?_
     refine W.seq (W.region ?_)
     refine WL.vS hS hE (runs_plain rfl) (Gives.p hE rfl) rfl ?_; clear hE a; intro a hE
     refine WL.vS hS hE (runs_plain rfl) (Gives.nilOk hE rfl) rfl ?_; clear hE a; intro a hE
     refine WL.vS hS hE (runs_plain rfl) (Gives.fld hE rfl fl80_4) rfl ?_; clear hE a; intro a hE
     refine WL.vS hS hE (runs_plain rfl) (Gives.loadB hE 3 rfl rfl rfl ty71) rfl ?_; clear hE a; intro a hE
     refine WL.vS hS hE (runs_plain rfl) (Gives.p hE rfl) rfl ?_; clear hE a; intro a hE
     obtain ⟨_, hx163, hr⟩ := bindS hr
     obtain ⟨h164, h165⟩ := ix_some hx163
     refine WL.vS hS hE (runs_plain rfl) (Gives.idx hE ((q91).toNat) rfl rfl sl71 h164 (by omega) (hS.vecAok 5 rfl (by omega : (q91).toNat < y0_6.length))) rfl ?_; clear hE a; intro a hE
     obtain ⟨x167, hx168, hr⟩ := bindS hr
     refine WL.setD hE hS 5 rfl (runs_plain rfl) rfl rfl (vs := [.bool false]) rfl ty4 rfl rfl rfl h_v1 (rfl) (sx_some hx168).1 hx168 rfl rfl ?_; clear hE hS a w; intro cs169 a w h170 hn171 hE hS
     refine WL.nil ?_
     refine W.seq ?_
     refine W.seq (W.region ?_)
     refine WL.vS hS hE (runs_plain rfl) (Gives.p hE rfl) rfl ?_; clear hE a; intro a hE
     refine WL.vS hS hE (runs_plain rfl) (Gives.len hE rfl sl29) rfl ?_; clear hE a; intro a hE
     refine WL.vS hS hE (runs_plain rfl) (Gives.p hE rfl) rfl ?_; clear hE a; intro a hE
     refine WL.nil ?_
     obtain ⟨q173, hq172, hr⟩ := bindS hr
     refine W.cut (fun a w => ∃ (q183 : List Int), ∃ (q189 : List Bool), ∃ (q195 : Int), ∃ (cs187 : List Value), ∃ (cs193 : List Value), ∃ (s181 : Sg), s89.Le s181 ∧ (q183, q189, q195) = q173 ∧ Ev 1 (RI .i64) s181 cs187 q183 ∧ q183.length = y0_5.length ∧ Ev 1 RB s181 cs193 q189 ∧ q189.length = y0_6.length ∧ Rep a 142 [(0, .pointer (some ⟨pb0, 0, none⟩)), (4, .int .i64 q91)] ∧ St w s181 (pt b161 (.cells (PlanRule.cells x152).toArray 37 (0, 0)) :: pt pb1 (.cells #[.int .i64 y1] 3 (0, 0)) :: pt pb2 (.cells #[.int .i64 q195] 3 (0, 0)) :: pt pb0 (.cells #[.int .i64 y0_0, .int .i64 y0_1, .slice a_y0_2 y0_2.length c_y0_2, .func (.func 71) #[] #[.pointer (some ⟨pb1, 0, none⟩), .pointer (some ⟨pb2, 0, none⟩)], .func (.func 70) #[] #[.pointer (some ⟨pb1, 0, none⟩), .pointer (some ⟨pb2, 0, none⟩)], .slice a_v0 y0_5.length c_v0, .slice a_v1 y0_6.length c_v1] 80 (0, 0)) :: vecC 3 1 a_v0 c_v0 y0_5.length cs187 :: vecC 4 1 a_v1 c_v1 y0_6.length cs193 :: R)) ?_ ?_
     ·refine W.block ?_
      refine W.loop (fun m a w => ∃ (rest176 : List Int) (k174 : Nat), ∃ (q183 : List Int), ∃ (q189 : List Bool), ∃ (q195 : Int), ∃ (cs187 : List Value), ∃ (cs193 : List Value), ∃ (s181 : Sg), rest176.length = m ∧ q92.drop k174 = rest176 ∧ s89.Le s181 ∧ PlanSearchrun_v1.loop2 x1 y0_0 y0_1 y0_2 y1 fu self_PlanSearchrun_v1 q91 x152 rest176 q183 q189 q195 = some q173 ∧ Ev 1 (RI .i64) s181 cs187 q183 ∧ q183.length = y0_5.length ∧ Ev 1 RB s181 cs193 q189 ∧ q189.length = y0_6.length ∧ Rep a 142 [(0, .pointer (some ⟨pb0, 0, none⟩)), (1, .pointer a1), (4, .int .i64 q91), (9, .pointer (some ⟨b161, 0, none⟩)), (84, .slice a93 q92.length c94), (85, .int .i64 ((q92).length : Int)), (86, .int .i64 ((k174 : Nat) : Int))] ∧ St w s181 (pt b161 (.cells (PlanRule.cells x152).toArray 37 (0, 0)) :: pt pb1 (.cells #[.int .i64 y1] 3 (0, 0)) :: pt pb2 (.cells #[.int .i64 q195] 3 (0, 0)) :: pt pb0 (.cells #[.int .i64 y0_0, .int .i64 y0_1, .slice a_y0_2 y0_2.length c_y0_2, .func (.func 71) #[] #[.pointer (some ⟨pb1, 0, none⟩), .pointer (some ⟨pb2, 0, none⟩)], .func (.func 70) #[] #[.pointer (some ⟨pb1, 0, none⟩), .pointer (some ⟨pb2, 0, none⟩)], .slice a_v0 y0_5.length c_v0, .slice a_v1 y0_6.length c_v1] 80 (0, 0)) :: vecC 3 1 a_v0 c_v0 y0_5.length cs187 :: vecC 4 1 a_v1 c_v1 y0_6.length cs193 :: R)) (m := q92.length) ⟨q92, 0, y0_5, x167, q96, cs_v0, cs169, s89, rfl, rfl, (Sg.Le.refl _), hq172, h_v0, (rfl), h170, hn171, hE.pick _ ⟨rfl, rfl, rfl, rfl, rfl, rfl, rfl, trivial⟩, hS⟩ ?_
      clear hE hS a w hq172; rintro m180 a w ⟨rest176, k174, q183, q189, q195, cs187, cs193, s181, rfl, hd177, hle182, hq172, h186, hn188, h192, hn194, hE, hS⟩
      refine W.gen fun K196 hK196 => ?_
      replace h1 := Pt.mono RA.mono hle182 h1
      replace h95 := Sl.mono RI.mono hle182 h95
      replace h_y0_2 := Sl.mono RPlanRule.mono hle182 h_y0_2
      replace h_v0 := Ev.mono RI.mono hle182 h_v0
      replace h170 := Ev.mono RB.mono hle182 h170
      rcases rest176 with _ | ⟨x175, rest176⟩
      ·have hlt178 := drop_nil hd177
       refine W.seq (W.region ?_)
       refine WL.vS hS hE (runs_plain rfl) (Gives.p hE rfl) rfl ?_; clear hE a; intro a hE
       refine WL.nil ?_
       refine W.seq ?_
       refine W.condF hE rfl (decide_eq_false (by omega)) ?_
       subst hK196
       refine W.exit rfl ?_
       exact ⟨q183, q189, q195, cs187, cs193, s181, hle182, Option.some.inj hq172, h186, hn188, h192, hn194, hE.pick _ ⟨rfl, rfl, trivial⟩, hS⟩
      ·obtain ⟨hlt178, hx179, hd177⟩ := drop_cons hd177
       rw [PlanSearchrun_v1.loop2] at hq172
       refine W.seq (W.region ?_)
       refine WL.vS hS hE (runs_plain rfl) (Gives.p hE rfl) rfl ?_; clear hE a; intro a hE
       refine WL.nil ?_
       refine W.seq ?_
       refine W.condT hE rfl (decide_eq_true (by omega)) ?_
       refine W.skip ?_
       refine W.seq ?_
       refine W.block ?_
       refine W.seq (W.region ?_)
       obtain ⟨cs197, hl198, hR199, hat200⟩ := h95.at hx179
       subst hR199
       refine WL.vS hS hE (runs_plain rfl) (Gives.idx hE k174 rfl rfl sl29 rfl hlt178 (h95.aok hlt178)) rfl ?_; clear hE a; intro a hE
       refine WL.vS hS hE (runs_plain rfl) (Gives.load1 hE rfl (fun w h => hat200 w _ h) ty3) rfl ?_; clear hE a; intro a hE
       refine WL.vS hS hE (runs_plain rfl) (Gives.p hE rfl) rfl ?_; clear hE a; intro a hE
       refine WL.nil ?_
       refine W.seq ?_
       refine W.gen fun K201 hK201 => ?_
       refine W.regionE (sel (fun w => St w s181 (pt b161 (.cells (PlanRule.cells x152).toArray 37 (0, 0)) :: pt pb1 (.cells #[.int .i64 y1] 3 (0, 0)) :: pt pb2 (.cells #[.int .i64 q195] 3 (0, 0)) :: pt pb0 (.cells #[.int .i64 y0_0, .int .i64 y0_1, .slice a_y0_2 y0_2.length c_y0_2, .func (.func 71) #[] #[.pointer (some ⟨pb1, 0, none⟩), .pointer (some ⟨pb2, 0, none⟩)], .func (.func 70) #[] #[.pointer (some ⟨pb1, 0, none⟩), .pointer (some ⟨pb2, 0, none⟩)], .slice a_v0 y0_5.length c_v0, .slice a_v1 y0_6.length c_v1] 80 (0, 0)) :: vecC 3 1 a_v0 c_v0 y0_5.length cs187 :: vecC 4 1 a_v1 c_v1 y0_6.length cs193 :: R)) (fun w => St w s181 (pt b161 (.cells (PlanRule.cells x152).toArray 37 (0, 0)) :: pt pb1 (.cells #[.int .i64 y1] 3 (0, 0)) :: pt pb2 (.cells #[.int .i64 q195] 3 (0, 0)) :: pt pb0 (.cells #[.int .i64 y0_0, .int .i64 y0_1, .slice a_y0_2 y0_2.length c_y0_2, .func (.func 71) #[] #[.pointer (some ⟨pb1, 0, none⟩), .pointer (some ⟨pb2, 0, none⟩)], .func (.func 70) #[] #[.pointer (some ⟨pb1, 0, none⟩), .pointer (some ⟨pb2, 0, none⟩)], .slice a_v0 y0_5.length c_v0, .slice a_v1 y0_6.length c_v1] 80 (0, 0)) :: vecC 3 1 a_v0 c_v0 y0_5.length cs187 :: vecC 4 1 a_v1 c_v1 y0_6.length cs193 :: R))) (fun b i => cond b ([0, 1, 2, 3, 4, 5, 6, 7, 8, 9, 10, 11, 12, 13, 14, 15, 16, 17, 18, 19, 20, 21, 22, 23, 24, 25, 26, 27, 28, 29, 30, 31, 32, 33, 34, 35].contains i) ([0, 1, 2, 3, 4, 5, 6, 7, 8, 9, 10, 11, 12, 13, 14, 15, 16, 17, 18, 19, 20, 21, 22, 23, 24, 25, 26, 27, 28, 29, 30, 31, 32, 33, 34, 35].contains i)) mixed ?_
       replace hS := hS.drew
       refine Rg.takeP (i := 0) hE rfl (by kernel_rfl) (runs_plain rfl) (Gives.p hE rfl) rfl (tw_sel (fun _ => hS) (fun _ => hS)) ?_; clear hE a; intro a hE
       refine Rg.takeP (i := 1) hE rfl (by kernel_rfl) (runs_plain rfl) (Gives.p hE rfl) rfl (tw_sel (fun _ => hS) (fun _ => hS)) ?_; clear hE a; intro a hE
       have hT := tw_sel (A := fun w => St w s181 (pt b161 (.cells (PlanRule.cells x152).toArray 37 (0, 0)) :: pt pb1 (.cells #[.int .i64 y1] 3 (0, 0)) :: pt pb2 (.cells #[.int .i64 q195] 3 (0, 0)) :: pt pb0 (.cells #[.int .i64 y0_0, .int .i64 y0_1, .slice a_y0_2 y0_2.length c_y0_2, .func (.func 71) #[] #[.pointer (some ⟨pb1, 0, none⟩), .pointer (some ⟨pb2, 0, none⟩)], .func (.func 70) #[] #[.pointer (some ⟨pb1, 0, none⟩), .pointer (some ⟨pb2, 0, none⟩)], .slice a_v0 y0_5.length c_v0, .slice a_v1 y0_6.length c_v1] 80 (0, 0)) :: vecC 3 1 a_v0 c_v0 y0_5.length cs187 :: vecC 4 1 a_v1 c_v1 y0_6.length cs193 :: R)) (B := fun w => St w s181 (pt b161 (.cells (PlanRule.cells x152).toArray 37 (0, 0)) :: pt pb1 (.cells #[.int .i64 y1] 3 (0, 0)) :: pt pb2 (.cells #[.int .i64 q195] 3 (0, 0)) :: pt pb0 (.cells #[.int .i64 y0_0, .int .i64 y0_1, .slice a_y0_2 y0_2.length c_y0_2, .func (.func 71) #[] #[.pointer (some ⟨pb1, 0, none⟩), .pointer (some ⟨pb2, 0, none⟩)], .func (.func 70) #[] #[.pointer (some ⟨pb1, 0, none⟩), .pointer (some ⟨pb2, 0, none⟩)], .slice a_v0 y0_5.length c_v0, .slice a_v1 y0_6.length c_v1] 80 (0, 0)) :: vecC 3 1 a_v0 c_v0 y0_5.length cs187 :: vecC 4 1 a_v1 c_v1 y0_6.length cs193 :: R)) (w := _) (x := true) (y := true) (fun _ => hS) (fun _ => hS)
       have hF := hS; replace hS := hS
       refine Rg.take (i := 2) true rfl hE rfl (by kernel_rfl) (runs_plain rfl) (Gives.nilOk hE rfl) rfl hT ?_; clear hE a; intro a hE
       replace hS := hF; clear hF hT
       refine Rg.takeP (i := 3) hE rfl (by kernel_rfl) (runs_plain rfl) (Gives.fld hE rfl fl80_0) rfl (tw_sel (fun _ => hS) (fun _ => hS)) ?_; clear hE a; intro a hE
       refine Rg.takeP (i := 4) hE rfl (by kernel_rfl) (runs_plain rfl) (Gives.fld hE rfl fl24_1) rfl (tw_sel (fun _ => hS) (fun _ => hS)) ?_; clear hE a; intro a hE
       have hT := tw_sel (A := fun w => St w s181 (pt b161 (.cells (PlanRule.cells x152).toArray 37 (0, 0)) :: pt pb1 (.cells #[.int .i64 y1] 3 (0, 0)) :: pt pb2 (.cells #[.int .i64 q195] 3 (0, 0)) :: pt pb0 (.cells #[.int .i64 y0_0, .int .i64 y0_1, .slice a_y0_2 y0_2.length c_y0_2, .func (.func 71) #[] #[.pointer (some ⟨pb1, 0, none⟩), .pointer (some ⟨pb2, 0, none⟩)], .func (.func 70) #[] #[.pointer (some ⟨pb1, 0, none⟩), .pointer (some ⟨pb2, 0, none⟩)], .slice a_v0 y0_5.length c_v0, .slice a_v1 y0_6.length c_v1] 80 (0, 0)) :: vecC 3 1 a_v0 c_v0 y0_5.length cs187 :: vecC 4 1 a_v1 c_v1 y0_6.length cs193 :: R)) (B := fun w => St w s181 (pt b161 (.cells (PlanRule.cells x152).toArray 37 (0, 0)) :: pt pb1 (.cells #[.int .i64 y1] 3 (0, 0)) :: pt pb2 (.cells #[.int .i64 q195] 3 (0, 0)) :: pt pb0 (.cells #[.int .i64 y0_0, .int .i64 y0_1, .slice a_y0_2 y0_2.length c_y0_2, .func (.func 71) #[] #[.pointer (some ⟨pb1, 0, none⟩), .pointer (some ⟨pb2, 0, none⟩)], .func (.func 70) #[] #[.pointer (some ⟨pb1, 0, none⟩), .pointer (some ⟨pb2, 0, none⟩)], .slice a_v0 y0_5.length c_v0, .slice a_v1 y0_6.length c_v1] 80 (0, 0)) :: vecC 3 1 a_v0 c_v0 y0_5.length cs187 :: vecC 4 1 a_v1 c_v1 y0_6.length cs193 :: R)) (w := _) (x := true) (y := true) (fun _ => hS) (fun _ => hS)
       have hF := hS; replace hS := hS
       refine Rg.take (i := 5) true rfl hE rfl (by kernel_rfl) (runs_plain rfl) (Gives.loadB hE 3 rfl rfl rfl ty3) rfl hT ?_; clear hE a; intro a hE
       replace hS := hF; clear hF hT
       refine Rg.takeP (i := 6) hE rfl (by kernel_rfl) (runs_plain rfl) (Gives.fld hE rfl fl37_0) rfl (tw_sel (fun _ => hS) (fun _ => hS)) ?_; clear hE a; intro a hE
       have hT := tw_sel (A := fun w => St w s181 (pt b161 (.cells (PlanRule.cells x152).toArray 37 (0, 0)) :: pt pb1 (.cells #[.int .i64 y1] 3 (0, 0)) :: pt pb2 (.cells #[.int .i64 q195] 3 (0, 0)) :: pt pb0 (.cells #[.int .i64 y0_0, .int .i64 y0_1, .slice a_y0_2 y0_2.length c_y0_2, .func (.func 71) #[] #[.pointer (some ⟨pb1, 0, none⟩), .pointer (some ⟨pb2, 0, none⟩)], .func (.func 70) #[] #[.pointer (some ⟨pb1, 0, none⟩), .pointer (some ⟨pb2, 0, none⟩)], .slice a_v0 y0_5.length c_v0, .slice a_v1 y0_6.length c_v1] 80 (0, 0)) :: vecC 3 1 a_v0 c_v0 y0_5.length cs187 :: vecC 4 1 a_v1 c_v1 y0_6.length cs193 :: R)) (B := fun w => St w s181 (pt b161 (.cells (PlanRule.cells x152).toArray 37 (0, 0)) :: pt pb1 (.cells #[.int .i64 y1] 3 (0, 0)) :: pt pb2 (.cells #[.int .i64 q195] 3 (0, 0)) :: pt pb0 (.cells #[.int .i64 y0_0, .int .i64 y0_1, .slice a_y0_2 y0_2.length c_y0_2, .func (.func 71) #[] #[.pointer (some ⟨pb1, 0, none⟩), .pointer (some ⟨pb2, 0, none⟩)], .func (.func 70) #[] #[.pointer (some ⟨pb1, 0, none⟩), .pointer (some ⟨pb2, 0, none⟩)], .slice a_v0 y0_5.length c_v0, .slice a_v1 y0_6.length c_v1] 80 (0, 0)) :: vecC 3 1 a_v0 c_v0 y0_5.length cs187 :: vecC 4 1 a_v1 c_v1 y0_6.length cs193 :: R)) (w := _) (x := true) (y := true) (fun _ => hS) (fun _ => hS)
       have hF := hS; replace hS := hS
       refine Rg.take (i := 7) true rfl hE rfl (by kernel_rfl) (runs_plain rfl) (Gives.loadB hE 0 rfl rfl rfl ty3) rfl hT ?_; clear hE a; intro a hE
       replace hS := hF; clear hF hT
       refine Rg.takeP (i := 8) hE rfl (by kernel_rfl) (runs_plain rfl) (Gives.fld hE rfl fl37_1) rfl (tw_sel (fun _ => hS) (fun _ => hS)) ?_; clear hE a; intro a hE
       have hT := tw_sel (A := fun w => St w s181 (pt b161 (.cells (PlanRule.cells x152).toArray 37 (0, 0)) :: pt pb1 (.cells #[.int .i64 y1] 3 (0, 0)) :: pt pb2 (.cells #[.int .i64 q195] 3 (0, 0)) :: pt pb0 (.cells #[.int .i64 y0_0, .int .i64 y0_1, .slice a_y0_2 y0_2.length c_y0_2, .func (.func 71) #[] #[.pointer (some ⟨pb1, 0, none⟩), .pointer (some ⟨pb2, 0, none⟩)], .func (.func 70) #[] #[.pointer (some ⟨pb1, 0, none⟩), .pointer (some ⟨pb2, 0, none⟩)], .slice a_v0 y0_5.length c_v0, .slice a_v1 y0_6.length c_v1] 80 (0, 0)) :: vecC 3 1 a_v0 c_v0 y0_5.length cs187 :: vecC 4 1 a_v1 c_v1 y0_6.length cs193 :: R)) (B := fun w => St w s181 (pt b161 (.cells (PlanRule.cells x152).toArray 37 (0, 0)) :: pt pb1 (.cells #[.int .i64 y1] 3 (0, 0)) :: pt pb2 (.cells #[.int .i64 q195] 3 (0, 0)) :: pt pb0 (.cells #[.int .i64 y0_0, .int .i64 y0_1, .slice a_y0_2 y0_2.length c_y0_2, .func (.func 71) #[] #[.pointer (some ⟨pb1, 0, none⟩), .pointer (some ⟨pb2, 0, none⟩)], .func (.func 70) #[] #[.pointer (some ⟨pb1, 0, none⟩), .pointer (some ⟨pb2, 0, none⟩)], .slice a_v0 y0_5.length c_v0, .slice a_v1 y0_6.length c_v1] 80 (0, 0)) :: vecC 3 1 a_v0 c_v0 y0_5.length cs187 :: vecC 4 1 a_v1 c_v1 y0_6.length cs193 :: R)) (w := _) (x := true) (y := true) (fun _ => hS) (fun _ => hS)
       have hF := hS; replace hS := hS
       refine Rg.take (i := 9) true rfl hE rfl (by kernel_rfl) (runs_plain rfl) (Gives.loadB hE 0 rfl rfl rfl ty3) rfl hT ?_; clear hE a; intro a hE
       replace hS := hF; clear hF hT
       refine Rg.takeP (i := 10) hE rfl (by kernel_rfl) (runs_plain rfl) (Gives.fld hE rfl fl37_2) rfl (tw_sel (fun _ => hS) (fun _ => hS)) ?_; clear hE a; intro a hE
       have hT := tw_sel (A := fun w => St w s181 (pt b161 (.cells (PlanRule.cells x152).toArray 37 (0, 0)) :: pt pb1 (.cells #[.int .i64 y1] 3 (0, 0)) :: pt pb2 (.cells #[.int .i64 q195] 3 (0, 0)) :: pt pb0 (.cells #[.int .i64 y0_0, .int .i64 y0_1, .slice a_y0_2 y0_2.length c_y0_2, .func (.func 71) #[] #[.pointer (some ⟨pb1, 0, none⟩), .pointer (some ⟨pb2, 0, none⟩)], .func (.func 70) #[] #[.pointer (some ⟨pb1, 0, none⟩), .pointer (some ⟨pb2, 0, none⟩)], .slice a_v0 y0_5.length c_v0, .slice a_v1 y0_6.length c_v1] 80 (0, 0)) :: vecC 3 1 a_v0 c_v0 y0_5.length cs187 :: vecC 4 1 a_v1 c_v1 y0_6.length cs193 :: R)) (B := fun w => St w s181 (pt b161 (.cells (PlanRule.cells x152).toArray 37 (0, 0)) :: pt pb1 (.cells #[.int .i64 y1] 3 (0, 0)) :: pt pb2 (.cells #[.int .i64 q195] 3 (0, 0)) :: pt pb0 (.cells #[.int .i64 y0_0, .int .i64 y0_1, .slice a_y0_2 y0_2.length c_y0_2, .func (.func 71) #[] #[.pointer (some ⟨pb1, 0, none⟩), .pointer (some ⟨pb2, 0, none⟩)], .func (.func 70) #[] #[.pointer (some ⟨pb1, 0, none⟩), .pointer (some ⟨pb2, 0, none⟩)], .slice a_v0 y0_5.length c_v0, .slice a_v1 y0_6.length c_v1] 80 (0, 0)) :: vecC 3 1 a_v0 c_v0 y0_5.length cs187 :: vecC 4 1 a_v1 c_v1 y0_6.length cs193 :: R)) (w := _) (x := true) (y := true) (fun _ => hS) (fun _ => hS)
       have hF := hS; replace hS := hS
       refine Rg.take (i := 11) true rfl hE rfl (by kernel_rfl) (runs_plain rfl) (Gives.loadB hE 0 rfl rfl rfl ty3) rfl hT ?_; clear hE a; intro a hE
       replace hS := hF; clear hF hT
       refine Rg.takeP (i := 12) hE rfl (by kernel_rfl) (runs_plain rfl) (Gives.p hE rfl) rfl (tw_sel (fun _ => hS) (fun _ => hS)) ?_; clear hE a; intro a hE
       refine Rg.takeP (i := 13) hE rfl (by kernel_rfl) (runs_plain rfl) (Gives.p hE rfl) rfl (tw_sel (fun _ => hS) (fun _ => hS)) ?_; clear hE a; intro a hE
       have hT := tw_sel (A := fun w => St w s181 (pt b161 (.cells (PlanRule.cells x152).toArray 37 (0, 0)) :: pt pb1 (.cells #[.int .i64 y1] 3 (0, 0)) :: pt pb2 (.cells #[.int .i64 q195] 3 (0, 0)) :: pt pb0 (.cells #[.int .i64 y0_0, .int .i64 y0_1, .slice a_y0_2 y0_2.length c_y0_2, .func (.func 71) #[] #[.pointer (some ⟨pb1, 0, none⟩), .pointer (some ⟨pb2, 0, none⟩)], .func (.func 70) #[] #[.pointer (some ⟨pb1, 0, none⟩), .pointer (some ⟨pb2, 0, none⟩)], .slice a_v0 y0_5.length c_v0, .slice a_v1 y0_6.length c_v1] 80 (0, 0)) :: vecC 3 1 a_v0 c_v0 y0_5.length cs187 :: vecC 4 1 a_v1 c_v1 y0_6.length cs193 :: R)) (B := fun w => St w s181 (pt b161 (.cells (PlanRule.cells x152).toArray 37 (0, 0)) :: pt pb1 (.cells #[.int .i64 y1] 3 (0, 0)) :: pt pb2 (.cells #[.int .i64 q195] 3 (0, 0)) :: pt pb0 (.cells #[.int .i64 y0_0, .int .i64 y0_1, .slice a_y0_2 y0_2.length c_y0_2, .func (.func 71) #[] #[.pointer (some ⟨pb1, 0, none⟩), .pointer (some ⟨pb2, 0, none⟩)], .func (.func 70) #[] #[.pointer (some ⟨pb1, 0, none⟩), .pointer (some ⟨pb2, 0, none⟩)], .slice a_v0 y0_5.length c_v0, .slice a_v1 y0_6.length c_v1] 80 (0, 0)) :: vecC 3 1 a_v0 c_v0 y0_5.length cs187 :: vecC 4 1 a_v1 c_v1 y0_6.length cs193 :: R)) (w := _) (x := true) (y := true) (fun _ => hS) (fun _ => hS)
       have hF := hS; replace hS := hS
       refine Rg.take (i := 14) true rfl hE rfl (by kernel_rfl) (runs_plain rfl) (Gives.nilOk hE rfl) rfl hT ?_; clear hE a; intro a hE
       replace hS := hF; clear hF hT
       refine Rg.takeP (i := 15) hE rfl (by kernel_rfl) (runs_plain rfl) (Gives.fld hE rfl fl80_0) rfl (tw_sel (fun _ => hS) (fun _ => hS)) ?_; clear hE a; intro a hE
       refine Rg.takeP (i := 16) hE rfl (by kernel_rfl) (runs_plain rfl) (Gives.fld hE rfl fl24_0) rfl (tw_sel (fun _ => hS) (fun _ => hS)) ?_; clear hE a; intro a hE
       have hT := tw_sel (A := fun w => St w s181 (pt b161 (.cells (PlanRule.cells x152).toArray 37 (0, 0)) :: pt pb1 (.cells #[.int .i64 y1] 3 (0, 0)) :: pt pb2 (.cells #[.int .i64 q195] 3 (0, 0)) :: pt pb0 (.cells #[.int .i64 y0_0, .int .i64 y0_1, .slice a_y0_2 y0_2.length c_y0_2, .func (.func 71) #[] #[.pointer (some ⟨pb1, 0, none⟩), .pointer (some ⟨pb2, 0, none⟩)], .func (.func 70) #[] #[.pointer (some ⟨pb1, 0, none⟩), .pointer (some ⟨pb2, 0, none⟩)], .slice a_v0 y0_5.length c_v0, .slice a_v1 y0_6.length c_v1] 80 (0, 0)) :: vecC 3 1 a_v0 c_v0 y0_5.length cs187 :: vecC 4 1 a_v1 c_v1 y0_6.length cs193 :: R)) (B := fun w => St w s181 (pt b161 (.cells (PlanRule.cells x152).toArray 37 (0, 0)) :: pt pb1 (.cells #[.int .i64 y1] 3 (0, 0)) :: pt pb2 (.cells #[.int .i64 q195] 3 (0, 0)) :: pt pb0 (.cells #[.int .i64 y0_0, .int .i64 y0_1, .slice a_y0_2 y0_2.length c_y0_2, .func (.func 71) #[] #[.pointer (some ⟨pb1, 0, none⟩), .pointer (some ⟨pb2, 0, none⟩)], .func (.func 70) #[] #[.pointer (some ⟨pb1, 0, none⟩), .pointer (some ⟨pb2, 0, none⟩)], .slice a_v0 y0_5.length c_v0, .slice a_v1 y0_6.length c_v1] 80 (0, 0)) :: vecC 3 1 a_v0 c_v0 y0_5.length cs187 :: vecC 4 1 a_v1 c_v1 y0_6.length cs193 :: R)) (w := _) (x := true) (y := true) (fun _ => hS) (fun _ => hS)
       have hF := hS; replace hS := hS
       refine Rg.take (i := 17) true rfl hE rfl (by kernel_rfl) (runs_plain rfl) (Gives.loadB hE 3 rfl rfl rfl ty3) rfl hT ?_; clear hE a; intro a hE
       replace hS := hF; clear hF hT
       refine Rg.takeP (i := 18) hE rfl (by kernel_rfl) (runs_plain rfl) (Gives.p hE rfl) rfl (tw_sel (fun _ => hS) (fun _ => hS)) ?_; clear hE a; intro a hE
       refine Rg.takeP (i := 19) hE rfl (by kernel_rfl) (runs_plain rfl) (Gives.p hE rfl) rfl (tw_sel (fun _ => hS) (fun _ => hS)) ?_; clear hE a; intro a hE
       refine Rg.takeP (i := 20) hE rfl (by kernel_rfl) (runs_plain rfl) (Gives.fld hE rfl fl37_3) rfl (tw_sel (fun _ => hS) (fun _ => hS)) ?_; clear hE a; intro a hE
       have hT := tw_sel (A := fun w => St w s181 (pt b161 (.cells (PlanRule.cells x152).toArray 37 (0, 0)) :: pt pb1 (.cells #[.int .i64 y1] 3 (0, 0)) :: pt pb2 (.cells #[.int .i64 q195] 3 (0, 0)) :: pt pb0 (.cells #[.int .i64 y0_0, .int .i64 y0_1, .slice a_y0_2 y0_2.length c_y0_2, .func (.func 71) #[] #[.pointer (some ⟨pb1, 0, none⟩), .pointer (some ⟨pb2, 0, none⟩)], .func (.func 70) #[] #[.pointer (some ⟨pb1, 0, none⟩), .pointer (some ⟨pb2, 0, none⟩)], .slice a_v0 y0_5.length c_v0, .slice a_v1 y0_6.length c_v1] 80 (0, 0)) :: vecC 3 1 a_v0 c_v0 y0_5.length cs187 :: vecC 4 1 a_v1 c_v1 y0_6.length cs193 :: R)) (B := fun w => St w s181 (pt b161 (.cells (PlanRule.cells x152).toArray 37 (0, 0)) :: pt pb1 (.cells #[.int .i64 y1] 3 (0, 0)) :: pt pb2 (.cells #[.int .i64 q195] 3 (0, 0)) :: pt pb0 (.cells #[.int .i64 y0_0, .int .i64 y0_1, .slice a_y0_2 y0_2.length c_y0_2, .func (.func 71) #[] #[.pointer (some ⟨pb1, 0, none⟩), .pointer (some ⟨pb2, 0, none⟩)], .func (.func 70) #[] #[.pointer (some ⟨pb1, 0, none⟩), .pointer (some ⟨pb2, 0, none⟩)], .slice a_v0 y0_5.length c_v0, .slice a_v1 y0_6.length c_v1] 80 (0, 0)) :: vecC 3 1 a_v0 c_v0 y0_5.length cs187 :: vecC 4 1 a_v1 c_v1 y0_6.length cs193 :: R)) (w := _) (x := true) (y := true) (fun _ => hS) (fun _ => hS)
       have hF := hS; replace hS := hS
       refine Rg.take (i := 21) true rfl hE rfl (by kernel_rfl) (runs_plain rfl) (Gives.loadB hE 0 rfl rfl rfl ty3) rfl hT ?_; clear hE a; intro a hE
       replace hS := hF; clear hF hT
       refine Rg.takeP (i := 22) hE rfl (by kernel_rfl) (runs_plain rfl) (Gives.p hE rfl) rfl (tw_sel (fun _ => hS) (fun _ => hS)) ?_; clear hE a; intro a hE
       refine Rg.takeP (i := 23) hE rfl (by kernel_rfl) (runs_plain rfl) (Gives.p hE rfl) rfl (tw_sel (fun _ => hS) (fun _ => hS)) ?_; clear hE a; intro a hE
       have hT := tw_sel (A := fun w => St w s181 (pt b161 (.cells (PlanRule.cells x152).toArray 37 (0, 0)) :: pt pb1 (.cells #[.int .i64 y1] 3 (0, 0)) :: pt pb2 (.cells #[.int .i64 q195] 3 (0, 0)) :: pt pb0 (.cells #[.int .i64 y0_0, .int .i64 y0_1, .slice a_y0_2 y0_2.length c_y0_2, .func (.func 71) #[] #[.pointer (some ⟨pb1, 0, none⟩), .pointer (some ⟨pb2, 0, none⟩)], .func (.func 70) #[] #[.pointer (some ⟨pb1, 0, none⟩), .pointer (some ⟨pb2, 0, none⟩)], .slice a_v0 y0_5.length c_v0, .slice a_v1 y0_6.length c_v1] 80 (0, 0)) :: vecC 3 1 a_v0 c_v0 y0_5.length cs187 :: vecC 4 1 a_v1 c_v1 y0_6.length cs193 :: R)) (B := fun w => St w s181 (pt b161 (.cells (PlanRule.cells x152).toArray 37 (0, 0)) :: pt pb1 (.cells #[.int .i64 y1] 3 (0, 0)) :: pt pb2 (.cells #[.int .i64 q195] 3 (0, 0)) :: pt pb0 (.cells #[.int .i64 y0_0, .int .i64 y0_1, .slice a_y0_2 y0_2.length c_y0_2, .func (.func 71) #[] #[.pointer (some ⟨pb1, 0, none⟩), .pointer (some ⟨pb2, 0, none⟩)], .func (.func 70) #[] #[.pointer (some ⟨pb1, 0, none⟩), .pointer (some ⟨pb2, 0, none⟩)], .slice a_v0 y0_5.length c_v0, .slice a_v1 y0_6.length c_v1] 80 (0, 0)) :: vecC 3 1 a_v0 c_v0 y0_5.length cs187 :: vecC 4 1 a_v1 c_v1 y0_6.length cs193 :: R)) (w := _) (x := true) (y := true) (fun _ => hS) (fun _ => hS)
       have hF := hS; replace hS := hS
       refine Rg.take (i := 24) true rfl hE rfl (by kernel_rfl) (runs_plain rfl) (Gives.nilOk hE rfl) rfl hT ?_; clear hE a; intro a hE
       replace hS := hF; clear hF hT
       refine Rg.takeP (i := 25) hE rfl (by kernel_rfl) (runs_plain rfl) (Gives.fld hE rfl fl80_0) rfl (tw_sel (fun _ => hS) (fun _ => hS)) ?_; clear hE a; intro a hE
       refine Rg.takeP (i := 26) hE rfl (by kernel_rfl) (runs_plain rfl) (Gives.fld hE rfl fl24_0) rfl (tw_sel (fun _ => hS) (fun _ => hS)) ?_; clear hE a; intro a hE
       have hT := tw_sel (A := fun w => St w s181 (pt b161 (.cells (PlanRule.cells x152).toArray 37 (0, 0)) :: pt pb1 (.cells #[.int .i64 y1] 3 (0, 0)) :: pt pb2 (.cells #[.int .i64 q195] 3 (0, 0)) :: pt pb0 (.cells #[.int .i64 y0_0, .int .i64 y0_1, .slice a_y0_2 y0_2.length c_y0_2, .func (.func 71) #[] #[.pointer (some ⟨pb1, 0, none⟩), .pointer (some ⟨pb2, 0, none⟩)], .func (.func 70) #[] #[.pointer (some ⟨pb1, 0, none⟩), .pointer (some ⟨pb2, 0, none⟩)], .slice a_v0 y0_5.length c_v0, .slice a_v1 y0_6.length c_v1] 80 (0, 0)) :: vecC 3 1 a_v0 c_v0 y0_5.length cs187 :: vecC 4 1 a_v1 c_v1 y0_6.length cs193 :: R)) (B := fun w => St w s181 (pt b161 (.cells (PlanRule.cells x152).toArray 37 (0, 0)) :: pt pb1 (.cells #[.int .i64 y1] 3 (0, 0)) :: pt pb2 (.cells #[.int .i64 q195] 3 (0, 0)) :: pt pb0 (.cells #[.int .i64 y0_0, .int .i64 y0_1, .slice a_y0_2 y0_2.length c_y0_2, .func (.func 71) #[] #[.pointer (some ⟨pb1, 0, none⟩), .pointer (some ⟨pb2, 0, none⟩)], .func (.func 70) #[] #[.pointer (some ⟨pb1, 0, none⟩), .pointer (some ⟨pb2, 0, none⟩)], .slice a_v0 y0_5.length c_v0, .slice a_v1 y0_6.length c_v1] 80 (0, 0)) :: vecC 3 1 a_v0 c_v0 y0_5.length cs187 :: vecC 4 1 a_v1 c_v1 y0_6.length cs193 :: R)) (w := _) (x := true) (y := true) (fun _ => hS) (fun _ => hS)
       have hF := hS; replace hS := hS
       refine Rg.take (i := 27) true rfl hE rfl (by kernel_rfl) (runs_plain rfl) (Gives.loadB hE 3 rfl rfl rfl ty3) rfl hT ?_; clear hE a; intro a hE
       replace hS := hF; clear hF hT
       refine Rg.takeP (i := 28) hE rfl (by kernel_rfl) (runs_plain rfl) (Gives.p hE rfl) rfl (tw_sel (fun _ => hS) (fun _ => hS)) ?_; clear hE a; intro a hE
       refine Rg.takeP (i := 29) hE rfl (by kernel_rfl) (runs_plain rfl) (Gives.p hE rfl) rfl (tw_sel (fun _ => hS) (fun _ => hS)) ?_; clear hE a; intro a hE
       refine Rg.one (i := 30) true true rfl (by kernel_rfl) (by kernel_rfl) (by kernel_rfl) ?_
       obtain ⟨q202, hq203, hq172⟩ := bindS hq172
       have hc_ := PlanBoundsbetween_ok hS h1 hq203
       refine WL.fnq hE (hc_) (runs_plain rfl) bd72 rfl rfl rfl ?_
       clear hE hS hc_; rintro e w ⟨a204, s206, rfl, hle207, h205, hS⟩; refine ⟨_, rfl, ?_⟩; clear a; intro a hE
       replace h1 := Pt.mono RA.mono hle207 h1
       replace h95 := Sl.mono RI.mono hle207 h95
       replace h_y0_2 := Sl.mono RPlanRule.mono hle207 h_y0_2
       replace h186 := Ev.mono RI.mono hle207 h186
       replace h192 := Ev.mono RB.mono hle207 h192
       refine WL.nil ?_
       refine ⟨⟨fun _ => (St.down hle207 hS), fun _ => (St.down hle207 hS)⟩, ?_⟩
       refine Rg.takeP (i := 31) hE rfl (by kernel_rfl) (runs_plain rfl) (Gives.p hE rfl) rfl (tw_sel (fun _ => (St.down hle207 hS)) (fun _ => (St.down hle207 hS))) ?_; clear hE a; intro a hE
       refine Rg.takeP (i := 32) hE rfl (by kernel_rfl) (runs_plain rfl) (Gives.p hE rfl) rfl (tw_sel (fun _ => (St.down hle207 hS)) (fun _ => (St.down hle207 hS))) ?_; clear hE a; intro a hE
       refine Rg.takeP (i := 33) hE rfl (by kernel_rfl) (runs_plain rfl) (Gives.p hE rfl) rfl (tw_sel (fun _ => (St.down hle207 hS)) (fun _ => (St.down hle207 hS))) ?_; clear hE a; intro a hE
       refine Rg.takeP (i := 34) hE rfl (by kernel_rfl) (runs_plain rfl) (Gives.p hE rfl) rfl (tw_sel (fun _ => (St.down hle207 hS)) (fun _ => (St.down hle207 hS))) ?_; clear hE a; intro a hE
       refine Rg.takeP (i := 35) hE rfl (by kernel_rfl) (runs_plain rfl) (Gives.p hE rfl) rfl (tw_sel (fun _ => (St.down hle207 hS)) (fun _ => (St.down hle207 hS))) ?_; clear hE a; intro a hE
       refine Rg.done (by kernel_rfl) ?_
       subst hK201
       refine W.seq (W.region ?_)
       refine WL.vS hS hE (runs_plain rfl) (Gives.p hE rfl) rfl ?_; clear hE a; intro a hE
       refine WL.nil ?_
       obtain ⟨q209, hq208, hq172⟩ := bindS hq172
       refine W.cut (fun a w => ∃ (q212 : List Int), ∃ (q218 : List Bool), ∃ (q224 : Int), ∃ (cs216 : List Value), ∃ (cs222 : List Value), ∃ (s210 : Sg), s206.Le s210 ∧ (q212, q218, q224) = q209 ∧ Ev 1 (RI .i64) s210 cs216 q212 ∧ q212.length = y0_5.length ∧ Ev 1 RB s210 cs222 q218 ∧ q218.length = y0_6.length ∧ Rep a 142 [(0, .pointer (some ⟨pb0, 0, none⟩)), (1, .pointer a1), (4, .int .i64 q91), (9, .pointer (some ⟨b161, 0, none⟩)), (84, .slice a93 q92.length c94), (85, .int .i64 ((q92).length : Int)), (86, .int .i64 ((k174 : Nat) : Int))] ∧ St w s210 (pt b161 (.cells (PlanRule.cells x152).toArray 37 (0, 0)) :: pt pb1 (.cells #[.int .i64 y1] 3 (0, 0)) :: pt pb2 (.cells #[.int .i64 q224] 3 (0, 0)) :: pt pb0 (.cells #[.int .i64 y0_0, .int .i64 y0_1, .slice a_y0_2 y0_2.length c_y0_2, .func (.func 71) #[] #[.pointer (some ⟨pb1, 0, none⟩), .pointer (some ⟨pb2, 0, none⟩)], .func (.func 70) #[] #[.pointer (some ⟨pb1, 0, none⟩), .pointer (some ⟨pb2, 0, none⟩)], .slice a_v0 y0_5.length c_v0, .slice a_v1 y0_6.length c_v1] 80 (0, 0)) :: vecC 3 1 a_v0 c_v0 y0_5.length cs216 :: vecC 4 1 a_v1 c_v1 y0_6.length cs222 :: R)) ?_ ?_
       ·refine W.gen fun K225 hK225 => ?_
        refine W.cond hE rfl (fun hc226 => ?_) (fun hc226 => ?_)
        ·replace hq208 := iteT hc226 hq208
         refine W.seq (W.region ?_)
         refine WL.vS hS hE (runs_plain rfl) (Gives.p hE rfl) rfl ?_; clear hE a; intro a hE
         refine WL.vS hS hE (runs_plain rfl) (Gives.nilOk hE rfl) rfl ?_; clear hE a; intro a hE
         refine WL.vS hS hE (runs_plain rfl) (Gives.fld hE rfl fl80_3) rfl ?_; clear hE a; intro a hE
         refine WL.vS hS hE (runs_plain rfl) (Gives.loadB hE 3 rfl rfl rfl ty29) rfl ?_; clear hE a; intro a hE
         refine WL.vS hS hE (runs_plain rfl) (Gives.p hE rfl) rfl ?_; clear hE a; intro a hE
         refine WL.vS hS hE (runs_plain rfl) (Gives.p hE rfl) rfl ?_; clear hE a; intro a hE
         obtain ⟨_, hx228, hq208⟩ := bindS hq208
         obtain ⟨h229, h230⟩ := ix_some hx228
         refine WL.vS hS hE (runs_plain rfl) (Gives.idx hE ((q91).toNat) rfl rfl sl29 h229 (by have := hn188; omega) (hS.vecAok 4 rfl (by have := hn188; omega : (q91).toNat < y0_5.length))) rfl ?_; clear hE a; intro a hE
         obtain ⟨x232, hx233, hq208⟩ := bindS hq208
         refine WL.setD hE hS 4 rfl (runs_plain rfl) rfl rfl (vs := [.int .i64 x175]) rfl ty3 rfl rfl rfl h186 hn188 (sx_some hx233).1 hx233 rfl rfl ?_; clear hE hS a w; intro cs234 a w h235 hn236 hE hS
         refine WL.nil ?_
         refine W.region ?_
         refine WL.vS hS hE (runs_plain rfl) (Gives.p hE rfl) rfl ?_; clear hE a; intro a hE
         refine WL.vS hS hE (runs_plain rfl) (Gives.p hE rfl) rfl ?_; clear hE a; intro a hE
         obtain ⟨q237, hq238, hq208⟩ := bindS hq208
         replace hS := hS.front 5 rfl
         replace hS := hS.front 5 rfl
         replace hS := hS.front 4 rfl
         replace hS := hS.front 4 rfl
         replace hS := hS.front 5 rfl
         have hc_ := ih_PlanSearchrun_v1 hS h205 h_y0_2 h235 hn236 h192 hn194 hq238
         refine WL.fnq hE (hc_) (runs_plain rfl) bd54 rfl rfl rfl ?_
         clear hE hS hc_; rintro e w ⟨cs239, cs242, s245, rfl, hle246, h240, hn241, h243, hn244, hS⟩; refine ⟨_, rfl, ?_⟩; clear a; intro a hE
         replace h1 := Pt.mono RA.mono hle246 h1
         replace h95 := Sl.mono RI.mono hle246 h95
         replace h205 := Pt.mono RA.mono hle246 h205
         replace h_y0_2 := Sl.mono RPlanRule.mono hle246 h_y0_2
         replace h235 := Ev.mono RI.mono hle246 h235
         replace h192 := Ev.mono RB.mono hle246 h192
         refine WL.nil ?_
         replace hS := hS.front 4 rfl
         replace hS := hS.front 4 rfl
         replace hS := hS.front 2 rfl
         replace hS := hS.front 4 rfl
         replace hS := hS.front 4 rfl
         replace hS := hS.front 5 rfl
         subst hK225
         exact ⟨q237.1, q237.2.1, q237.2.2, cs239, cs242, s245, hle246, Option.some.inj hq208, h240, hn241, h243, hn244, hE.pick _ ⟨rfl, rfl, rfl, rfl, rfl, rfl, rfl, trivial⟩, hS⟩
        ·replace hq208 := iteF hc226 hq208
         refine W.skip ?_
         subst hK225
         exact ⟨q183, q189, q195, cs187, cs193, s206, (Sg.Le.refl _), Option.some.inj hq208, h186, hn188, h192, hn194, hE.pick _ ⟨rfl, rfl, rfl, rfl, rfl, rfl, rfl, trivial⟩, hS⟩
       ·clear hE hS a w; rintro a w ⟨q212, q218, q224, cs216, cs222, s210, hle211, rfl, h215, hn217, h221, hn223, hE, hS⟩
        dsimp only at hq172
        replace h1 := Pt.mono RA.mono hle211 h1
        replace h95 := Sl.mono RI.mono hle211 h95
        replace h_y0_2 := Sl.mono RPlanRule.mono hle211 h_y0_2
        replace h186 := Ev.mono RI.mono hle211 h186
        replace h192 := Ev.mono RB.mono hle211 h192
        refine W.region ?_
        refine WL.vS hS hE (runs_plain rfl) (Gives.inc hE rfl (by have := h95.small; omega)) rfl ?_; clear hE a; intro a hE
        refine WL.vS hS hE (runs_plain rfl) (Gives.p hE rfl) rfl ?_; clear hE a; intro a hE
        refine WL.nil ?_
        subst hK196
        exact ⟨rest176.length, Nat.lt_succ_self _, rest176, k174 + 1, q212, q218, q224, cs216, cs222, s210, rfl, hd177, (Sg.Le.trans (Sg.Le.trans hle182 hle207) hle211), hq172, h215, hn217, h221, hn223, hE.pick _ ⟨rfl, rfl, rfl, rfl, rfl, rfl, rfl, trivial⟩, hS⟩
     ·clear hE hS a w; rintro a w ⟨q183, q189, q195, cs187, cs193, s181, hle182, rfl, h186, hn188, h192, hn194, hE, hS⟩
      dsimp only at hr
      replace h1 := Pt.mono RA.mono hle182 h1
      replace h95 := Sl.mono RI.mono hle182 h95
      replace h_y0_2 := Sl.mono RPlanRule.mono hle182 h_y0_2
      replace h_v0 := Ev.mono RI.mono hle182 h_v0
      replace h170 := Ev.mono RB.mono hle182 h170
      refine W.region ?_
      refine WL.vS hS hE (runs_plain rfl) (Gives.p hE rfl) rfl ?_; clear hE a; intro a hE
      refine WL.vS hS hE (runs_plain rfl) (Gives.nilOk hE rfl) rfl ?_; clear hE a; intro a hE
      refine WL.vS hS hE (runs_plain rfl) (Gives.fld hE rfl fl80_4) rfl ?_; clear hE a; intro a hE
      refine WL.vS hS hE (runs_plain rfl) (Gives.loadB hE 3 rfl rfl rfl ty71) rfl ?_; clear hE a; intro a hE
      refine WL.vS hS hE (runs_plain rfl) (Gives.p hE rfl) rfl ?_; clear hE a; intro a hE
      obtain ⟨_, hx248, hr⟩ := bindS hr
      obtain ⟨h249, h250⟩ := ix_some hx248
      refine WL.vS hS hE (runs_plain rfl) (Gives.idx hE ((q91).toNat) rfl rfl sl71 h249 (by have := hn194; omega) (hS.vecAok 5 rfl (by have := hn194; omega : (q91).toNat < y0_6.length))) rfl ?_; clear hE a; intro a hE
      obtain ⟨x252, hx253, hr⟩ := bindS hr
      refine WL.setD hE hS 5 rfl (runs_plain rfl) rfl rfl (vs := [.bool true]) rfl ty4 rfl rfl rfl h192 hn194 (sx_some hx253).1 hx253 rfl rfl ?_; clear hE hS a w; intro cs254 a w h255 hn256 hE hS
      refine WL.nil ?_
      refine finG (fn := Try.f54) (rs := []) (vs := []) hE rfl trivial ?_
      obtain rfl := Option.some.inj hr
      replace hS := hS.front 5 rfl
      replace hS := hS.front 5 rfl
      replace hS := hS.front 4 rfl
      replace hS := hS.front 4 rfl
      replace hS := hS.front 5 rfl
      replace hS := hS.dropAt 5
      exact ⟨cs187, cs254, s181, rfl, (Sg.Le.trans hle90 hle182), h186, hn188, h255, hn256, hS⟩
set_option maxHeartbeats 8000000 in
theorem Plansolve_ok {fu : Nat}  {w : World} {s : Sg} {R : List HP} {x0 : PlanPeriodic} {a0_0 : Option Addr} {c0_0 : Nat} (hS : St w s (R)) (h0_0 : Sl 5 RPlanRule s a0_0 c0_0 x0.Rules) {r : (List Int)} (hr : Plansolve fu x0 = some r) :
  Calls Try.prog 43 [.agg [.int .i64 x0.Period, .int .i64 x0.Events, .slice a0_0 x0.Rules.length c0_0].toArray].toArray w (fun e w => ∃ (a0 : Option Addr) (c0 : Nat) (t : Sg), e = .returned (.slice a0 r.length c0) ∧ s.Le t ∧ Sl 1 (RI .i64) t a0 c0 r ∧ (r = [] → a0 = none) ∧ St w t (R)) := by
 refine enter Try.func43 rfl rfl rfl fun a hE => ?_
 rw [Plansolve] at hr
 refine W.seq (W.region ?_)
 refine WL.box hE hS (runs_plain rfl) rfl rfl rfl ?_; clear hE hS a w; intro b51 a w hE hS
 refine WL.vS hS hE (runs_plain rfl) (Gives.p hE rfl) rfl ?_; clear hE a; intro a hE
 refine WL.nil ?_
 refine W.seq (W.region ?_)
 refine WL.vS hS hE (runs_plain rfl) (Gives.loadBA hE 0 rfl rfl ty24) rfl ?_; clear hE a; intro a hE
 obtain ⟨q52, hq53, hr⟩ := bindS hr
 have hc_ := PlannewSearch_ok hS h0_0 hq53
 refine WL.fnq hE (hc_) (runs_plain rfl) bd48 rfl rfl rfl ?_
 clear hE hS hc_; rintro e w ⟨b54, a55, c56, a58, c59, n60, cs61, a64, c65, n66, cs67, s70, rfl, hle71, h57, h62, rfl, h68, rfl, hS⟩; refine ⟨_, rfl, ?_⟩; clear a; intro a hE
 replace h0_0 := Sl.mono RPlanRule.mono hle71 h0_0
 refine WL.vS hS hE (runs_plain rfl) (Gives.p hE rfl) rfl ?_; clear hE a; intro a hE
 refine WL.nil ?_
 refine W.seq (W.region ?_)
 refine WL.vS hS hE (runs_plain rfl) (Gives.p hE rfl) rfl ?_; clear hE a; intro a hE
 obtain ⟨q72, hq73, hr⟩ := bindS hr
 have hc_ := PlanSearchstart_v1_ok hS h57 h62 rfl h68 rfl hq73
 refine WL.fnq hE (hc_) (runs_plain rfl) bd53 rfl rfl rfl ?_
 clear hE hS hc_; rintro e w ⟨a74, s76, rfl, hle77, h75, hS⟩; refine ⟨_, rfl, ?_⟩; clear a; intro a hE
 replace h0_0 := Sl.mono RPlanRule.mono hle77 h0_0
 replace h57 := Sl.mono RPlanRule.mono hle77 h57
 replace h62 := Ev.mono RI.mono hle77 h62
 replace h68 := Ev.mono RB.mono hle77 h68
 refine WL.vS hS hE (runs_plain rfl) (Gives.p hE rfl) rfl ?_; clear hE a; intro a hE
 refine WL.nil ?_
 refine W.seq (W.region ?_)
 refine WL.lit hE hS (e := 3) (es := 1) (vs := [(0, .int .i64 0)]) (cs := [.int .i64 0]) (runs_plain rfl) rfl (by kernel_rfl) rfl ?_; clear hE hS a w; intro b78 a w hE hS
 replace hS := hS.ptVec (es := 1) (m := 1) rfl (by decide)
 have h80 : Ev 1 (RI .i64) s76 [.int .i64 0] [0] := (Ev.cons (c1 := [.int .i64 0]) rfl rfl (Ev.nil))
 refine WL.vS hS hE (runs_plain rfl) (Gives.p hE rfl) rfl ?_; clear hE a; intro a hE
 refine WL.nil ?_
 refine W.seq ?_
 refine W.seq (W.region ?_)
 refine WL.alloc hE hS (runs_plain rfl) zr3 rfl ?_; clear hE hS a w; intro b81 a w hE hS
 refine WL.storeI hE hS 0 rfl [.int .i64 1] (runs_plain rfl) rfl rfl rfl ty3 rfl rfl rfl rfl ?_; clear hE hS a w; intro a w hE hS
 refine WL.nil ?_
 obtain ⟨q83, hq82, hr⟩ := bindS hr
 refine W.cut (fun a w => ∃ (q88 : Option (List Int)), ∃ (q91 : List Int), ∃ (q99 : Int), ∃ (q100 : List Int), ∃ (q106 : List Bool), ∃ (q112 : Unit), ∃ (q114 : Unit), ∃ (a89 : Option Addr), ∃ (a92 : Option Addr), ∃ (c93 : Nat), ∃ (n95 : Nat), ∃ (cs96 : List Value), ∃ (b98 : Nat), ∃ (cs104 : List Value), ∃ (cs110 : List Value), ∃ (f113 : Value), ∃ (f115 : Value), ∃ (s86 : Sg), s76.Le s86 ∧ (.next (q88, q91, q99, q100, q106, q112, q114)) = q83 ∧ Pt 64 (RA .i64 64) s86 a89 q88 ∧ Ev 1 (RI .i64) s86 cs96 q91 ∧ q91.length = n95 ∧ Ev 1 (RI .i64) s86 cs104 q100 ∧ q100.length = q52.2.2.2.1.length ∧ Ev 1 RB s86 cs110 q106 ∧ q106.length = q52.2.2.2.2.length ∧ Rep a 52 [(5, .slice a92 n95 c93)] ∧ St w s86 (pt b98 (.cells #[.int .i64 q99] 3 (0, 0)) :: vecC 3 1 a92 c93 n95 cs96 :: pt b54 (.cells #[.int .i64 q52.1, .int .i64 q52.2.1, .slice a55 q52.2.2.1.length c56, f113, f115, .slice a58 q52.2.2.2.1.length c59, .slice a64 q52.2.2.2.2.length c65] 80 (0, 0)) :: vecC 3 1 a58 c59 q52.2.2.2.1.length cs104 :: vecC 4 1 a64 c65 q52.2.2.2.2.length cs110 :: pt b51 (.cells #[.int .i64 x0.Period, .int .i64 x0.Events, .slice a0_0 x0.Rules.length c0_0] 24 (0, 0)) :: R)) ?_ ?_
 ·refine W.block ?_
  refine W.loop (fun m a w => ∃ (n84 : Nat), ∃ (q88 : Option (List Int)), ∃ (q91 : List Int), ∃ (q99 : Int), ∃ (q100 : List Int), ∃ (q106 : List Bool), ∃ (q112 : Unit), ∃ (q114 : Unit), ∃ (a89 : Option Addr), ∃ (a92 : Option Addr), ∃ (c93 : Nat), ∃ (n95 : Nat), ∃ (cs96 : List Value), ∃ (b98 : Nat), ∃ (cs104 : List Value), ∃ (cs110 : List Value), ∃ (f113 : Value), ∃ (f115 : Value), ∃ (s86 : Sg), n84 = m ∧ s76.Le s86 ∧ Plansolve.loop1 x0 fu q52 n84 q88 q91 q99 q100 q106 q112 q114 = some q83 ∧ Pt 64 (RA .i64 64) s86 a89 q88 ∧ Ev 1 (RI .i64) s86 cs96 q91 ∧ q91.length = n95 ∧ Ev 1 (RI .i64) s86 cs104 q100 ∧ q100.length = q52.2.2.2.1.length ∧ Ev 1 RB s86 cs110 q106 ∧ q106.length = q52.2.2.2.2.length ∧ Rep a 52 [(1, .pointer (some ⟨b51, 0, none⟩)), (3, .pointer (some ⟨b54, 0, none⟩)), (4, .pointer a89), (5, .slice a92 n95 c93), (6, .pointer (some ⟨b98, 0, none⟩))] ∧ St w s86 (pt b98 (.cells #[.int .i64 q99] 3 (0, 0)) :: vecC 3 1 a92 c93 n95 cs96 :: pt b54 (.cells #[.int .i64 q52.1, .int .i64 q52.2.1, .slice a55 q52.2.2.1.length c56, f113, f115, .slice a58 q52.2.2.2.1.length c59, .slice a64 q52.2.2.2.2.length c65] 80 (0, 0)) :: vecC 3 1 a58 c59 q52.2.2.2.1.length cs104 :: vecC 4 1 a64 c65 q52.2.2.2.2.length cs110 :: pt b51 (.cells #[.int .i64 x0.Period, .int .i64 x0.Events, .slice a0_0 x0.Rules.length c0_0] 24 (0, 0)) :: R)) (m := fu) ⟨fu, q72, [0], 1, q52.2.2.2.1, q52.2.2.2.2, (), (), a74, (some ⟨b78, 0, none⟩), 1, 1, [.int .i64 0], b81, cs61, cs67, .nilFunc, (.func (.func 78) #[] #[]), s76, rfl, (Sg.Le.refl _), hq82, h75, h80, (rfl), h62, rfl, h68, rfl, hE.pick _ ⟨rfl, rfl, rfl, rfl, rfl, trivial⟩, hS⟩ ?_
  clear hE hS a w hq82; rintro m85 a w ⟨n84, q88, q91, q99, q100, q106, q112, q114, a89, a92, c93, n95, cs96, b98, cs104, cs110, f113, f115, s86, rfl, hle87, hq82, h90, h94, rfl, h103, hn105, h109, hn111, hE, hS⟩
  refine W.gen fun K116 hK116 => ?_
  replace h0_0 := Sl.mono RPlanRule.mono hle87 h0_0
  replace h75 := Pt.mono RA.mono hle87 h75
  replace h80 := Ev.mono RI.mono hle87 h80
  replace h57 := Sl.mono RPlanRule.mono hle87 h57
  replace h62 := Ev.mono RI.mono hle87 h62
  replace h68 := Ev.mono RB.mono hle87 h68
  rcases n84 with _ | n84
  ·rw [Plansolve.loop1] at hq82; exact absurd hq82 (by simp)
  rw [Plansolve.loop1] at hq82
  refine W.seq ?_
  refine W.seq (W.region ?_)
  refine WL.vS hS hE (runs_plain rfl) (Gives.loadB hE 0 rfl rfl rfl ty3) rfl ?_; clear hE a; intro a hE
  refine WL.vS hS hE (runs_plain rfl) (Gives.fld hE rfl fl24_1) rfl ?_; clear hE a; intro a hE
  refine WL.vS hS hE (runs_plain rfl) (Gives.loadB hE 5 rfl rfl rfl ty3) rfl ?_; clear hE a; intro a hE
  refine WL.vS hS hE (runs_plain rfl) (Gives.p hE rfl) rfl ?_; clear hE a; intro a hE
  refine WL.nil ?_
  refine W.cond hE rfl (fun hc117 => ?_) (fun hc117 => ?_)
  ·replace hq82 := iteT hc117 hq82
   refine W.skip ?_
   refine W.seq ?_
   refine W.block ?_
   refine W.seq (W.region ?_)
   refine WL.vS hS hE (runs_plain rfl) (Gives.fld hE rfl fl24_0) rfl ?_; clear hE a; intro a hE
   refine WL.vS hS hE (runs_plain rfl) (Gives.loadB hE 5 rfl rfl rfl ty3) rfl ?_; clear hE a; intro a hE
   refine WL.alloc hE hS (runs_plain rfl) zr3 rfl ?_; clear hE hS a w; intro b118 a w hE hS
   refine WL.storeI hE hS 0 rfl [.int .i64 x0.Period] (runs_plain rfl) rfl rfl rfl ty3 rfl rfl rfl rfl ?_; clear hE hS a w; intro a w hE hS
   refine WL.nil ?_
   refine W.seq (W.region ?_)
   refine WL.vS hS hE (runs_plain rfl) (Gives.p hE rfl) rfl ?_; clear hE a; intro a hE
   refine WL.vS hS hE (runs_plain rfl) (Gives.mkfn hE (vs := [.pointer (some ⟨b98, 0, none⟩), .pointer (some ⟨b118, 0, none⟩)]) rfl) rfl ?_; clear hE a; intro a hE
   refine WL.vS hS hE (runs_plain rfl) (Gives.nilOk hE rfl) rfl ?_; clear hE a; intro a hE
   refine WL.vS hS hE (runs_plain rfl) (Gives.fld hE rfl fl80_2) rfl ?_; clear hE a; intro a hE
   refine WL.storeI hE hS 3 rfl [.int .i64 q52.1, .int .i64 q52.2.1, .slice a55 q52.2.2.1.length c56, f113, .func (.func 70) #[] #[.pointer (some ⟨b98, 0, none⟩), .pointer (some ⟨b118, 0, none⟩)], .slice a58 q52.2.2.2.1.length c59, .slice a64 q52.2.2.2.2.length c65] (runs_plain rfl) rfl rfl rfl ty78 rfl rfl rfl rfl ?_; clear hE hS a w; intro a w hE hS
   refine WL.nil ?_
   refine W.seq (W.region ?_)
   refine WL.vS hS hE (runs_plain rfl) (Gives.p hE rfl) rfl ?_; clear hE a; intro a hE
   refine WL.vS hS hE (runs_plain rfl) (Gives.mkfn hE (vs := [.pointer (some ⟨b98, 0, none⟩), .pointer (some ⟨b118, 0, none⟩)]) rfl) rfl ?_; clear hE a; intro a hE
   refine WL.vS hS hE (runs_plain rfl) (Gives.nilOk hE rfl) rfl ?_; clear hE a; intro a hE
   refine WL.vS hS hE (runs_plain rfl) (Gives.fld hE rfl fl80_1) rfl ?_; clear hE a; intro a hE
   refine WL.storeI hE hS 3 rfl [.int .i64 q52.1, .int .i64 q52.2.1, .slice a55 q52.2.2.1.length c56, .func (.func 71) #[] #[.pointer (some ⟨b98, 0, none⟩), .pointer (some ⟨b118, 0, none⟩)], .func (.func 70) #[] #[.pointer (some ⟨b98, 0, none⟩), .pointer (some ⟨b118, 0, none⟩)], .slice a58 q52.2.2.2.1.length c59, .slice a64 q52.2.2.2.2.length c65] (runs_plain rfl) rfl rfl rfl ty77 rfl rfl rfl rfl ?_; clear hE hS a w; intro a w hE hS
   refine WL.nil ?_
   refine W.seq (W.region ?_)
   refine WL.vS hS hE (runs_plain rfl) (Gives.p hE rfl) rfl ?_; clear hE a; intro a hE
   refine WL.vS hS hE (runs_plain rfl) (Gives.p hE rfl) rfl ?_; clear hE a; intro a hE
   obtain ⟨q119, hq120, hq82⟩ := bindS hq82
   replace hS := hS.front 5 rfl
   replace hS := hS.front 5 rfl
   replace hS := hS.front 2 rfl
   replace hS := hS.front 3 rfl
   replace hS := hS.front 5 rfl
   have hc_ := PlanSearchrun_v1_ok hS h90 h57 h103 hn105 h109 hn111 hq120
   refine WL.fnq hE (hc_) (runs_plain rfl) bd54 rfl rfl rfl ?_
   clear hE hS hc_; rintro e w ⟨cs121, cs124, s127, rfl, hle128, h122, hn123, h125, hn126, hS⟩; refine ⟨_, rfl, ?_⟩; clear a; intro a hE
   replace h90 := Pt.mono RA.mono hle128 h90
   replace h57 := Sl.mono RPlanRule.mono hle128 h57
   replace h103 := Ev.mono RI.mono hle128 h103
   replace h109 := Ev.mono RB.mono hle128 h109
   replace h94 := Ev.mono RI.mono hle128 h94
   replace h0_0 := Sl.mono RPlanRule.mono hle128 h0_0
   refine WL.nil ?_
   refine W.seq ?_
   refine W.seq (W.region ?_)
   refine WL.vS hS hE (runs_plain rfl) (Gives.loadB hE 2 rfl rfl rfl ty3) rfl ?_; clear hE a; intro a hE
   refine WL.vS hS hE (runs_plain rfl) (Gives.fld hE rfl fl24_0) rfl ?_; clear hE a; intro a hE
   refine WL.vS hS hE (runs_plain rfl) (Gives.loadB hE 6 rfl rfl rfl ty3) rfl ?_; clear hE a; intro a hE
   refine WL.vS hS hE (runs_plain rfl) (Gives.p hE rfl) rfl ?_; clear hE a; intro a hE
   refine WL.nil ?_
   refine W.cond hE rfl (fun hc129 => ?_) (fun hc129 => ?_)
   ·replace hq82 := iteT hc129 hq82
    refine W.seq (W.region ?_)
    refine WL.vS hS hE (runs_plain rfl) (Gives.p hE rfl) rfl ?_; clear hE a; intro a hE
    refine WL.nil ?_
    refine W.ret ?_
    subst hK116
    rw [← Option.some.inj hq82] at hr
    dsimp only at hr
    refine finG (fn := Try.f43) (rs := [.tmp 2]) (vs := [_]) hE rfl ⟨rfl, trivial⟩ ?_
    obtain rfl := Option.some.inj hr
    replace hS := hS.tail
    replace hS := hS.tail
    replace hS := hS.tail
    replace hS := hS.tail
    replace hS := hS.tail
    replace hS := hS.tail
    replace hS := hS.tail
    exact ⟨none, 0, s127, rfl, (Sg.Le.trans (Sg.Le.trans (Sg.Le.trans hle71 hle77) hle87) hle128), Sl.nil, (fun _ => rfl), hS⟩
   ·replace hq82 := iteF hc129 hq82
    refine W.skip ?_
    refine W.seq (W.region ?_)
    refine WL.vS hS hE (runs_plain rfl) (Gives.p hE rfl) rfl ?_; clear hE a; intro a hE
    refine WL.vS hS hE (runs_plain rfl) (Gives.loadB hE 2 rfl rfl rfl ty3) rfl ?_; clear hE a; intro a hE
    refine WL.lit hE hS (e := 3) (es := 1) (vs := [(0, .int .i64 q119.2.2)]) (cs := [.int .i64 q119.2.2]) (runs_plain rfl) rfl (by kernel_rfl) rfl ?_; clear hE hS a w; intro b130 a w hE hS
    obtain ⟨x131, hx132, hq82⟩ := bindS hq82
    refine WL.appD hE hS 5 (m := 1) (runs_plain rfl) rfl rfl rfl ap29 rfl h94 rfl (xs := [q119.2.2]) (Ev.cons (c1 := [.int .i64 q119.2.2]) rfl rfl (Ev.nil)) rfl rfl hx132 rfl ?_; clear hE hS a w; intro a133 c134 cs135 a w h136 hE hS
    refine WL.vS hS hE (runs_plain rfl) (Gives.p hE rfl) rfl ?_; clear hE a; intro a hE
    refine WL.nil ?_
    refine W.region ?_
    refine WL.vS hS hE (runs_plain rfl) (Gives.p hE rfl) rfl ?_; clear hE a; intro a hE
    refine WL.vS hS hE (runs_plain rfl) (Gives.fld hE rfl fl24_1) rfl ?_; clear hE a; intro a hE
    refine WL.vS hS hE (runs_plain rfl) (Gives.loadB hE 6 rfl rfl rfl ty3) rfl ?_; clear hE a; intro a hE
    refine WL.vS hS hE (runs_plain rfl) (Gives.loadB hE 1 rfl rfl rfl ty3) rfl ?_; clear hE a; intro a hE
    refine WL.vS hS hE (runs_plain rfl) (Gives.loadB hE 2 rfl rfl rfl ty3) rfl ?_; clear hE a; intro a hE
    refine WL.vS hS hE (runs_plain rfl) (Gives.loadB hE 2 rfl rfl rfl ty3) rfl ?_; clear hE a; intro a hE
    obtain ⟨q137, hq138, hq82⟩ := bindS hq82
    have hc_ := PlanBoundsbetween_ok hS h90 hq138
    refine WL.fnq hE (hc_) (runs_plain rfl) bd72 rfl rfl rfl ?_
    clear hE hS hc_; rintro e w ⟨a139, s141, rfl, hle142, h140, hS⟩; refine ⟨_, rfl, ?_⟩; clear a; intro a hE
    replace h90 := Pt.mono RA.mono hle142 h90
    replace h57 := Sl.mono RPlanRule.mono hle142 h57
    replace h122 := Ev.mono RI.mono hle142 h122
    replace h125 := Ev.mono RB.mono hle142 h125
    replace h136 := Ev.mono RI.mono hle142 h136
    replace h0_0 := Sl.mono RPlanRule.mono hle142 h0_0
    refine WL.vS hS hE (runs_plain rfl) (Gives.p hE rfl) rfl ?_; clear hE a; intro a hE
    refine WL.vS hS hE (runs_plain rfl) (Gives.p hE rfl) rfl ?_; clear hE a; intro a hE
    refine WL.vS hS hE (runs_plain rfl) (Gives.p hE rfl) rfl ?_; clear hE a; intro a hE
    refine WL.vS hS hE (runs_plain rfl) (Gives.p hE rfl) rfl ?_; clear hE a; intro a hE
    refine WL.nil ?_
    refine W.seq ?_
    refine W.seq (W.region ?_)
    refine WL.vS hS hE (runs_plain rfl) (Gives.loadB hE 1 rfl rfl rfl ty3) rfl ?_; clear hE a; intro a hE
    refine WL.nil ?_
    refine W.region ?_
    refine WL.alloc hE hS (runs_plain rfl) zr3 rfl ?_; clear hE hS a w; intro b143 a w hE hS
    refine WL.storeI hE hS 0 rfl [.int .i64 q99] (runs_plain rfl) rfl rfl rfl ty3 rfl rfl rfl rfl ?_; clear hE hS a w; intro a w hE hS
    refine WL.nil ?_
    refine W.region ?_
    refine WL.vS hS hE (runs_plain rfl) (Gives.loadB hE 0 rfl rfl rfl ty3) rfl ?_; clear hE a; intro a hE
    refine WL.vS hS hE (runs_plain rfl) (Gives.p hE rfl) rfl ?_; clear hE a; intro a hE
    refine WL.storeI hE hS 0 rfl [.int .i64 (w64 (q99 + 1))] (runs_plain rfl) rfl rfl rfl ty3 rfl rfl rfl rfl ?_; clear hE hS a w; intro a w hE hS
    refine WL.nil ?_
    replace hS := hS.dropAt 2
    replace hS := hS.dropAt 2
    replace hS := hS.front 5 rfl
    replace hS := hS.front 4 rfl
    replace hS := hS.front 4 rfl
    replace hS := hS.front 4 rfl
    replace hS := hS.front 5 rfl
    replace hS := hS.front 5 rfl
    subst hK116
    exact ⟨n84, Nat.lt_succ_self _, n84, q137.1, x131, (w64 (q99 + 1)), q119.1, q119.2.1, (), (), a139, a133, c134, x131.length, cs135, b143, cs121, cs124, (.func (.func 71) #[] #[.pointer (some ⟨b98, 0, none⟩), .pointer (some ⟨b118, 0, none⟩)]), (.func (.func 70) #[] #[.pointer (some ⟨b98, 0, none⟩), .pointer (some ⟨b118, 0, none⟩)]), s141, rfl, (Sg.Le.trans (Sg.Le.trans hle87 hle128) hle142), hq82, h140, h136, (rfl), h122, hn123, h125, hn126, hE.pick _ ⟨rfl, rfl, rfl, rfl, rfl, trivial⟩, hS⟩
  ·replace hq82 := iteF hc117 hq82
   subst hK116
   refine W.exit rfl ?_
   exact ⟨q88, q91, q99, q100, q106, (), (), a89, a92, c93, q91.length, cs96, b98, cs104, cs110, f113, f115, s86, hle87, Option.some.inj hq82, h90, h94, rfl, h103, hn105, h109, hn111, hE.pick _ ⟨rfl, trivial⟩, hS⟩
 ·clear hE hS a w; rintro a w ⟨q88, q91, q99, q100, q106, q112, q114, a89, a92, c93, n95, cs96, b98, cs104, cs110, f113, f115, s86, hle87, rfl, h90, h94, rfl, h103, hn105, h109, hn111, hE, hS⟩
  dsimp only at hr
  replace h0_0 := Sl.mono RPlanRule.mono hle87 h0_0
  replace h75 := Pt.mono RA.mono hle87 h75
  replace h80 := Ev.mono RI.mono hle87 h80
  replace h57 := Sl.mono RPlanRule.mono hle87 h57
  replace h62 := Ev.mono RI.mono hle87 h62
  replace h68 := Ev.mono RB.mono hle87 h68
  refine W.seq (W.region ?_)
  refine WL.vS hS hE (runs_plain rfl) (Gives.p hE rfl) rfl ?_; clear hE a; intro a hE
  have hF := hS.fixD RI.mono 1 rfl h94 rfl; clear hS; obtain ⟨s144, hle145, hS, h146⟩ := hF
  replace h90 := Pt.mono RA.mono hle145 h90
  replace h57 := Sl.mono RPlanRule.mono hle145 h57
  replace h103 := Ev.mono RI.mono hle145 h103
  replace h109 := Ev.mono RB.mono hle145 h109
  replace h0_0 := Sl.mono RPlanRule.mono hle145 h0_0
  obtain ⟨_, hx147, hr⟩ := bindS hr
  refine WL.vS hS hE (runs_plain rfl) (Gives.p hE rfl) rfl ?_; clear hE a; intro a hE
  refine WL.nil ?_
  refine W.ret ?_
  refine finG (fn := Try.f43) (rs := [.tmp 2]) (vs := [_]) hE rfl ⟨rfl, trivial⟩ ?_
  obtain rfl := Option.some.inj hr
  replace hS := hS.tail
  replace hS := hS.tail
  replace hS := hS.tail
  replace hS := hS.tail
  replace hS := hS.tail
  exact ⟨a92, c93, s144, rfl, (Sg.Le.trans (Sg.Le.trans (Sg.Le.trans hle71 hle77) hle87) hle145), h146, (nz_some hx147), hS⟩
set_option maxHeartbeats 8000000 in
theorem PlanSolve_ok {fu : Nat}  {w : World} {s : Sg} {R : List HP} {x0 : PlanPeriodic} {a0_0 : Option Addr} {c0_0 : Nat} (hS : St w s (R)) (h0_0 : Sl 5 RPlanRule s a0_0 c0_0 x0.Rules) {r : (List Int) × Int} (hr : PlanSolve fu x0 = some r) :
  Calls Try.prog 19 [.agg [.int .i64 x0.Period, .int .i64 x0.Events, .slice a0_0 x0.Rules.length c0_0].toArray].toArray w (fun e w => ∃ (a0 : Option Addr) (c0 : Nat) (t : Sg), e = .returned (.tuple #[.slice a0 r.1.length c0, .int .i64 r.2]) ∧ s.Le t ∧ Sl 1 (RI .i64) t a0 c0 r.1 ∧ St w t (R)) := by
 refine enter Try.func19 rfl rfl rfl fun a hE => ?_
 rw [PlanSolve] at hr
 refine W.seq (W.region ?_)
 refine WL.box hE hS (runs_plain rfl) rfl rfl rfl ?_; clear hE hS a w; intro b51 a w hE hS
 refine WL.vS hS hE (runs_plain rfl) (Gives.p hE rfl) rfl ?_; clear hE a; intro a hE
 refine WL.vS hS hE (runs_plain rfl) (Gives.p hE rfl) rfl ?_; clear hE a; intro a hE
 refine WL.nil ?_
 refine W.seq ?_
 refine W.seq (W.region ?_)
 refine WL.vS hS hE (runs_plain rfl) (Gives.loadBA hE 0 rfl rfl ty24) rfl ?_; clear hE a; intro a hE
 refine WL.fnq hE (PlanCheckPeriodic_ok hS h0_0 rfl (r := PlanCheckPeriodic x0)) (runs_plain rfl) bd10 rfl rfl rfl ?_
 clear hE hS; rintro e w ⟨rfl, hS⟩; refine ⟨_, rfl, ?_⟩; clear a; intro a hE
 refine WL.vS hS hE (runs_plain rfl) (Gives.p hE rfl) rfl ?_; clear hE a; intro a hE
 refine WL.nil ?_
 refine W.seq (W.region ?_)
 refine WL.vS hS hE (runs_plain rfl) (Gives.p hE rfl) rfl ?_; clear hE a; intro a hE
 refine WL.vS hS hE (runs_plain rfl) (Gives.p hE rfl) rfl ?_; clear hE a; intro a hE
 refine WL.nil ?_
 refine W.cond hE rfl (fun hc52 => ?_) (fun hc52 => ?_)
 ·replace hr := iteT hc52 hr
  refine W.seq (W.region ?_)
  refine WL.vS hS hE (runs_plain rfl) (Gives.p hE rfl) rfl ?_; clear hE a; intro a hE
  refine WL.vS hS hE (runs_plain rfl) (Gives.p hE rfl) rfl ?_; clear hE a; intro a hE
  refine WL.vS hS hE (runs_plain rfl) (Gives.p hE rfl) rfl ?_; clear hE a; intro a hE
  refine WL.nil ?_
  refine W.ret ?_
  refine finG (fn := Try.f19) (rs := [.tmp 2, .tmp 3]) (vs := [_, _]) hE rfl ⟨rfl, rfl, trivial⟩ ?_
  obtain rfl := Option.some.inj hr
  replace hS := hS.tail
  exact ⟨none, 0, s, rfl, (Sg.Le.refl _), Sl.nil, hS⟩
 ·replace hr := iteF hc52 hr
  refine W.skip ?_
  refine W.seq (W.region ?_)
  refine WL.vS hS hE (runs_plain rfl) (Gives.loadBA hE 0 rfl rfl ty24) rfl ?_; clear hE a; intro a hE
  obtain ⟨q53, hq54, hr⟩ := bindS hr
  have hc_ := Plansolve_ok hS h0_0 hq54
  refine WL.fnq hE (hc_) (runs_plain rfl) bd43 rfl rfl rfl ?_
  clear hE hS hc_; rintro e w ⟨a55, c56, s59, rfl, hle60, h57, hz58, hS⟩; refine ⟨_, rfl, ?_⟩; clear a; intro a hE
  replace h0_0 := Sl.mono RPlanRule.mono hle60 h0_0
  refine WL.vS hS hE (runs_plain rfl) (Gives.p hE rfl) rfl ?_; clear hE a; intro a hE
  refine WL.nil ?_
  refine W.seq ?_
  refine W.seq (W.region ?_)
  refine WL.vS hS hE (runs_plain rfl) (Gives.p hE rfl) rfl ?_; clear hE a; intro a hE
  refine WL.vS hS hE (runs_plain rfl) (Gives.isNilZ hE (isNone_eq h57 hz58) rfl rfl isl29) rfl ?_; clear hE a; intro a hE
  refine WL.nil ?_
  refine W.cond hE rfl (fun hc61 => ?_) (fun hc61 => ?_)
  ·replace hr := iteT hc61 hr
   refine W.seq (W.region ?_)
   refine WL.vS hS hE (runs_plain rfl) (Gives.p hE rfl) rfl ?_; clear hE a; intro a hE
   refine WL.vS hS hE (runs_plain rfl) (Gives.p hE rfl) rfl ?_; clear hE a; intro a hE
   refine WL.nil ?_
   refine W.ret ?_
   refine finG (fn := Try.f19) (rs := [.tmp 2, .tmp 3]) (vs := [_, _]) hE rfl ⟨rfl, rfl, trivial⟩ ?_
   obtain rfl := Option.some.inj hr
   replace hS := hS.tail
   exact ⟨none, 0, s59, rfl, hle60, Sl.nil, hS⟩
  ·replace hr := iteF hc61 hr
   refine W.skip ?_
   refine W.seq (W.region ?_)
   refine WL.vS hS hE (runs_plain rfl) (Gives.p hE rfl) rfl ?_; clear hE a; intro a hE
   refine WL.vS hS hE (runs_plain rfl) (Gives.p hE rfl) rfl ?_; clear hE a; intro a hE
   refine WL.vS hS hE (runs_plain rfl) (Gives.p hE rfl) rfl ?_; clear hE a; intro a hE
   refine WL.nil ?_
   refine W.ret ?_
   refine finG (fn := Try.f19) (rs := [.tmp 2, .tmp 3]) (vs := [_, _]) hE rfl ⟨rfl, rfl, trivial⟩ ?_
   obtain rfl := Option.some.inj hr
   replace hS := hS.tail
   exact ⟨a55, c56, s59, rfl, hle60, h57, hS⟩
set_option maxHeartbeats 8000000 in
theorem Fishref2within_ok  {w : World} {s : Sg} {R : List HP} {x0 : Int} {x1 : Int} {x2 : Int} (hS : St w s (R))  {r : Bool} (hr : Fishref2within x0 x1 x2 = r) :
  Calls Try.prog 36 [.int .i64 x0, .int .i64 x1, .int .i64 x2].toArray w (fun e w => e = .returned (.bool r) ∧ St w s (R)) := by
 refine enter Try.func36 rfl rfl rfl fun a hE => ?_
 rw [Fishref2within] at hr
 refine W.seq (W.region ?_)
 refine WL.vS hS hE (runs_plain rfl) (Gives.p hE rfl) rfl ?_; clear hE a; intro a hE
 refine WL.nil ?_
 refine W.seq ?_
 obtain ⟨q52, hq51, hr⟩ := bndS hr
 refine W.cut (fun a w => ∃ (q55 : Bool), q55 = q52 ∧ Rep a 15 [(6, .bool q55)] ∧ St w s (R)) ?_ ?_
 ·refine W.gen fun K56 hK56 => ?_
  refine W.region ?_
  refine WL.vS hS hE (runs_plain rfl) (Gives.p hE rfl) rfl ?_; clear hE a; intro a hE
  refine WL.vS hS hE (runs_plain rfl) (Gives.p hE rfl) rfl ?_; clear hE a; intro a hE
  refine WL.vS hS hE (runs_plain rfl) (Gives.p hE rfl) rfl ?_; clear hE a; intro a hE
  refine WL.vS hS hE (runs_plain rfl) (Gives.p hE rfl) rfl ?_; clear hE a; intro a hE
  rcases Bool.eq_false_or_eq_true (decide (x0 ≥ x1)) with hg57 | hg57
  ·replace hq51 := iteT hg57 hq51
   refine WL.vS hS hE (runs_if hE rfl rfl rfl hg57) (Gives.p hE rfl) rfl ?_; clear hE a; intro a hE
   refine WL.vS hS hE (runs_if hE rfl rfl rfl hg57) (Gives.p hE rfl) rfl ?_; clear hE a; intro a hE
   refine WL.vS hS hE (runs_if hE rfl rfl rfl hg57) (Gives.p hE rfl) rfl ?_; clear hE a; intro a hE
   refine WL.vS hS hE (runs_plain rfl) (Gives.pickT hE rfl hg57 rfl) rfl ?_; clear hE a; intro a hE
   refine WL.vS hS hE (runs_plain rfl) (Gives.p hE rfl) rfl ?_; clear hE a; intro a hE
   refine WL.nil ?_
   subst hK56
   exact ⟨decide (x0 ≤ x2), hq51, hE.pick _ ⟨rfl, trivial⟩, hS⟩
  ·replace hq51 := iteF hg57 hq51
   refine WL.no hE (runs_not hE rfl rfl rfl (by rw [hg57]; decide)) rfl ?_; clear hE a; intro a hE
   refine WL.no hE (runs_not hE rfl rfl rfl (by rw [hg57]; decide)) rfl ?_; clear hE a; intro a hE
   refine WL.no hE (runs_not hE rfl rfl rfl (by rw [hg57]; decide)) rfl ?_; clear hE a; intro a hE
   refine WL.vS hS hE (runs_plain rfl) (Gives.pickF hE rfl hg57 rfl) rfl ?_; clear hE a; intro a hE
   refine WL.vS hS hE (runs_plain rfl) (Gives.p hE rfl) rfl ?_; clear hE a; intro a hE
   refine WL.nil ?_
   subst hK56
   exact ⟨false, hq51, hE.pick _ ⟨rfl, trivial⟩, hS⟩
 ·clear hE hS a w; rintro a w ⟨q55, rfl, hE, hS⟩
  refine W.ret ?_
  refine finG (fn := Try.f36) (rs := [.tmp 6]) (vs := [_]) hE rfl ⟨rfl, trivial⟩ ?_
  subst hr
  exact ⟨rfl, hS⟩
set_option maxHeartbeats 8000000 in
theorem Fishref2PeriodicFault_ok  {w : World} {s : Sg} {R : List HP} {x0 : PlanPeriodic} {a0_0 : Option Addr} {c0_0 : Nat} (hS : St w s (R)) (h0_0 : Sl 5 RPlanRule s a0_0 c0_0 x0.Rules) {r : Int} (hr : Fishref2PeriodicFault x0 = r) :
  Calls Try.prog 11 [.agg [.int .i64 x0.Period, .int .i64 x0.Events, .slice a0_0 x0.Rules.length c0_0].toArray].toArray w (fun e w => e = .returned (.int .i64 r) ∧ St w s (R)) := by
 refine enter Try.func11 rfl rfl rfl fun a hE => ?_
 rw [Fishref2PeriodicFault] at hr
 refine W.seq (W.region ?_)
 refine WL.box hE hS (runs_plain rfl) rfl rfl rfl ?_; clear hE hS a w; intro b51 a w hE hS
 refine WL.vS hS hE (runs_plain rfl) (Gives.p hE rfl) rfl ?_; clear hE a; intro a hE
 refine WL.nil ?_
 refine W.seq ?_
 refine W.seq ?_
 obtain ⟨q53, hq52, hr⟩ := bndS hr
 refine W.cut (fun a w => ∃ (q56 : Bool), q56 = q53 ∧ Rep a 79 [(1, .pointer (some ⟨b51, 0, none⟩)), (14, .bool q56)] ∧ St w s (pt b51 (.cells #[.int .i64 x0.Period, .int .i64 x0.Events, .slice a0_0 x0.Rules.length c0_0] 24 (0, 0)) :: R)) ?_ ?_
 ·refine W.gen fun K57 hK57 => ?_
  refine W.region ?_
  refine WL.vS hS hE (runs_plain rfl) (Gives.fld hE rfl fl24_0) rfl ?_; clear hE a; intro a hE
  refine WL.vS hS hE (runs_plain rfl) (Gives.loadB hE 0 rfl rfl rfl ty3) rfl ?_; clear hE a; intro a hE
  refine WL.fnq hE (Fishref2within_ok hS  rfl (r := Fishref2within x0.Period 2 3600)) (runs_plain rfl) bd36 rfl rfl rfl ?_
  clear hE hS; rintro e w ⟨rfl, hS⟩; refine ⟨_, rfl, ?_⟩; clear a; intro a hE
  refine WL.vS hS hE (runs_plain rfl) (Gives.p hE rfl) rfl ?_; clear hE a; intro a hE
  refine WL.vS hS hE (runs_plain rfl) (Gives.p hE rfl) rfl ?_; clear hE a; intro a hE
  rcases Bool.eq_false_or_eq_true (!(Fishref2within x0.Period 2 3600)) with hg58 | hg58
  ·replace hq52 := iteT hg58 hq52
   refine WL.no hE (runs_not hE rfl rfl rfl (by rw [hg58]; decide)) rfl ?_; clear hE a; intro a hE
   refine WL.no hE (runs_not hE rfl rfl rfl (by rw [hg58]; decide)) rfl ?_; clear hE a; intro a hE
   refine WL.no hE (runs_not hE rfl rfl rfl (by rw [hg58]; decide)) rfl ?_; clear hE a; intro a hE
   refine WL.no hE (runs_not hE rfl rfl rfl (by rw [hg58]; decide)) rfl ?_; clear hE a; intro a hE
   refine WL.vS hS hE (runs_plain rfl) (Gives.pickT hE rfl hg58 rfl) rfl ?_; clear hE a; intro a hE
   refine WL.nil ?_
   subst hK57
   exact ⟨true, hq52, hE.pick _ ⟨rfl, rfl, trivial⟩, hS⟩
  ·replace hq52 := iteF hg58 hq52
   refine WL.vS hS hE (runs_if hE rfl rfl rfl hg58) (Gives.fld hE rfl fl24_1) rfl ?_; clear hE a; intro a hE
   refine WL.vS hS hE (runs_if hE rfl rfl rfl hg58) (Gives.loadB hE 0 rfl rfl rfl ty3) rfl ?_; clear hE a; intro a hE
   refine WL.fnq hE (Fishref2within_ok hS  rfl (r := Fishref2within x0.Events 1 8)) (runs_if hE rfl rfl rfl hg58) bd36 rfl rfl rfl ?_
   clear hE hS; rintro e w ⟨rfl, hS⟩; refine ⟨_, rfl, ?_⟩; clear a; intro a hE
   refine WL.vS hS hE (runs_if hE rfl rfl rfl hg58) (Gives.p hE rfl) rfl ?_; clear hE a; intro a hE
   refine WL.vS hS hE (runs_plain rfl) (Gives.pickF hE rfl hg58 rfl) rfl ?_; clear hE a; intro a hE
   refine WL.nil ?_
   subst hK57
   exact ⟨!(Fishref2within x0.Events 1 8), hq52, hE.pick _ ⟨rfl, rfl, trivial⟩, hS⟩
 ·clear hE hS a w; rintro a w ⟨q56, rfl, hE, hS⟩
  refine W.cond hE rfl (fun hc59 => ?_) (fun hc59 => ?_)
  ·replace hr := iteT hc59 hr
   refine W.seq (W.region ?_)
   refine WL.vS hS hE (runs_plain rfl) (Gives.p hE rfl) rfl ?_; clear hE a; intro a hE
   refine WL.nil ?_
   refine W.ret ?_
   refine finG (fn := Try.f11) (rs := [.tmp 2]) (vs := [_]) hE rfl ⟨rfl, trivial⟩ ?_
   subst hr
   replace hS := hS.tail
   exact ⟨rfl, hS⟩
  ·replace hr := iteF hc59 hr
   refine W.skip ?_
   refine W.seq ?_
   refine W.seq (W.region ?_)
   refine WL.vS hS hE (runs_plain rfl) (Gives.fld hE rfl fl24_2) rfl ?_; clear hE a; intro a hE
   refine WL.vS hS hE (runs_plain rfl) (Gives.loadB hE 0 rfl rfl rfl ty22) rfl ?_; clear hE a; intro a hE
   refine WL.vS hS hE (runs_plain rfl) (Gives.len hE rfl sl22) rfl ?_; clear hE a; intro a hE
   refine WL.vS hS hE (runs_plain rfl) (Gives.p hE rfl) rfl ?_; clear hE a; intro a hE
   refine WL.nil ?_
   refine W.cond hE rfl (fun hc60 => ?_) (fun hc60 => ?_)
   ·replace hr := iteT hc60 hr
    refine W.seq (W.region ?_)
    refine WL.vS hS hE (runs_plain rfl) (Gives.p hE rfl) rfl ?_; clear hE a; intro a hE
    refine WL.nil ?_
    refine W.ret ?_
    refine finG (fn := Try.f11) (rs := [.tmp 2]) (vs := [_]) hE rfl ⟨rfl, trivial⟩ ?_
    subst hr
    replace hS := hS.tail
    exact ⟨rfl, hS⟩
   ·replace hr := iteF hc60 hr
    refine W.skip ?_
    refine W.seq ?_
    refine W.seq (W.region ?_)
    refine WL.vS hS hE (runs_plain rfl) (Gives.fld hE rfl fl24_2) rfl ?_; clear hE a; intro a hE
    refine WL.vS hS hE (runs_plain rfl) (Gives.loadB hE 0 rfl rfl rfl ty22) rfl ?_; clear hE a; intro a hE
    refine WL.vS hS hE (runs_plain rfl) (Gives.len hE rfl sl22) rfl ?_; clear hE a; intro a hE
    refine WL.vS hS hE (runs_plain rfl) (Gives.p hE rfl) rfl ?_; clear hE a; intro a hE
    refine WL.nil ?_
    obtain ⟨q62, hq61, hr⟩ := bndS hr
    refine W.cut (fun a w => (.next ()) = q62 ∧ Rep a 79 [] ∧ St w s (pt b51 (.cells #[.int .i64 x0.Period, .int .i64 x0.Events, .slice a0_0 x0.Rules.length c0_0] 24 (0, 0)) :: R)) ?_ ?_
    ·refine W.block ?_
     refine W.loop (fun m a w => ∃ (rest65 : List PlanRule) (k63 : Nat), rest65.length = m ∧ x0.Rules.drop k63 = rest65 ∧ Fishref2PeriodicFault.loop1 x0 rest65 = q62 ∧ Rep a 79 [(1, .pointer (some ⟨b51, 0, none⟩)), (20, .slice a0_0 x0.Rules.length c0_0), (21, .int .i64 ((x0.Rules).length : Int)), (22, .int .i64 ((k63 : Nat) : Int))] ∧ St w s (pt b51 (.cells #[.int .i64 x0.Period, .int .i64 x0.Events, .slice a0_0 x0.Rules.length c0_0] 24 (0, 0)) :: R)) (m := x0.Rules.length) ⟨x0.Rules, 0, rfl, rfl, hq61, hE.pick _ ⟨rfl, rfl, rfl, rfl, trivial⟩, hS⟩ ?_
     clear hE hS a w hq61; rintro m69 a w ⟨rest65, k63, rfl, hd66, hq61, hE, hS⟩
     refine W.gen fun K72 hK72 => ?_
     rcases rest65 with _ | ⟨x64, rest65⟩
     ·have hlt67 := drop_nil hd66
      refine W.seq (W.region ?_)
      refine WL.vS hS hE (runs_plain rfl) (Gives.p hE rfl) rfl ?_; clear hE a; intro a hE
      refine WL.nil ?_
      refine W.seq ?_
      refine W.condF hE rfl (decide_eq_false (by omega)) ?_
      subst hK72
      refine W.exit rfl ?_
      exact ⟨hq61, hE.pick _ trivial, hS⟩
     ·obtain ⟨hlt67, hx68, hd66⟩ := drop_cons hd66
      rw [Fishref2PeriodicFault.loop1] at hq61
      refine W.seq (W.region ?_)
      refine WL.vS hS hE (runs_plain rfl) (Gives.p hE rfl) rfl ?_; clear hE a; intro a hE
      refine WL.nil ?_
      refine W.seq ?_
      refine W.condT hE rfl (decide_eq_true (by omega)) ?_
      refine W.skip ?_
      refine W.seq ?_
      refine W.block ?_
      refine W.seq (W.region ?_)
      obtain ⟨cs73, hl74, hR75, hat76⟩ := h0_0.at hx68
      subst hR75
      refine WL.vS hS hE (runs_plain rfl) (Gives.idx hE k63 rfl rfl sl22 rfl hlt67 (h0_0.aok hlt67)) rfl ?_; clear hE a; intro a hE
      refine WL.vS hS hE (runs_plain rfl) (Gives.loadA hE rfl (fun w h => hat76 w _ h) ty37) rfl ?_; clear hE a; intro a hE
      refine WL.alloc hE hS (runs_plain rfl) zr37 rfl ?_; clear hE hS a w; intro b77 a w hE hS
      refine WL.storeI hE hS 0 rfl (PlanRule.cells x64) (runs_plain rfl) rfl rfl rfl ty37 rfl rfl rfl rfl ?_; clear hE hS a w; intro a w hE hS
      refine WL.nil ?_
      refine W.block ?_
      refine W.seq ?_
      obtain ⟨q79, hq78, hq61⟩ := bndS hq61
      refine W.cut (fun a w => ∃ (q82 : Bool), q82 = q79 ∧ Rep a 79 [(1, .pointer (some ⟨b51, 0, none⟩)), (4, .pointer (some ⟨b77, 0, none⟩)), (20, .slice a0_0 x0.Rules.length c0_0), (21, .int .i64 ((x0.Rules).length : Int)), (22, .int .i64 ((k63 : Nat) : Int)), (26, .bool q82)] ∧ St w s (pt b77 (.cells (PlanRule.cells x64).toArray 37 (0, 0)) :: pt b51 (.cells #[.int .i64 x0.Period, .int .i64 x0.Events, .slice a0_0 x0.Rules.length c0_0] 24 (0, 0)) :: R)) ?_ ?_
      ·refine W.gen fun K83 hK83 => ?_
       refine W.region ?_
       refine WL.vS hS hE (runs_plain rfl) (Gives.fld hE rfl fl37_0) rfl ?_; clear hE a; intro a hE
       refine WL.vS hS hE (runs_plain rfl) (Gives.loadB hE 0 rfl rfl rfl ty3) rfl ?_; clear hE a; intro a hE
       refine WL.vS hS hE (runs_plain rfl) (Gives.fld hE rfl fl24_1) rfl ?_; clear hE a; intro a hE
       refine WL.vS hS hE (runs_plain rfl) (Gives.loadB hE 1 rfl rfl rfl ty3) rfl ?_; clear hE a; intro a hE
       refine WL.vS hS hE (runs_plain rfl) (Gives.p hE rfl) rfl ?_; clear hE a; intro a hE
       refine WL.fnq hE (Fishref2within_ok hS  rfl (r := Fishref2within x64.From 0 (w64 (x0.Events - 1)))) (runs_plain rfl) bd36 rfl rfl rfl ?_
       clear hE hS; rintro e w ⟨rfl, hS⟩; refine ⟨_, rfl, ?_⟩; clear a; intro a hE
       refine WL.vS hS hE (runs_plain rfl) (Gives.p hE rfl) rfl ?_; clear hE a; intro a hE
       refine WL.vS hS hE (runs_plain rfl) (Gives.p hE rfl) rfl ?_; clear hE a; intro a hE
       rcases Bool.eq_false_or_eq_true (!(Fishref2within x64.From 0 (w64 (x0.Events - 1)))) with hg84 | hg84
       ·replace hq78 := iteT hg84 hq78
        refine WL.no hE (runs_not hE rfl rfl rfl (by rw [hg84]; decide)) rfl ?_; clear hE a; intro a hE
        refine WL.no hE (runs_not hE rfl rfl rfl (by rw [hg84]; decide)) rfl ?_; clear hE a; intro a hE
        refine WL.no hE (runs_not hE rfl rfl rfl (by rw [hg84]; decide)) rfl ?_; clear hE a; intro a hE
        refine WL.no hE (runs_not hE rfl rfl rfl (by rw [hg84]; decide)) rfl ?_; clear hE a; intro a hE
        refine WL.no hE (runs_not hE rfl rfl rfl (by rw [hg84]; decide)) rfl ?_; clear hE a; intro a hE
        refine WL.no hE (runs_not hE rfl rfl rfl (by rw [hg84]; decide)) rfl ?_; clear hE a; intro a hE
        refine WL.no hE (runs_not hE rfl rfl rfl (by rw [hg84]; decide)) rfl ?_; clear hE a; intro a hE
        refine WL.vS hS hE (runs_plain rfl) (Gives.pickT hE rfl hg84 rfl) rfl ?_; clear hE a; intro a hE
        refine WL.vS hS hE (runs_plain rfl) (Gives.p hE rfl) rfl ?_; clear hE a; intro a hE
        refine WL.nil ?_
        subst hK83
        exact ⟨true, hq78, hE.pick _ ⟨rfl, rfl, rfl, rfl, rfl, rfl, trivial⟩, hS⟩
       ·replace hq78 := iteF hg84 hq78
        refine WL.vS hS hE (runs_if hE rfl rfl rfl hg84) (Gives.fld hE rfl fl37_1) rfl ?_; clear hE a; intro a hE
        refine WL.vS hS hE (runs_if hE rfl rfl rfl hg84) (Gives.loadB hE 0 rfl rfl rfl ty3) rfl ?_; clear hE a; intro a hE
        refine WL.vS hS hE (runs_if hE rfl rfl rfl hg84) (Gives.fld hE rfl fl24_1) rfl ?_; clear hE a; intro a hE
        refine WL.vS hS hE (runs_if hE rfl rfl rfl hg84) (Gives.loadB hE 1 rfl rfl rfl ty3) rfl ?_; clear hE a; intro a hE
        refine WL.vS hS hE (runs_if hE rfl rfl rfl hg84) (Gives.p hE rfl) rfl ?_; clear hE a; intro a hE
        refine WL.fnq hE (Fishref2within_ok hS  rfl (r := Fishref2within x64.To 0 (w64 (x0.Events - 1)))) (runs_if hE rfl rfl rfl hg84) bd36 rfl rfl rfl ?_
        clear hE hS; rintro e w ⟨rfl, hS⟩; refine ⟨_, rfl, ?_⟩; clear a; intro a hE
        refine WL.vS hS hE (runs_if hE rfl rfl rfl hg84) (Gives.p hE rfl) rfl ?_; clear hE a; intro a hE
        refine WL.vS hS hE (runs_plain rfl) (Gives.pickF hE rfl hg84 rfl) rfl ?_; clear hE a; intro a hE
        refine WL.vS hS hE (runs_plain rfl) (Gives.p hE rfl) rfl ?_; clear hE a; intro a hE
        refine WL.nil ?_
        subst hK83
        exact ⟨!(Fishref2within x64.To 0 (w64 (x0.Events - 1))), hq78, hE.pick _ ⟨rfl, rfl, rfl, rfl, rfl, rfl, trivial⟩, hS⟩
      ·clear hE hS a w; rintro a w ⟨q82, rfl, hE, hS⟩
       refine W.cond hE rfl (fun hc85 => ?_) (fun hc85 => ?_)
       ·replace hq61 := iteT hc85 hq61
        refine W.seq (W.region ?_)
        refine WL.vS hS hE (runs_plain rfl) (Gives.p hE rfl) rfl ?_; clear hE a; intro a hE
        refine WL.nil ?_
        refine W.ret ?_
        subst hK72
        rw [← hq61] at hr
        dsimp only at hr
        refine finG (fn := Try.f11) (rs := [.tmp 2]) (vs := [_]) hE rfl ⟨rfl, trivial⟩ ?_
        subst hr
        replace hS := hS.tail
        replace hS := hS.tail
        exact ⟨rfl, hS⟩
       ·replace hq61 := iteF hc85 hq61
        refine W.seq (W.region ?_)
        refine WL.vS hS hE (runs_plain rfl) (Gives.fld hE rfl fl37_0) rfl ?_; clear hE a; intro a hE
        refine WL.vS hS hE (runs_plain rfl) (Gives.loadB hE 0 rfl rfl rfl ty3) rfl ?_; clear hE a; intro a hE
        refine WL.vS hS hE (runs_plain rfl) (Gives.fld hE rfl fl37_1) rfl ?_; clear hE a; intro a hE
        refine WL.vS hS hE (runs_plain rfl) (Gives.loadB hE 0 rfl rfl rfl ty3) rfl ?_; clear hE a; intro a hE
        refine WL.vS hS hE (runs_plain rfl) (Gives.p hE rfl) rfl ?_; clear hE a; intro a hE
        refine WL.vS hS hE (runs_plain rfl) (Gives.p hE rfl) rfl ?_; clear hE a; intro a hE
        refine WL.nil ?_
        refine W.cond hE rfl (fun hc86 => ?_) (fun hc86 => ?_)
        ·replace hq61 := iteT hc86 hq61
         refine W.seq (W.region ?_)
         refine WL.vS hS hE (runs_plain rfl) (Gives.p hE rfl) rfl ?_; clear hE a; intro a hE
         refine WL.nil ?_
         refine W.ret ?_
         subst hK72
         rw [← hq61] at hr
         dsimp only at hr
         refine finG (fn := Try.f11) (rs := [.tmp 2]) (vs := [_]) hE rfl ⟨rfl, trivial⟩ ?_
         subst hr
         replace hS := hS.tail
         replace hS := hS.tail
         exact ⟨rfl, hS⟩
        ·replace hq61 := iteF hc86 hq61
         refine W.seq ?_
         obtain ⟨q88, hq87, hq61⟩ := bndS hq61
         refine W.cut (fun a w => ∃ (q91 : Bool), q91 = q88 ∧ Rep a 79 [(1, .pointer (some ⟨b51, 0, none⟩)), (20, .slice a0_0 x0.Rules.length c0_0), (21, .int .i64 ((x0.Rules).length : Int)), (22, .int .i64 ((k63 : Nat) : Int)), (49, .bool q91)] ∧ St w s (pt b77 (.cells (PlanRule.cells x64).toArray 37 (0, 0)) :: pt b51 (.cells #[.int .i64 x0.Period, .int .i64 x0.Events, .slice a0_0 x0.Rules.length c0_0] 24 (0, 0)) :: R)) ?_ ?_
         ·refine W.gen fun K92 hK92 => ?_
          refine W.region ?_
          refine WL.vS hS hE (runs_plain rfl) (Gives.fld hE rfl fl37_2) rfl ?_; clear hE a; intro a hE
          refine WL.vS hS hE (runs_plain rfl) (Gives.loadB hE 0 rfl rfl rfl ty3) rfl ?_; clear hE a; intro a hE
          refine WL.fnq hE (Fishref2within_ok hS  rfl (r := Fishref2within x64.Min 0 3600)) (runs_plain rfl) bd36 rfl rfl rfl ?_
          clear hE hS; rintro e w ⟨rfl, hS⟩; refine ⟨_, rfl, ?_⟩; clear a; intro a hE
          refine WL.vS hS hE (runs_plain rfl) (Gives.p hE rfl) rfl ?_; clear hE a; intro a hE
          refine WL.vS hS hE (runs_plain rfl) (Gives.p hE rfl) rfl ?_; clear hE a; intro a hE
          rcases Bool.eq_false_or_eq_true (!(Fishref2within x64.Min 0 3600)) with hg93 | hg93
          ·replace hq87 := iteT hg93 hq87
           refine WL.no hE (runs_not hE rfl rfl rfl (by rw [hg93]; decide)) rfl ?_; clear hE a; intro a hE
           refine WL.no hE (runs_not hE rfl rfl rfl (by rw [hg93]; decide)) rfl ?_; clear hE a; intro a hE
           refine WL.no hE (runs_not hE rfl rfl rfl (by rw [hg93]; decide)) rfl ?_; clear hE a; intro a hE
           refine WL.no hE (runs_not hE rfl rfl rfl (by rw [hg93]; decide)) rfl ?_; clear hE a; intro a hE
           refine WL.no hE (runs_not hE rfl rfl rfl (by rw [hg93]; decide)) rfl ?_; clear hE a; intro a hE
           refine WL.vS hS hE (runs_plain rfl) (Gives.pickT hE rfl hg93 rfl) rfl ?_; clear hE a; intro a hE
           refine WL.vS hS hE (runs_plain rfl) (Gives.p hE rfl) rfl ?_; clear hE a; intro a hE
           refine WL.no hE (runs_not hE rfl rfl rfl (by decide)) rfl ?_; clear hE a; intro a hE
           refine WL.no hE (runs_not hE rfl rfl rfl (by decide)) rfl ?_; clear hE a; intro a hE
           refine WL.no hE (runs_not hE rfl rfl rfl (by decide)) rfl ?_; clear hE a; intro a hE
           refine WL.no hE (runs_not hE rfl rfl rfl (by decide)) rfl ?_; clear hE a; intro a hE
           refine WL.no hE (runs_not hE rfl rfl rfl (by decide)) rfl ?_; clear hE a; intro a hE
           refine WL.no hE (runs_not hE rfl rfl rfl (by decide)) rfl ?_; clear hE a; intro a hE
           refine WL.no hE (runs_not hE rfl rfl rfl (by decide)) rfl ?_; clear hE a; intro a hE
           refine WL.no hE (runs_not hE rfl rfl rfl (by decide)) rfl ?_; clear hE a; intro a hE
           refine WL.no hE (runs_not hE rfl rfl rfl (by decide)) rfl ?_; clear hE a; intro a hE
           refine WL.vS hS hE (runs_plain rfl) (Gives.pickT hE rfl rfl rfl) rfl ?_; clear hE a; intro a hE
           refine WL.vS hS hE (runs_plain rfl) (Gives.p hE rfl) rfl ?_; clear hE a; intro a hE
           refine WL.no hE (runs_not hE rfl rfl rfl (by decide)) rfl ?_; clear hE a; intro a hE
           refine WL.no hE (runs_not hE rfl rfl rfl (by decide)) rfl ?_; clear hE a; intro a hE
           refine WL.no hE (runs_not hE rfl rfl rfl (by decide)) rfl ?_; clear hE a; intro a hE
           refine WL.no hE (runs_not hE rfl rfl rfl (by decide)) rfl ?_; clear hE a; intro a hE
           refine WL.vS hS hE (runs_plain rfl) (Gives.pickT hE rfl rfl rfl) rfl ?_; clear hE a; intro a hE
           refine WL.vS hS hE (runs_plain rfl) (Gives.p hE rfl) rfl ?_; clear hE a; intro a hE
           refine WL.nil ?_
           subst hK92
           exact ⟨true, hq87, hE.pick _ ⟨rfl, rfl, rfl, rfl, rfl, trivial⟩, hS⟩
          ·replace hq87 := iteF hg93 hq87
           refine WL.vS hS hE (runs_if hE rfl rfl rfl hg93) (Gives.fld hE rfl fl37_3) rfl ?_; clear hE a; intro a hE
           refine WL.vS hS hE (runs_if hE rfl rfl rfl hg93) (Gives.loadB hE 0 rfl rfl rfl ty3) rfl ?_; clear hE a; intro a hE
           refine WL.vS hS hE (runs_if hE rfl rfl rfl hg93) (Gives.fld hE rfl fl37_2) rfl ?_; clear hE a; intro a hE
           refine WL.vS hS hE (runs_if hE rfl rfl rfl hg93) (Gives.loadB hE 0 rfl rfl rfl ty3) rfl ?_; clear hE a; intro a hE
           refine WL.vS hS hE (runs_if hE rfl rfl rfl hg93) (Gives.p hE rfl) rfl ?_; clear hE a; intro a hE
           refine WL.vS hS hE (runs_plain rfl) (Gives.pickF hE rfl hg93 rfl) rfl ?_; clear hE a; intro a hE
           refine WL.vS hS hE (runs_plain rfl) (Gives.p hE rfl) rfl ?_; clear hE a; intro a hE
           rcases Bool.eq_false_or_eq_true (decide (x64.Max < x64.Min)) with hg94 | hg94
           ·replace hq87 := iteT hg94 hq87
            refine WL.no hE (runs_not hE rfl rfl rfl (by rw [hg94]; decide)) rfl ?_; clear hE a; intro a hE
            refine WL.no hE (runs_not hE rfl rfl rfl (by rw [hg94]; decide)) rfl ?_; clear hE a; intro a hE
            refine WL.no hE (runs_not hE rfl rfl rfl (by rw [hg94]; decide)) rfl ?_; clear hE a; intro a hE
            refine WL.no hE (runs_not hE rfl rfl rfl (by rw [hg94]; decide)) rfl ?_; clear hE a; intro a hE
            refine WL.no hE (runs_not hE rfl rfl rfl (by rw [hg94]; decide)) rfl ?_; clear hE a; intro a hE
            refine WL.no hE (runs_not hE rfl rfl rfl (by rw [hg94]; decide)) rfl ?_; clear hE a; intro a hE
            refine WL.no hE (runs_not hE rfl rfl rfl (by rw [hg94]; decide)) rfl ?_; clear hE a; intro a hE
            refine WL.no hE (runs_not hE rfl rfl rfl (by rw [hg94]; decide)) rfl ?_; clear hE a; intro a hE
            refine WL.no hE (runs_not hE rfl rfl rfl (by rw [hg94]; decide)) rfl ?_; clear hE a; intro a hE
            refine WL.vS hS hE (runs_plain rfl) (Gives.pickT hE rfl hg94 rfl) rfl ?_; clear hE a; intro a hE
            refine WL.vS hS hE (runs_plain rfl) (Gives.p hE rfl) rfl ?_; clear hE a; intro a hE
            refine WL.no hE (runs_not hE rfl rfl rfl (by decide)) rfl ?_; clear hE a; intro a hE
            refine WL.no hE (runs_not hE rfl rfl rfl (by decide)) rfl ?_; clear hE a; intro a hE
            refine WL.no hE (runs_not hE rfl rfl rfl (by decide)) rfl ?_; clear hE a; intro a hE
            refine WL.no hE (runs_not hE rfl rfl rfl (by decide)) rfl ?_; clear hE a; intro a hE
            refine WL.vS hS hE (runs_plain rfl) (Gives.pickT hE rfl rfl rfl) rfl ?_; clear hE a; intro a hE
            refine WL.vS hS hE (runs_plain rfl) (Gives.p hE rfl) rfl ?_; clear hE a; intro a hE
            refine WL.nil ?_
            subst hK92
            exact ⟨true, hq87, hE.pick _ ⟨rfl, rfl, rfl, rfl, rfl, trivial⟩, hS⟩
           ·replace hq87 := iteF hg94 hq87
            refine WL.vS hS hE (runs_if hE rfl rfl rfl hg94) (Gives.fld hE rfl fl37_3) rfl ?_; clear hE a; intro a hE
            refine WL.vS hS hE (runs_if hE rfl rfl rfl hg94) (Gives.loadB hE 0 rfl rfl rfl ty3) rfl ?_; clear hE a; intro a hE
            refine WL.vS hS hE (runs_if hE rfl rfl rfl hg94) (Gives.fld hE rfl fl37_2) rfl ?_; clear hE a; intro a hE
            refine WL.vS hS hE (runs_if hE rfl rfl rfl hg94) (Gives.loadB hE 0 rfl rfl rfl ty3) rfl ?_; clear hE a; intro a hE
            refine WL.vS hS hE (runs_if hE rfl rfl rfl hg94) (Gives.fld hE rfl fl24_0) rfl ?_; clear hE a; intro a hE
            refine WL.vS hS hE (runs_if hE rfl rfl rfl hg94) (Gives.loadB hE 1 rfl rfl rfl ty3) rfl ?_; clear hE a; intro a hE
            refine WL.vS hS hE (runs_if hE rfl rfl rfl hg94) (Gives.p hE rfl) rfl ?_; clear hE a; intro a hE
            refine WL.vS hS hE (runs_if hE rfl rfl rfl hg94) (Gives.p hE rfl) rfl ?_; clear hE a; intro a hE
            refine WL.vS hS hE (runs_if hE rfl rfl rfl hg94) (Gives.p hE rfl) rfl ?_; clear hE a; intro a hE
            refine WL.vS hS hE (runs_plain rfl) (Gives.pickF hE rfl hg94 rfl) rfl ?_; clear hE a; intro a hE
            refine WL.vS hS hE (runs_plain rfl) (Gives.p hE rfl) rfl ?_; clear hE a; intro a hE
            rcases Bool.eq_false_or_eq_true (decide (x64.Max > (w64 ((w64 (x64.Min + x0.Period)) - 1)))) with hg95 | hg95
            ·replace hq87 := iteT hg95 hq87
             refine WL.no hE (runs_not hE rfl rfl rfl (by rw [hg95]; decide)) rfl ?_; clear hE a; intro a hE
             refine WL.no hE (runs_not hE rfl rfl rfl (by rw [hg95]; decide)) rfl ?_; clear hE a; intro a hE
             refine WL.no hE (runs_not hE rfl rfl rfl (by rw [hg95]; decide)) rfl ?_; clear hE a; intro a hE
             refine WL.no hE (runs_not hE rfl rfl rfl (by rw [hg95]; decide)) rfl ?_; clear hE a; intro a hE
             refine WL.vS hS hE (runs_plain rfl) (Gives.pickT hE rfl hg95 rfl) rfl ?_; clear hE a; intro a hE
             refine WL.vS hS hE (runs_plain rfl) (Gives.p hE rfl) rfl ?_; clear hE a; intro a hE
             refine WL.nil ?_
             subst hK92
             exact ⟨true, hq87, hE.pick _ ⟨rfl, rfl, rfl, rfl, rfl, trivial⟩, hS⟩
            ·replace hq87 := iteF hg95 hq87
             refine WL.vS hS hE (runs_if hE rfl rfl rfl hg95) (Gives.fld hE rfl fl37_4) rfl ?_; clear hE a; intro a hE
             refine WL.vS hS hE (runs_if hE rfl rfl rfl hg95) (Gives.loadB hE 0 rfl rfl rfl ty3) rfl ?_; clear hE a; intro a hE
             refine WL.fnq hE (Fishref2within_ok hS  rfl (r := Fishref2within x64.Weight 0 1000)) (runs_if hE rfl rfl rfl hg95) bd36 rfl rfl rfl ?_
             clear hE hS; rintro e w ⟨rfl, hS⟩; refine ⟨_, rfl, ?_⟩; clear a; intro a hE
             refine WL.vS hS hE (runs_if hE rfl rfl rfl hg95) (Gives.p hE rfl) rfl ?_; clear hE a; intro a hE
             refine WL.vS hS hE (runs_plain rfl) (Gives.pickF hE rfl hg95 rfl) rfl ?_; clear hE a; intro a hE
             refine WL.vS hS hE (runs_plain rfl) (Gives.p hE rfl) rfl ?_; clear hE a; intro a hE
             refine WL.nil ?_
             subst hK92
             exact ⟨!(Fishref2within x64.Weight 0 1000), hq87, hE.pick _ ⟨rfl, rfl, rfl, rfl, rfl, trivial⟩, hS⟩
         ·clear hE hS a w; rintro a w ⟨q91, rfl, hE, hS⟩
          refine W.cond hE rfl (fun hc96 => ?_) (fun hc96 => ?_)
          ·replace hq61 := iteT hc96 hq61
           refine W.seq (W.region ?_)
           refine WL.vS hS hE (runs_plain rfl) (Gives.p hE rfl) rfl ?_; clear hE a; intro a hE
           refine WL.nil ?_
           refine W.ret ?_
           subst hK72
           rw [← hq61] at hr
           dsimp only at hr
           refine finG (fn := Try.f11) (rs := [.tmp 2]) (vs := [_]) hE rfl ⟨rfl, trivial⟩ ?_
           subst hr
           replace hS := hS.tail
           replace hS := hS.tail
           exact ⟨rfl, hS⟩
          ·replace hq61 := iteF hc96 hq61
           refine W.skip ?_
           refine W.region ?_
           refine WL.vS hS hE (runs_plain rfl) (Gives.inc hE rfl (by have := h0_0.small; omega)) rfl ?_; clear hE a; intro a hE
           refine WL.vS hS hE (runs_plain rfl) (Gives.p hE rfl) rfl ?_; clear hE a; intro a hE
           refine WL.nil ?_
           replace hS := hS.tail
           subst hK72
           exact ⟨rest65.length, Nat.lt_succ_self _, rest65, k63 + 1, rfl, hd66, hq61, hE.pick _ ⟨rfl, rfl, rfl, rfl, trivial⟩, hS⟩
    ·clear hE hS a w; rintro a w ⟨rfl, hE, hS⟩
     dsimp only at hr
     refine W.seq (W.region ?_)
     refine WL.vS hS hE (runs_plain rfl) (Gives.p hE rfl) rfl ?_; clear hE a; intro a hE
     refine WL.nil ?_
     refine W.ret ?_
     refine finG (fn := Try.f11) (rs := [.tmp 2]) (vs := [_]) hE rfl ⟨rfl, trivial⟩ ?_
     subst hr
     replace hS := hS.tail
     exact ⟨rfl, hS⟩
set_option maxHeartbeats 8000000 in
theorem Fishref2TimesFault_ok  {w : World} {s : Sg} {R : List HP} {x0 : PlanPeriodic} {a0_0 : Option Addr} {c0_0 : Nat} {x1 : List Int} {a1 : Option Addr} {c1 : Nat} (hS : St w s (R)) (h0_0 : Sl 5 RPlanRule s a0_0 c0_0 x0.Rules) (h1 : Sl 1 (RI .i64) s a1 c1 x1) {r : Int} (hr : Fishref2TimesFault x0 x1 = r) :
  Calls Try.prog 15 [.agg [.int .i64 x0.Period, .int .i64 x0.Events, .slice a0_0 x0.Rules.length c0_0].toArray, .slice a1 x1.length c1].toArray w (fun e w => e = .returned (.int .i64 r) ∧ St w s (R)) := by
 refine enter Try.func15 rfl rfl rfl fun a hE => ?_
 rw [Fishref2TimesFault] at hr
 refine W.seq (W.region ?_)
 refine WL.box hE hS (runs_plain rfl) rfl rfl rfl ?_; clear hE hS a w; intro b51 a w hE hS
 refine WL.vS hS hE (runs_plain rfl) (Gives.p hE rfl) rfl ?_; clear hE a; intro a hE
 refine WL.nil ?_
 refine W.seq ?_
 refine W.seq (W.region ?_)
 refine WL.vS hS hE (runs_plain rfl) (Gives.loadBA hE 0 rfl rfl ty24) rfl ?_; clear hE a; intro a hE
 refine WL.fnq hE (Fishref2PeriodicFault_ok hS h0_0 rfl (r := Fishref2PeriodicFault x0)) (runs_plain rfl) bd11 rfl rfl rfl ?_
 clear hE hS; rintro e w ⟨rfl, hS⟩; refine ⟨_, rfl, ?_⟩; clear a; intro a hE
 refine WL.vS hS hE (runs_plain rfl) (Gives.p hE rfl) rfl ?_; clear hE a; intro a hE
 refine WL.nil ?_
 refine W.seq (W.region ?_)
 refine WL.vS hS hE (runs_plain rfl) (Gives.p hE rfl) rfl ?_; clear hE a; intro a hE
 refine WL.vS hS hE (runs_plain rfl) (Gives.p hE rfl) rfl ?_; clear hE a; intro a hE
 refine WL.nil ?_
 refine W.cond hE rfl (fun hc52 => ?_) (fun hc52 => ?_)
 ·replace hr := iteT hc52 hr
  refine W.seq (W.region ?_)
  refine WL.vS hS hE (runs_plain rfl) (Gives.p hE rfl) rfl ?_; clear hE a; intro a hE
  refine WL.vS hS hE (runs_plain rfl) (Gives.p hE rfl) rfl ?_; clear hE a; intro a hE
  refine WL.nil ?_
  refine W.ret ?_
  refine finG (fn := Try.f15) (rs := [.tmp 4]) (vs := [_]) hE rfl ⟨rfl, trivial⟩ ?_
  subst hr
  replace hS := hS.tail
  exact ⟨rfl, hS⟩
 ·replace hr := iteF hc52 hr
  refine W.skip ?_
  refine W.seq ?_
  refine W.seq (W.region ?_)
  refine WL.vS hS hE (runs_plain rfl) (Gives.p hE rfl) rfl ?_; clear hE a; intro a hE
  refine WL.vS hS hE (runs_plain rfl) (Gives.len hE rfl sl29) rfl ?_; clear hE a; intro a hE
  refine WL.vS hS hE (runs_plain rfl) (Gives.fld hE rfl fl24_1) rfl ?_; clear hE a; intro a hE
  refine WL.vS hS hE (runs_plain rfl) (Gives.loadB hE 0 rfl rfl rfl ty3) rfl ?_; clear hE a; intro a hE
  refine WL.vS hS hE (runs_plain rfl) (Gives.p hE rfl) rfl ?_; clear hE a; intro a hE
  refine WL.nil ?_
  refine W.cond hE rfl (fun hc53 => ?_) (fun hc53 => ?_)
  ·replace hr := iteT hc53 hr
   refine W.seq (W.region ?_)
   refine WL.vS hS hE (runs_plain rfl) (Gives.p hE rfl) rfl ?_; clear hE a; intro a hE
   refine WL.nil ?_
   refine W.ret ?_
   refine finG (fn := Try.f15) (rs := [.tmp 4]) (vs := [_]) hE rfl ⟨rfl, trivial⟩ ?_
   subst hr
   replace hS := hS.tail
   exact ⟨rfl, hS⟩
  ·replace hr := iteF hc53 hr
   refine W.skip ?_
   refine W.seq ?_
   refine W.seq (W.region ?_)
   refine WL.vS hS hE (runs_plain rfl) (Gives.p hE rfl) rfl ?_; clear hE a; intro a hE
   refine WL.vS hS hE (runs_plain rfl) (Gives.len hE rfl sl29) rfl ?_; clear hE a; intro a hE
   refine WL.vS hS hE (runs_plain rfl) (Gives.p hE rfl) rfl ?_; clear hE a; intro a hE
   refine WL.nil ?_
   obtain ⟨q55, hq54, hr⟩ := bndS hr
   refine W.cut (fun a w => (.next ()) = q55 ∧ Rep a 31 [] ∧ St w s (pt b51 (.cells #[.int .i64 x0.Period, .int .i64 x0.Events, .slice a0_0 x0.Rules.length c0_0] 24 (0, 0)) :: R)) ?_ ?_
   ·refine W.block ?_
    refine W.loop (fun m a w => ∃ (rest58 : List Int) (k56 : Nat), rest58.length = m ∧ x1.drop k56 = rest58 ∧ Fishref2TimesFault.loop1 x0 rest58 = q55 ∧ Rep a 31 [(2, .pointer (some ⟨b51, 0, none⟩)), (18, .slice a1 x1.length c1), (19, .int .i64 ((x1).length : Int)), (20, .int .i64 ((k56 : Nat) : Int))] ∧ St w s (pt b51 (.cells #[.int .i64 x0.Period, .int .i64 x0.Events, .slice a0_0 x0.Rules.length c0_0] 24 (0, 0)) :: R)) (m := x1.length) ⟨x1, 0, rfl, rfl, hq54, hE.pick _ ⟨rfl, rfl, rfl, rfl, trivial⟩, hS⟩ ?_
    clear hE hS a w hq54; rintro m62 a w ⟨rest58, k56, rfl, hd59, hq54, hE, hS⟩
    refine W.gen fun K65 hK65 => ?_
    rcases rest58 with _ | ⟨x57, rest58⟩
    ·have hlt60 := drop_nil hd59
     refine W.seq (W.region ?_)
     refine WL.vS hS hE (runs_plain rfl) (Gives.p hE rfl) rfl ?_; clear hE a; intro a hE
     refine WL.nil ?_
     refine W.seq ?_
     refine W.condF hE rfl (decide_eq_false (by omega)) ?_
     subst hK65
     refine W.exit rfl ?_
     exact ⟨hq54, hE.pick _ trivial, hS⟩
    ·obtain ⟨hlt60, hx61, hd59⟩ := drop_cons hd59
     rw [Fishref2TimesFault.loop1] at hq54
     refine W.seq (W.region ?_)
     refine WL.vS hS hE (runs_plain rfl) (Gives.p hE rfl) rfl ?_; clear hE a; intro a hE
     refine WL.nil ?_
     refine W.seq ?_
     refine W.condT hE rfl (decide_eq_true (by omega)) ?_
     refine W.skip ?_
     refine W.seq ?_
     refine W.block ?_
     refine W.seq (W.region ?_)
     obtain ⟨cs66, hl67, hR68, hat69⟩ := h1.at hx61
     subst hR68
     refine WL.vS hS hE (runs_plain rfl) (Gives.idx hE k56 rfl rfl sl29 rfl hlt60 (h1.aok hlt60)) rfl ?_; clear hE a; intro a hE
     refine WL.vS hS hE (runs_plain rfl) (Gives.load1 hE rfl (fun w h => hat69 w _ h) ty3) rfl ?_; clear hE a; intro a hE
     refine WL.vS hS hE (runs_plain rfl) (Gives.p hE rfl) rfl ?_; clear hE a; intro a hE
     refine WL.nil ?_
     refine W.seq (W.region ?_)
     refine WL.vS hS hE (runs_plain rfl) (Gives.p hE rfl) rfl ?_; clear hE a; intro a hE
     refine WL.vS hS hE (runs_plain rfl) (Gives.fld hE rfl fl24_0) rfl ?_; clear hE a; intro a hE
     refine WL.vS hS hE (runs_plain rfl) (Gives.loadB hE 0 rfl rfl rfl ty3) rfl ?_; clear hE a; intro a hE
     refine WL.vS hS hE (runs_plain rfl) (Gives.p hE rfl) rfl ?_; clear hE a; intro a hE
     refine WL.fnq hE (Fishref2within_ok hS  rfl (r := Fishref2within x57 0 (w64 (x0.Period - 1)))) (runs_plain rfl) bd36 rfl rfl rfl ?_
     clear hE hS; rintro e w ⟨rfl, hS⟩; refine ⟨_, rfl, ?_⟩; clear a; intro a hE
     refine WL.vS hS hE (runs_plain rfl) (Gives.p hE rfl) rfl ?_; clear hE a; intro a hE
     refine WL.nil ?_
     refine W.cond hE rfl (fun hc70 => ?_) (fun hc70 => ?_)
     ·replace hq54 := iteT hc70 hq54
      refine W.seq (W.region ?_)
      refine WL.vS hS hE (runs_plain rfl) (Gives.p hE rfl) rfl ?_; clear hE a; intro a hE
      refine WL.nil ?_
      refine W.ret ?_
      subst hK65
      rw [← hq54] at hr
      dsimp only at hr
      refine finG (fn := Try.f15) (rs := [.tmp 4]) (vs := [_]) hE rfl ⟨rfl, trivial⟩ ?_
      subst hr
      replace hS := hS.tail
      exact ⟨rfl, hS⟩
     ·replace hq54 := iteF hc70 hq54
      refine W.skip ?_
      refine W.region ?_
      refine WL.vS hS hE (runs_plain rfl) (Gives.inc hE rfl (by have := h1.small; omega)) rfl ?_; clear hE a; intro a hE
      refine WL.vS hS hE (runs_plain rfl) (Gives.p hE rfl) rfl ?_; clear hE a; intro a hE
      refine WL.nil ?_
      subst hK65
      exact ⟨rest58.length, Nat.lt_succ_self _, rest58, k56 + 1, rfl, hd59, hq54, hE.pick _ ⟨rfl, rfl, rfl, rfl, trivial⟩, hS⟩
   ·clear hE hS a w; rintro a w ⟨rfl, hE, hS⟩
    dsimp only at hr
    refine W.seq (W.region ?_)
    refine WL.vS hS hE (runs_plain rfl) (Gives.p hE rfl) rfl ?_; clear hE a; intro a hE
    refine WL.nil ?_
    refine W.ret ?_
    refine finG (fn := Try.f15) (rs := [.tmp 4]) (vs := [_]) hE rfl ⟨rfl, trivial⟩ ?_
    subst hr
    replace hS := hS.tail
    exact ⟨rfl, hS⟩
set_option maxHeartbeats 8000000 in
theorem PlancheckTimes_ok  {w : World} {s : Sg} {R : List HP} {x0 : PlanPeriodic} {a0_0 : Option Addr} {c0_0 : Nat} {x1 : List Int} {a1 : Option Addr} {c1 : Nat} (hS : St w s (R)) (h0_0 : Sl 5 RPlanRule s a0_0 c0_0 x0.Rules) (h1 : Sl 1 (RI .i64) s a1 c1 x1) {r : Int} (hr : PlancheckTimes x0 x1 = r) :
  Calls Try.prog 37 [.agg [.int .i64 x0.Period, .int .i64 x0.Events, .slice a0_0 x0.Rules.length c0_0].toArray, .slice a1 x1.length c1].toArray w (fun e w => e = .returned (.int .i64 r) ∧ St w s (R)) := by
 refine enter Try.func37 rfl rfl rfl fun a hE => ?_
 rw [PlancheckTimes] at hr
 refine W.seq (W.region ?_)
 refine WL.box hE hS (runs_plain rfl) rfl rfl rfl ?_; clear hE hS a w; intro b51 a w hE hS
 refine WL.vS hS hE (runs_plain rfl) (Gives.p hE rfl) rfl ?_; clear hE a; intro a hE
 refine WL.nil ?_
 refine W.seq ?_
 refine W.seq (W.region ?_)
 refine WL.vS hS hE (runs_plain rfl) (Gives.loadBA hE 0 rfl rfl ty24) rfl ?_; clear hE a; intro a hE
 refine WL.fnq hE (PlanCheckPeriodic_ok hS h0_0 rfl (r := PlanCheckPeriodic x0)) (runs_plain rfl) bd10 rfl rfl rfl ?_
 clear hE hS; rintro e w ⟨rfl, hS⟩; refine ⟨_, rfl, ?_⟩; clear a; intro a hE
 refine WL.vS hS hE (runs_plain rfl) (Gives.p hE rfl) rfl ?_; clear hE a; intro a hE
 refine WL.nil ?_
 refine W.seq (W.region ?_)
 refine WL.vS hS hE (runs_plain rfl) (Gives.p hE rfl) rfl ?_; clear hE a; intro a hE
 refine WL.vS hS hE (runs_plain rfl) (Gives.p hE rfl) rfl ?_; clear hE a; intro a hE
 refine WL.nil ?_
 refine W.cond hE rfl (fun hc52 => ?_) (fun hc52 => ?_)
 ·replace hr := iteT hc52 hr
  refine W.seq (W.region ?_)
  refine WL.vS hS hE (runs_plain rfl) (Gives.p hE rfl) rfl ?_; clear hE a; intro a hE
  refine WL.vS hS hE (runs_plain rfl) (Gives.p hE rfl) rfl ?_; clear hE a; intro a hE
  refine WL.nil ?_
  refine W.ret ?_
  refine finG (fn := Try.f37) (rs := [.tmp 4]) (vs := [_]) hE rfl ⟨rfl, trivial⟩ ?_
  subst hr
  replace hS := hS.tail
  exact ⟨rfl, hS⟩
 ·replace hr := iteF hc52 hr
  refine W.skip ?_
  refine W.seq ?_
  refine W.seq (W.region ?_)
  refine WL.vS hS hE (runs_plain rfl) (Gives.p hE rfl) rfl ?_; clear hE a; intro a hE
  refine WL.vS hS hE (runs_plain rfl) (Gives.len hE rfl sl29) rfl ?_; clear hE a; intro a hE
  refine WL.vS hS hE (runs_plain rfl) (Gives.fld hE rfl fl24_1) rfl ?_; clear hE a; intro a hE
  refine WL.vS hS hE (runs_plain rfl) (Gives.loadB hE 0 rfl rfl rfl ty3) rfl ?_; clear hE a; intro a hE
  refine WL.vS hS hE (runs_plain rfl) (Gives.p hE rfl) rfl ?_; clear hE a; intro a hE
  refine WL.nil ?_
  refine W.cond hE rfl (fun hc53 => ?_) (fun hc53 => ?_)
  ·replace hr := iteT hc53 hr
   refine W.seq (W.region ?_)
   refine WL.vS hS hE (runs_plain rfl) (Gives.p hE rfl) rfl ?_; clear hE a; intro a hE
   refine WL.nil ?_
   refine W.ret ?_
   refine finG (fn := Try.f37) (rs := [.tmp 4]) (vs := [_]) hE rfl ⟨rfl, trivial⟩ ?_
   subst hr
   replace hS := hS.tail
   exact ⟨rfl, hS⟩
  ·replace hr := iteF hc53 hr
   refine W.skip ?_
   refine W.seq ?_
   refine W.seq (W.region ?_)
   refine WL.vS hS hE (runs_plain rfl) (Gives.p hE rfl) rfl ?_; clear hE a; intro a hE
   refine WL.vS hS hE (runs_plain rfl) (Gives.len hE rfl sl29) rfl ?_; clear hE a; intro a hE
   refine WL.vS hS hE (runs_plain rfl) (Gives.p hE rfl) rfl ?_; clear hE a; intro a hE
   refine WL.nil ?_
   obtain ⟨q55, hq54, hr⟩ := bndS hr
   refine W.cut (fun a w => (.next ()) = q55 ∧ Rep a 31 [] ∧ St w s (pt b51 (.cells #[.int .i64 x0.Period, .int .i64 x0.Events, .slice a0_0 x0.Rules.length c0_0] 24 (0, 0)) :: R)) ?_ ?_
   ·refine W.block ?_
    refine W.loop (fun m a w => ∃ (rest58 : List Int) (k56 : Nat), rest58.length = m ∧ x1.drop k56 = rest58 ∧ PlancheckTimes.loop1 x0 rest58 = q55 ∧ Rep a 31 [(2, .pointer (some ⟨b51, 0, none⟩)), (18, .slice a1 x1.length c1), (19, .int .i64 ((x1).length : Int)), (20, .int .i64 ((k56 : Nat) : Int))] ∧ St w s (pt b51 (.cells #[.int .i64 x0.Period, .int .i64 x0.Events, .slice a0_0 x0.Rules.length c0_0] 24 (0, 0)) :: R)) (m := x1.length) ⟨x1, 0, rfl, rfl, hq54, hE.pick _ ⟨rfl, rfl, rfl, rfl, trivial⟩, hS⟩ ?_
    clear hE hS a w hq54; rintro m62 a w ⟨rest58, k56, rfl, hd59, hq54, hE, hS⟩
    refine W.gen fun K65 hK65 => ?_
    rcases rest58 with _ | ⟨x57, rest58⟩
    ·have hlt60 := drop_nil hd59
     refine W.seq (W.region ?_)
     refine WL.vS hS hE (runs_plain rfl) (Gives.p hE rfl) rfl ?_; clear hE a; intro a hE
     refine WL.nil ?_
     refine W.seq ?_
     refine W.condF hE rfl (decide_eq_false (by omega)) ?_
     subst hK65
     refine W.exit rfl ?_
     exact ⟨hq54, hE.pick _ trivial, hS⟩
    ·obtain ⟨hlt60, hx61, hd59⟩ := drop_cons hd59
     rw [PlancheckTimes.loop1] at hq54
     refine W.seq (W.region ?_)
     refine WL.vS hS hE (runs_plain rfl) (Gives.p hE rfl) rfl ?_; clear hE a; intro a hE
     refine WL.nil ?_
     refine W.seq ?_
     refine W.condT hE rfl (decide_eq_true (by omega)) ?_
     refine W.skip ?_
     refine W.seq ?_
     refine W.block ?_
     refine W.seq (W.region ?_)
     obtain ⟨cs66, hl67, hR68, hat69⟩ := h1.at hx61
     subst hR68
     refine WL.vS hS hE (runs_plain rfl) (Gives.idx hE k56 rfl rfl sl29 rfl hlt60 (h1.aok hlt60)) rfl ?_; clear hE a; intro a hE
     refine WL.vS hS hE (runs_plain rfl) (Gives.load1 hE rfl (fun w h => hat69 w _ h) ty3) rfl ?_; clear hE a; intro a hE
     refine WL.vS hS hE (runs_plain rfl) (Gives.p hE rfl) rfl ?_; clear hE a; intro a hE
     refine WL.nil ?_
     refine W.seq (W.region ?_)
     refine WL.vS hS hE (runs_plain rfl) (Gives.p hE rfl) rfl ?_; clear hE a; intro a hE
     refine WL.vS hS hE (runs_plain rfl) (Gives.fld hE rfl fl24_0) rfl ?_; clear hE a; intro a hE
     refine WL.vS hS hE (runs_plain rfl) (Gives.loadB hE 0 rfl rfl rfl ty3) rfl ?_; clear hE a; intro a hE
     refine WL.vS hS hE (runs_plain rfl) (Gives.p hE rfl) rfl ?_; clear hE a; intro a hE
     refine WL.fnq hE (Planwithin_ok hS  rfl (r := Planwithin x57 0 (w64 (x0.Period - 1)))) (runs_plain rfl) bd35 rfl rfl rfl ?_
     clear hE hS; rintro e w ⟨rfl, hS⟩; refine ⟨_, rfl, ?_⟩; clear a; intro a hE
     refine WL.vS hS hE (runs_plain rfl) (Gives.p hE rfl) rfl ?_; clear hE a; intro a hE
     refine WL.nil ?_
     refine W.cond hE rfl (fun hc70 => ?_) (fun hc70 => ?_)
     ·replace hq54 := iteT hc70 hq54
      refine W.seq (W.region ?_)
      refine WL.vS hS hE (runs_plain rfl) (Gives.p hE rfl) rfl ?_; clear hE a; intro a hE
      refine WL.nil ?_
      refine W.ret ?_
      subst hK65
      rw [← hq54] at hr
      dsimp only at hr
      refine finG (fn := Try.f37) (rs := [.tmp 4]) (vs := [_]) hE rfl ⟨rfl, trivial⟩ ?_
      subst hr
      replace hS := hS.tail
      exact ⟨rfl, hS⟩
     ·replace hq54 := iteF hc70 hq54
      refine W.skip ?_
      refine W.region ?_
      refine WL.vS hS hE (runs_plain rfl) (Gives.inc hE rfl (by have := h1.small; omega)) rfl ?_; clear hE a; intro a hE
      refine WL.vS hS hE (runs_plain rfl) (Gives.p hE rfl) rfl ?_; clear hE a; intro a hE
      refine WL.nil ?_
      subst hK65
      exact ⟨rest58.length, Nat.lt_succ_self _, rest58, k56 + 1, rfl, hd59, hq54, hE.pick _ ⟨rfl, rfl, rfl, rfl, trivial⟩, hS⟩
   ·clear hE hS a w; rintro a w ⟨rfl, hE, hS⟩
    dsimp only at hr
    refine W.seq (W.region ?_)
    refine WL.vS hS hE (runs_plain rfl) (Gives.p hE rfl) rfl ?_; clear hE a; intro a hE
    refine WL.nil ?_
    refine W.ret ?_
    refine finG (fn := Try.f37) (rs := [.tmp 4]) (vs := [_]) hE rfl ⟨rfl, trivial⟩ ?_
    subst hr
    replace hS := hS.tail
    exact ⟨rfl, hS⟩
set_option maxHeartbeats 8000000 in
theorem Plangap_ok  {w : World} {s : Sg} {R : List HP} {x0 : PlanPeriodic} {a0_0 : Option Addr} {c0_0 : Nat} {x1 : PlanRule} {x2 : List Int} {a2 : Option Addr} {c2 : Nat} (hS : St w s (R)) (_h0_0 : Sl 5 RPlanRule s a0_0 c0_0 x0.Rules) (h2 : Sl 1 (RI .i64) s a2 c2 x2) {r : Int} (hr : Plangap x0 x1 x2 = some r) :
  Calls Try.prog 38 [.agg [.int .i64 x0.Period, .int .i64 x0.Events, .slice a0_0 x0.Rules.length c0_0].toArray, .agg (PlanRule.cells x1).toArray, .slice a2 x2.length c2].toArray w (fun e w => e = .returned (.int .i64 r) ∧ St w s (R)) := by
 refine enter Try.func38 rfl rfl rfl fun a hE => ?_
 rw [Plangap] at hr
 refine W.seq (W.region ?_)
 refine WL.box hE hS (runs_plain rfl) rfl rfl rfl ?_; clear hE hS a w; intro b51 a w hE hS
 refine WL.box hE hS (runs_plain rfl) rfl rfl rfl ?_; clear hE hS a w; intro b52 a w hE hS
 refine WL.vS hS hE (runs_plain rfl) (Gives.p hE rfl) rfl ?_; clear hE a; intro a hE
 refine WL.nil ?_
 refine W.seq ?_
 refine W.regionQ (C := fun w => St w s (pt b52 (.cells (PlanRule.cells x1).toArray 37 (0, 0)) :: pt b51 (.cells #[.int .i64 x0.Period, .int .i64 x0.Events, .slice a0_0 x0.Rules.length c0_0] 24 (0, 0)) :: R)) mixed (by kernel_rfl) hS.drew ?_
 refine QL.v hE (runs_plain rfl) (Gives.p hE rfl) rfl ?_; clear hE a; intro a hE
 refine QL.v hE (runs_plain rfl) (Gives.fld hE rfl fl37_1) rfl ?_; clear hE a; intro a hE
 refine QL.v hE (runs_plain rfl) (Gives.loadB hE 0 rfl rfl rfl ty3) rfl ?_; clear hE a; intro a hE
 obtain ⟨x53, hx54, hr⟩ := bindS hr
 obtain ⟨hi55, hlt56, hy57⟩ := gx_some hx54
 obtain ⟨cs58, hl59, hR60, hat61⟩ := h2.at hy57
 subst hR60
 refine QL.v hE (runs_plain rfl) (Gives.idx hE (x1.To).toNat rfl rfl sl29 hi55 hlt56 (h2.aok hlt56)) rfl ?_; clear hE a; intro a hE
 refine QL.v hE (runs_plain rfl) (Gives.load1 hE rfl (fun w h => hat61 w _ h) ty3) rfl ?_; clear hE a; intro a hE
 refine QL.v hE (runs_plain rfl) (Gives.p hE rfl) rfl ?_; clear hE a; intro a hE
 refine QL.v hE (runs_plain rfl) (Gives.fld hE rfl fl37_0) rfl ?_; clear hE a; intro a hE
 refine QL.v hE (runs_plain rfl) (Gives.loadB hE 0 rfl rfl rfl ty3) rfl ?_; clear hE a; intro a hE
 obtain ⟨x62, hx63, hr⟩ := bindS hr
 obtain ⟨hi64, hlt65, hy66⟩ := gx_some hx63
 obtain ⟨cs67, hl68, hR69, hat70⟩ := h2.at hy66
 subst hR69
 refine QL.v hE (runs_plain rfl) (Gives.idx hE (x1.From).toNat rfl rfl sl29 hi64 hlt65 (h2.aok hlt65)) rfl ?_; clear hE a; intro a hE
 refine QL.v hE (runs_plain rfl) (Gives.load1 hE rfl (fun w h => hat70 w _ h) ty3) rfl ?_; clear hE a; intro a hE
 refine QL.v hE (runs_plain rfl) (Gives.p hE rfl) rfl ?_; clear hE a; intro a hE
 refine QL.v hE (runs_plain rfl) (Gives.fld hE rfl fl37_2) rfl ?_; clear hE a; intro a hE
 refine QL.v hE (runs_plain rfl) (Gives.loadB hE 0 rfl rfl rfl ty3) rfl ?_; clear hE a; intro a hE
 refine QL.v hE (runs_plain rfl) (Gives.p hE rfl) rfl ?_; clear hE a; intro a hE
 refine QL.v hE (runs_plain rfl) (Gives.fld hE rfl fl24_0) rfl ?_; clear hE a; intro a hE
 refine QL.v hE (runs_plain rfl) (Gives.loadB hE 1 rfl rfl rfl ty3) rfl ?_; clear hE a; intro a hE
 obtain ⟨x71, hx72, hr⟩ := bindS hr
 refine QL.v hE (runs_plain rfl) (Gives.rm hE rfl rfl hx72) rfl ?_; clear hE a; intro a hE
 refine QL.v hE (runs_plain rfl) (Gives.p hE rfl) rfl ?_; clear hE a; intro a hE
 refine QL.nil ?_; clear hS w; intro w hS
 refine W.seq ?_
 refine W.seq (W.region ?_)
 refine WL.vS hS hE (runs_plain rfl) (Gives.p hE rfl) rfl ?_; clear hE a; intro a hE
 refine WL.vS hS hE (runs_plain rfl) (Gives.p hE rfl) rfl ?_; clear hE a; intro a hE
 refine WL.nil ?_
 obtain ⟨q74, hq73, hr⟩ := bndS hr
 refine W.cut (fun a w => ∃ (q77 : Int), q77 = q74 ∧ Rep a 35 [(4, .pointer (some ⟨b52, 0, none⟩)), (7, .int .i64 q77)] ∧ St w s (pt b52 (.cells (PlanRule.cells x1).toArray 37 (0, 0)) :: pt b51 (.cells #[.int .i64 x0.Period, .int .i64 x0.Events, .slice a0_0 x0.Rules.length c0_0] 24 (0, 0)) :: R)) ?_ ?_
 ·refine W.gen fun K78 hK78 => ?_
  refine W.cond hE rfl (fun hc79 => ?_) (fun hc79 => ?_)
  ·replace hq73 := iteT hc79 hq73
   refine W.region ?_
   refine WL.vS hS hE (runs_plain rfl) (Gives.p hE rfl) rfl ?_; clear hE a; intro a hE
   refine WL.vS hS hE (runs_plain rfl) (Gives.fld hE rfl fl24_0) rfl ?_; clear hE a; intro a hE
   refine WL.vS hS hE (runs_plain rfl) (Gives.loadB hE 1 rfl rfl rfl ty3) rfl ?_; clear hE a; intro a hE
   refine WL.vS hS hE (runs_plain rfl) (Gives.p hE rfl) rfl ?_; clear hE a; intro a hE
   refine WL.vS hS hE (runs_plain rfl) (Gives.p hE rfl) rfl ?_; clear hE a; intro a hE
   refine WL.nil ?_
   subst hK78
   exact ⟨w64 (x71 + x0.Period), hq73, hE.pick _ ⟨rfl, rfl, trivial⟩, hS⟩
  ·replace hq73 := iteF hc79 hq73
   refine W.skip ?_
   subst hK78
   exact ⟨x71, hq73, hE.pick _ ⟨rfl, rfl, trivial⟩, hS⟩
 ·clear hE hS a w; rintro a w ⟨q77, rfl, hE, hS⟩
  refine W.seq (W.region ?_)
  refine WL.vS hS hE (runs_plain rfl) (Gives.fld hE rfl fl37_2) rfl ?_; clear hE a; intro a hE
  refine WL.vS hS hE (runs_plain rfl) (Gives.loadB hE 0 rfl rfl rfl ty3) rfl ?_; clear hE a; intro a hE
  refine WL.vS hS hE (runs_plain rfl) (Gives.p hE rfl) rfl ?_; clear hE a; intro a hE
  refine WL.vS hS hE (runs_plain rfl) (Gives.p hE rfl) rfl ?_; clear hE a; intro a hE
  refine WL.vS hS hE (runs_plain rfl) (Gives.p hE rfl) rfl ?_; clear hE a; intro a hE
  refine WL.nil ?_
  refine W.ret ?_
  refine finG (fn := Try.f38) (rs := [.tmp 6]) (vs := [_]) hE rfl ⟨rfl, trivial⟩ ?_
  obtain rfl := Option.some.inj hr
  replace hS := hS.tail
  replace hS := hS.tail
  exact ⟨rfl, hS⟩
set_option maxHeartbeats 8000000 in
theorem PlanGap_ok  {w : World} {s : Sg} {R : List HP} {x0 : PlanPeriodic} {a0_0 : Option Addr} {c0_0 : Nat} {x1 : Int} {x2 : List Int} {a2 : Option Addr} {c2 : Nat} (hS : St w s (R)) (h0_0 : Sl 5 RPlanRule s a0_0 c0_0 x0.Rules) (h2 : Sl 1 (RI .i64) s a2 c2 x2) {r : Int × Int} (hr : PlanGap x0 x1 x2 = some r) :
  Calls Try.prog 12 [.agg [.int .i64 x0.Period, .int .i64 x0.Events, .slice a0_0 x0.Rules.length c0_0].toArray, .int .i64 x1, .slice a2 x2.length c2].toArray w (fun e w => e = .returned (.tuple #[.int .i64 r.1, .int .i64 r.2]) ∧ St w s (R)) := by
 refine enter Try.func12 rfl rfl rfl fun a hE => ?_
 rw [PlanGap] at hr
 refine W.seq (W.region ?_)
 refine WL.box hE hS (runs_plain rfl) rfl rfl rfl ?_; clear hE hS a w; intro b51 a w hE hS
 refine WL.vS hS hE (runs_plain rfl) (Gives.p hE rfl) rfl ?_; clear hE a; intro a hE
 refine WL.vS hS hE (runs_plain rfl) (Gives.p hE rfl) rfl ?_; clear hE a; intro a hE
 refine WL.nil ?_
 refine W.seq ?_
 refine W.seq (W.region ?_)
 refine WL.vS hS hE (runs_plain rfl) (Gives.loadBA hE 0 rfl rfl ty24) rfl ?_; clear hE a; intro a hE
 refine WL.vS hS hE (runs_plain rfl) (Gives.p hE rfl) rfl ?_; clear hE a; intro a hE
 refine WL.fnq hE (PlancheckTimes_ok hS h0_0 h2 rfl (r := PlancheckTimes x0 x2)) (runs_plain rfl) bd37 rfl rfl rfl ?_
 clear hE hS; rintro e w ⟨rfl, hS⟩; refine ⟨_, rfl, ?_⟩; clear a; intro a hE
 refine WL.vS hS hE (runs_plain rfl) (Gives.p hE rfl) rfl ?_; clear hE a; intro a hE
 refine WL.nil ?_
 refine W.seq (W.region ?_)
 refine WL.vS hS hE (runs_plain rfl) (Gives.p hE rfl) rfl ?_; clear hE a; intro a hE
 refine WL.vS hS hE (runs_plain rfl) (Gives.p hE rfl) rfl ?_; clear hE a; intro a hE
 refine WL.nil ?_
 refine W.cond hE rfl (fun hc52 => ?_) (fun hc52 => ?_)
 ·replace hr := iteT hc52 hr
  refine W.seq (W.region ?_)
  refine WL.vS hS hE (runs_plain rfl) (Gives.p hE rfl) rfl ?_; clear hE a; intro a hE
  refine WL.vS hS hE (runs_plain rfl) (Gives.p hE rfl) rfl ?_; clear hE a; intro a hE
  refine WL.vS hS hE (runs_plain rfl) (Gives.p hE rfl) rfl ?_; clear hE a; intro a hE
  refine WL.nil ?_
  refine W.ret ?_
  refine finG (fn := Try.f12) (rs := [.tmp 6, .tmp 7]) (vs := [_, _]) hE rfl ⟨rfl, rfl, trivial⟩ ?_
  obtain rfl := Option.some.inj hr
  replace hS := hS.tail
  exact ⟨rfl, hS⟩
 ·replace hr := iteF hc52 hr
  refine W.skip ?_
  refine W.seq ?_
  refine W.seq (W.region ?_)
  refine WL.vS hS hE (runs_plain rfl) (Gives.p hE rfl) rfl ?_; clear hE a; intro a hE
  refine WL.vS hS hE (runs_plain rfl) (Gives.fld hE rfl fl24_2) rfl ?_; clear hE a; intro a hE
  refine WL.vS hS hE (runs_plain rfl) (Gives.loadB hE 0 rfl rfl rfl ty22) rfl ?_; clear hE a; intro a hE
  refine WL.vS hS hE (runs_plain rfl) (Gives.len hE rfl sl22) rfl ?_; clear hE a; intro a hE
  refine WL.vS hS hE (runs_plain rfl) (Gives.p hE rfl) rfl ?_; clear hE a; intro a hE
  refine WL.fnq hE (Planwithin_ok hS  rfl (r := Planwithin x1 0 (w64 (((x0.Rules).length : Int) - 1)))) (runs_plain rfl) bd35 rfl rfl rfl ?_
  clear hE hS; rintro e w ⟨rfl, hS⟩; refine ⟨_, rfl, ?_⟩; clear a; intro a hE
  refine WL.vS hS hE (runs_plain rfl) (Gives.p hE rfl) rfl ?_; clear hE a; intro a hE
  refine WL.nil ?_
  refine W.cond hE rfl (fun hc53 => ?_) (fun hc53 => ?_)
  ·replace hr := iteT hc53 hr
   refine W.seq (W.region ?_)
   refine WL.vS hS hE (runs_plain rfl) (Gives.p hE rfl) rfl ?_; clear hE a; intro a hE
   refine WL.vS hS hE (runs_plain rfl) (Gives.p hE rfl) rfl ?_; clear hE a; intro a hE
   refine WL.nil ?_
   refine W.ret ?_
   refine finG (fn := Try.f12) (rs := [.tmp 6, .tmp 7]) (vs := [_, _]) hE rfl ⟨rfl, rfl, trivial⟩ ?_
   obtain rfl := Option.some.inj hr
   replace hS := hS.tail
   exact ⟨rfl, hS⟩
  ·replace hr := iteF hc53 hr
   refine W.skip ?_
   refine W.seq ?_
   refine W.regionQ (C := fun w => St w s (pt b51 (.cells #[.int .i64 x0.Period, .int .i64 x0.Events, .slice a0_0 x0.Rules.length c0_0] 24 (0, 0)) :: R)) mixed (by kernel_rfl) hS.drew ?_
   refine QL.v hE (runs_plain rfl) (Gives.loadBA hE 0 rfl rfl ty24) rfl ?_; clear hE a; intro a hE
   refine QL.v hE (runs_plain rfl) (Gives.fld hE rfl fl24_2) rfl ?_; clear hE a; intro a hE
   refine QL.v hE (runs_plain rfl) (Gives.loadB hE 0 rfl rfl rfl ty22) rfl ?_; clear hE a; intro a hE
   refine QL.v hE (runs_plain rfl) (Gives.p hE rfl) rfl ?_; clear hE a; intro a hE
   obtain ⟨x54, hx55, hr⟩ := bindS hr
   obtain ⟨hi56, hlt57, hy58⟩ := gx_some hx55
   obtain ⟨cs59, hl60, hR61, hat62⟩ := h0_0.at hy58
   subst hR61
   refine QL.v hE (runs_plain rfl) (Gives.idx hE (x1).toNat rfl rfl sl22 hi56 hlt57 (h0_0.aok hlt57)) rfl ?_; clear hE a; intro a hE
   refine QL.v hE (runs_plain rfl) (Gives.loadA hE rfl (fun w h => hat62 w _ h) ty37) rfl ?_; clear hE a; intro a hE
   refine QL.v hE (runs_plain rfl) (Gives.p hE rfl) rfl ?_; clear hE a; intro a hE
   obtain ⟨q63, hq64, hr⟩ := bindS hr
   refine QL.fnq hE (fun w hS => Plangap_ok hS h0_0 h2 hq64) (runs_plain rfl) bd38 rfl rfl rfl ?_; clear hE a; intro a hE
   refine QL.v hE (runs_plain rfl) (Gives.p hE rfl) rfl ?_; clear hE a; intro a hE
   refine QL.v hE (runs_plain rfl) (Gives.p hE rfl) rfl ?_; clear hE a; intro a hE
   refine QL.nil ?_; clear hS w; intro w hS
   refine W.ret ?_
   refine finG (fn := Try.f12) (rs := [.tmp 6, .tmp 7]) (vs := [_, _]) hE rfl ⟨rfl, rfl, trivial⟩ ?_
   obtain rfl := Option.some.inj hr
   replace hS := hS.tail
   exact ⟨rfl, hS⟩
set_option maxHeartbeats 8000000 in
theorem Fishref2SlackOf_ok  {w : World} {s : Sg} {R : List HP} {x0 : MendRound} {a0_0 : Option Addr} {c0_0 : Nat} {a0_1 : Option Addr} {c0_1 : Nat} {x1 : MendLink} (hS : St w s (R)) (h0_0 : Sl 1 (RI .i64) s a0_0 c0_0 x0.Plan) (_h0_1 : Sl 4 RMendLink s a0_1 c0_1 x0.Links) {r : Int} (hr : Fishref2SlackOf x0 x1 = some r) :
  Calls Try.prog 28 [.agg [.int .i64 x0.Period, .slice a0_0 x0.Plan.length c0_0, .slice a0_1 x0.Links.length c0_1].toArray, .agg (MendLink.cells x1).toArray].toArray w (fun e w => e = .returned (.int .i64 r) ∧ St w s (R)) := by
 refine enter Try.func28 rfl rfl rfl fun a hE => ?_
 rw [Fishref2SlackOf] at hr
 refine W.seq (W.region ?_)
 refine WL.box hE hS (runs_plain rfl) rfl rfl rfl ?_; clear hE hS a w; intro b51 a w hE hS
 refine WL.box hE hS (runs_plain rfl) rfl rfl rfl ?_; clear hE hS a w; intro b52 a w hE hS
 refine WL.vS hS hE (runs_plain rfl) (Gives.p hE rfl) rfl ?_; clear hE a; intro a hE
 refine WL.nil ?_
 refine W.seq ?_
 refine W.regionQ (C := fun w => St w s (pt b52 (.cells (MendLink.cells x1).toArray 53 (0, 0)) :: pt b51 (.cells #[.int .i64 x0.Period, .slice a0_0 x0.Plan.length c0_0, .slice a0_1 x0.Links.length c0_1] 51 (0, 0)) :: R)) mixed (by kernel_rfl) hS.drew ?_
 refine QL.v hE (runs_plain rfl) (Gives.fld hE rfl fl51_1) rfl ?_; clear hE a; intro a hE
 refine QL.v hE (runs_plain rfl) (Gives.loadB hE 1 rfl rfl rfl ty29) rfl ?_; clear hE a; intro a hE
 refine QL.v hE (runs_plain rfl) (Gives.fld hE rfl fl53_1) rfl ?_; clear hE a; intro a hE
 refine QL.v hE (runs_plain rfl) (Gives.loadB hE 0 rfl rfl rfl ty3) rfl ?_; clear hE a; intro a hE
 obtain ⟨x53, hx54, hr⟩ := bindS hr
 obtain ⟨hi55, hlt56, hy57⟩ := gx_some hx54
 obtain ⟨cs58, hl59, hR60, hat61⟩ := h0_0.at hy57
 subst hR60
 refine QL.v hE (runs_plain rfl) (Gives.idx hE (x1.To).toNat rfl rfl sl29 hi55 hlt56 (h0_0.aok hlt56)) rfl ?_; clear hE a; intro a hE
 refine QL.v hE (runs_plain rfl) (Gives.load1 hE rfl (fun w h => hat61 w _ h) ty3) rfl ?_; clear hE a; intro a hE
 refine QL.v hE (runs_plain rfl) (Gives.fld hE rfl fl51_1) rfl ?_; clear hE a; intro a hE
 refine QL.v hE (runs_plain rfl) (Gives.loadB hE 1 rfl rfl rfl ty29) rfl ?_; clear hE a; intro a hE
 refine QL.v hE (runs_plain rfl) (Gives.fld hE rfl fl53_0) rfl ?_; clear hE a; intro a hE
 refine QL.v hE (runs_plain rfl) (Gives.loadB hE 0 rfl rfl rfl ty3) rfl ?_; clear hE a; intro a hE
 obtain ⟨x62, hx63, hr⟩ := bindS hr
 obtain ⟨hi64, hlt65, hy66⟩ := gx_some hx63
 obtain ⟨cs67, hl68, hR69, hat70⟩ := h0_0.at hy66
 subst hR69
 refine QL.v hE (runs_plain rfl) (Gives.idx hE (x1.From).toNat rfl rfl sl29 hi64 hlt65 (h0_0.aok hlt65)) rfl ?_; clear hE a; intro a hE
 refine QL.v hE (runs_plain rfl) (Gives.load1 hE rfl (fun w h => hat70 w _ h) ty3) rfl ?_; clear hE a; intro a hE
 refine QL.v hE (runs_plain rfl) (Gives.p hE rfl) rfl ?_; clear hE a; intro a hE
 refine QL.v hE (runs_plain rfl) (Gives.fld hE rfl fl53_3) rfl ?_; clear hE a; intro a hE
 refine QL.v hE (runs_plain rfl) (Gives.loadB hE 0 rfl rfl rfl ty3) rfl ?_; clear hE a; intro a hE
 refine QL.v hE (runs_plain rfl) (Gives.fld hE rfl fl51_0) rfl ?_; clear hE a; intro a hE
 refine QL.v hE (runs_plain rfl) (Gives.loadB hE 1 rfl rfl rfl ty3) rfl ?_; clear hE a; intro a hE
 refine QL.v hE (runs_plain rfl) (Gives.p hE rfl) rfl ?_; clear hE a; intro a hE
 refine QL.v hE (runs_plain rfl) (Gives.p hE rfl) rfl ?_; clear hE a; intro a hE
 refine QL.v hE (runs_plain rfl) (Gives.fld hE rfl fl53_2) rfl ?_; clear hE a; intro a hE
 refine QL.v hE (runs_plain rfl) (Gives.loadB hE 0 rfl rfl rfl ty3) rfl ?_; clear hE a; intro a hE
 refine QL.v hE (runs_plain rfl) (Gives.p hE rfl) rfl ?_; clear hE a; intro a hE
 refine QL.v hE (runs_plain rfl) (Gives.p hE rfl) rfl ?_; clear hE a; intro a hE
 refine QL.nil ?_; clear hS w; intro w hS
 refine W.ret ?_
 refine finG (fn := Try.f28) (rs := [.tmp 4]) (vs := [_]) hE rfl ⟨rfl, trivial⟩ ?_
 obtain rfl := Option.some.inj hr
 replace hS := hS.tail
 replace hS := hS.tail
 exact ⟨rfl, hS⟩
set_option maxHeartbeats 8000000 in
theorem Plancost_ok  {w : World} {s : Sg} {R : List HP} {x0 : PlanPeriodic} {a0_0 : Option Addr} {c0_0 : Nat} {x1 : List Int} {a1 : Option Addr} {c1 : Nat} (hS : St w s (R)) (h0_0 : Sl 5 RPlanRule s a0_0 c0_0 x0.Rules) (h1 : Sl 1 (RI .i64) s a1 c1 x1) {r : Int} (hr : Plancost x0 x1 = some r) :
  Calls Try.prog 41 [.agg [.int .i64 x0.Period, .int .i64 x0.Events, .slice a0_0 x0.Rules.length c0_0].toArray, .slice a1 x1.length c1].toArray w (fun e w => e = .returned (.int .i64 r) ∧ St w s (R)) := by
 refine enter Try.func41 rfl rfl rfl fun a hE => ?_
 rw [Plancost] at hr
 refine W.seq (W.region ?_)
 refine WL.box hE hS (runs_plain rfl) rfl rfl rfl ?_; clear hE hS a w; intro b51 a w hE hS
 refine WL.vS hS hE (runs_plain rfl) (Gives.p hE rfl) rfl ?_; clear hE a; intro a hE
 refine WL.nil ?_
 refine W.seq (W.region ?_)
 refine WL.vS hS hE (runs_plain rfl) (Gives.p hE rfl) rfl ?_; clear hE a; intro a hE
 refine WL.nil ?_
 refine W.seq ?_
 refine W.seq (W.region ?_)
 refine WL.vS hS hE (runs_plain rfl) (Gives.fld hE rfl fl24_2) rfl ?_; clear hE a; intro a hE
 refine WL.vS hS hE (runs_plain rfl) (Gives.loadB hE 0 rfl rfl rfl ty22) rfl ?_; clear hE a; intro a hE
 refine WL.vS hS hE (runs_plain rfl) (Gives.len hE rfl sl22) rfl ?_; clear hE a; intro a hE
 refine WL.vS hS hE (runs_plain rfl) (Gives.p hE rfl) rfl ?_; clear hE a; intro a hE
 refine WL.nil ?_
 obtain ⟨q53, hq52, hr⟩ := bindS hr
 refine W.cut (fun a w => ∃ (q63 : Int), q63 = q53 ∧ Rep a 29 [(5, .int .i64 q63)] ∧ St w s (pt b51 (.cells #[.int .i64 x0.Period, .int .i64 x0.Events, .slice a0_0 x0.Rules.length c0_0] 24 (0, 0)) :: R)) ?_ ?_
 ·refine W.block ?_
  refine W.loop (fun m a w => ∃ (rest56 : List PlanRule) (k54 : Nat), ∃ (q63 : Int), rest56.length = m ∧ x0.Rules.drop k54 = rest56 ∧ Plancost.loop1 x0 x1 rest56 q63 = some q53 ∧ Rep a 29 [(1, .slice a1 x1.length c1), (2, .pointer (some ⟨b51, 0, none⟩)), (5, .int .i64 q63), (9, .slice a0_0 x0.Rules.length c0_0), (10, .int .i64 ((x0.Rules).length : Int)), (11, .int .i64 ((k54 : Nat) : Int))] ∧ St w s (pt b51 (.cells #[.int .i64 x0.Period, .int .i64 x0.Events, .slice a0_0 x0.Rules.length c0_0] 24 (0, 0)) :: R)) (m := x0.Rules.length) ⟨x0.Rules, 0, 0, rfl, rfl, hq52, hE.pick _ ⟨rfl, rfl, rfl, rfl, rfl, rfl, trivial⟩, hS⟩ ?_
  clear hE hS a w hq52; rintro m60 a w ⟨rest56, k54, q63, rfl, hd57, hq52, hE, hS⟩
  refine W.gen fun K64 hK64 => ?_
  rcases rest56 with _ | ⟨x55, rest56⟩
  ·have hlt58 := drop_nil hd57
   refine W.seq (W.region ?_)
   refine WL.vS hS hE (runs_plain rfl) (Gives.p hE rfl) rfl ?_; clear hE a; intro a hE
   refine WL.nil ?_
   refine W.seq ?_
   refine W.condF hE rfl (decide_eq_false (by omega)) ?_
   subst hK64
   refine W.exit rfl ?_
   exact ⟨q63, Option.some.inj hq52, hE.pick _ ⟨rfl, trivial⟩, hS⟩
  ·obtain ⟨hlt58, hx59, hd57⟩ := drop_cons hd57
   rw [Plancost.loop1] at hq52
   refine W.seq (W.region ?_)
   refine WL.vS hS hE (runs_plain rfl) (Gives.p hE rfl) rfl ?_; clear hE a; intro a hE
   refine WL.nil ?_
   refine W.seq ?_
   refine W.condT hE rfl (decide_eq_true (by omega)) ?_
   refine W.skip ?_
   refine W.seq ?_
   refine W.block ?_
   refine W.seq (W.region ?_)
   obtain ⟨cs65, hl66, hR67, hat68⟩ := h0_0.at hx59
   subst hR67
   refine WL.vS hS hE (runs_plain rfl) (Gives.idx hE k54 rfl rfl sl22 rfl hlt58 (h0_0.aok hlt58)) rfl ?_; clear hE a; intro a hE
   refine WL.vS hS hE (runs_plain rfl) (Gives.loadA hE rfl (fun w h => hat68 w _ h) ty37) rfl ?_; clear hE a; intro a hE
   refine WL.alloc hE hS (runs_plain rfl) zr37 rfl ?_; clear hE hS a w; intro b69 a w hE hS
   refine WL.storeI hE hS 0 rfl (PlanRule.cells x55) (runs_plain rfl) rfl rfl rfl ty37 rfl rfl rfl rfl ?_; clear hE hS a w; intro a w hE hS
   refine WL.nil ?_
   refine W.regionQ (C := fun w => St w s (pt b69 (.cells (PlanRule.cells x55).toArray 37 (0, 0)) :: pt b51 (.cells #[.int .i64 x0.Period, .int .i64 x0.Events, .slice a0_0 x0.Rules.length c0_0] 24 (0, 0)) :: R)) mixed (by kernel_rfl) hS.drew ?_
   refine QL.v hE (runs_plain rfl) (Gives.p hE rfl) rfl ?_; clear hE a; intro a hE
   refine QL.v hE (runs_plain rfl) (Gives.fld hE rfl fl37_4) rfl ?_; clear hE a; intro a hE
   refine QL.v hE (runs_plain rfl) (Gives.loadB hE 0 rfl rfl rfl ty3) rfl ?_; clear hE a; intro a hE
   refine QL.v hE (runs_plain rfl) (Gives.loadBA hE 1 rfl rfl ty24) rfl ?_; clear hE a; intro a hE
   refine QL.v hE (runs_plain rfl) (Gives.loadBA hE 0 rfl rfl ty37) rfl ?_; clear hE a; intro a hE
   refine QL.v hE (runs_plain rfl) (Gives.p hE rfl) rfl ?_; clear hE a; intro a hE
   obtain ⟨q70, hq71, hq52⟩ := bindS hq52
   refine QL.fnq hE (fun w hS => Plangap_ok hS h0_0 h1 hq71) (runs_plain rfl) bd38 rfl rfl rfl ?_; clear hE a; intro a hE
   refine QL.v hE (runs_plain rfl) (Gives.fld hE rfl fl37_2) rfl ?_; clear hE a; intro a hE
   refine QL.v hE (runs_plain rfl) (Gives.loadB hE 0 rfl rfl rfl ty3) rfl ?_; clear hE a; intro a hE
   refine QL.v hE (runs_plain rfl) (Gives.p hE rfl) rfl ?_; clear hE a; intro a hE
   refine QL.v hE (runs_plain rfl) (Gives.p hE rfl) rfl ?_; clear hE a; intro a hE
   refine QL.v hE (runs_plain rfl) (Gives.p hE rfl) rfl ?_; clear hE a; intro a hE
   refine QL.v hE (runs_plain rfl) (Gives.p hE rfl) rfl ?_; clear hE a; intro a hE
   refine QL.nil ?_; clear hS w; intro w hS
   refine W.region ?_
   refine WL.vS hS hE (runs_plain rfl) (Gives.inc hE rfl (by have := h0_0.small; omega)) rfl ?_; clear hE a; intro a hE
   refine WL.vS hS hE (runs_plain rfl) (Gives.p hE rfl) rfl ?_; clear hE a; intro a hE
   refine WL.nil ?_
   replace hS := hS.tail
   subst hK64
   exact ⟨rest56.length, Nat.lt_succ_self _, rest56, k54 + 1, (w64 (q63 + (w64 (x55.Weight * (w64 (q70 - x55.Min)))))), rfl, hd57, hq52, hE.pick _ ⟨rfl, rfl, rfl, rfl, rfl, rfl, trivial⟩, hS⟩
 ·clear hE hS a w; rintro a w ⟨q63, rfl, hE, hS⟩
  refine W.seq (W.region ?_)
  refine WL.vS hS hE (runs_plain rfl) (Gives.p hE rfl) rfl ?_; clear hE a; intro a hE
  refine WL.vS hS hE (runs_plain rfl) (Gives.p hE rfl) rfl ?_; clear hE a; intro a hE
  refine WL.nil ?_
  refine W.ret ?_
  refine finG (fn := Try.f41) (rs := [.tmp 4]) (vs := [_]) hE rfl ⟨rfl, trivial⟩ ?_
  obtain rfl := Option.some.inj hr
  replace hS := hS.tail
  exact ⟨rfl, hS⟩
set_option maxHeartbeats 8000000 in
theorem PlanCost_ok  {w : World} {s : Sg} {R : List HP} {x0 : PlanPeriodic} {a0_0 : Option Addr} {c0_0 : Nat} {x1 : List Int} {a1 : Option Addr} {c1 : Nat} (hS : St w s (R)) (h0_0 : Sl 5 RPlanRule s a0_0 c0_0 x0.Rules) (h1 : Sl 1 (RI .i64) s a1 c1 x1) {r : Int × Int} (hr : PlanCost x0 x1 = some r) :
  Calls Try.prog 14 [.agg [.int .i64 x0.Period, .int .i64 x0.Events, .slice a0_0 x0.Rules.length c0_0].toArray, .slice a1 x1.length c1].toArray w (fun e w => e = .returned (.tuple #[.int .i64 r.1, .int .i64 r.2]) ∧ St w s (R)) := by
 refine enter Try.func14 rfl rfl rfl fun a hE => ?_
 rw [PlanCost] at hr
 refine W.seq (W.region ?_)
 refine WL.box hE hS (runs_plain rfl) rfl rfl rfl ?_; clear hE hS a w; intro b51 a w hE hS
 refine WL.vS hS hE (runs_plain rfl) (Gives.p hE rfl) rfl ?_; clear hE a; intro a hE
 refine WL.vS hS hE (runs_plain rfl) (Gives.p hE rfl) rfl ?_; clear hE a; intro a hE
 refine WL.nil ?_
 refine W.seq ?_
 refine W.seq (W.region ?_)
 refine WL.vS hS hE (runs_plain rfl) (Gives.loadBA hE 0 rfl rfl ty24) rfl ?_; clear hE a; intro a hE
 refine WL.vS hS hE (runs_plain rfl) (Gives.p hE rfl) rfl ?_; clear hE a; intro a hE
 refine WL.fnq hE (PlancheckTimes_ok hS h0_0 h1 rfl (r := PlancheckTimes x0 x1)) (runs_plain rfl) bd37 rfl rfl rfl ?_
 clear hE hS; rintro e w ⟨rfl, hS⟩; refine ⟨_, rfl, ?_⟩; clear a; intro a hE
 refine WL.vS hS hE (runs_plain rfl) (Gives.p hE rfl) rfl ?_; clear hE a; intro a hE
 refine WL.nil ?_
 refine W.seq (W.region ?_)
 refine WL.vS hS hE (runs_plain rfl) (Gives.p hE rfl) rfl ?_; clear hE a; intro a hE
 refine WL.vS hS hE (runs_plain rfl) (Gives.p hE rfl) rfl ?_; clear hE a; intro a hE
 refine WL.nil ?_
 refine W.cond hE rfl (fun hc52 => ?_) (fun hc52 => ?_)
 ·replace hr := iteT hc52 hr
  refine W.seq (W.region ?_)
  refine WL.vS hS hE (runs_plain rfl) (Gives.p hE rfl) rfl ?_; clear hE a; intro a hE
  refine WL.vS hS hE (runs_plain rfl) (Gives.p hE rfl) rfl ?_; clear hE a; intro a hE
  refine WL.vS hS hE (runs_plain rfl) (Gives.p hE rfl) rfl ?_; clear hE a; intro a hE
  refine WL.nil ?_
  refine W.ret ?_
  refine finG (fn := Try.f14) (rs := [.tmp 4, .tmp 5]) (vs := [_, _]) hE rfl ⟨rfl, rfl, trivial⟩ ?_
  obtain rfl := Option.some.inj hr
  replace hS := hS.tail
  exact ⟨rfl, hS⟩
 ·replace hr := iteF hc52 hr
  refine W.skip ?_
  refine W.seq (W.region ?_)
  refine WL.vS hS hE (runs_plain rfl) (Gives.loadBA hE 0 rfl rfl ty24) rfl ?_; clear hE a; intro a hE
  refine WL.vS hS hE (runs_plain rfl) (Gives.p hE rfl) rfl ?_; clear hE a; intro a hE
  obtain ⟨q53, hq54, hr⟩ := bindS hr
  have hc_ := Plancost_ok hS h0_0 h1 hq54
  refine WL.fnq hE (hc_) (runs_plain rfl) bd41 rfl rfl rfl ?_
  clear hE hS hc_; rintro e w ⟨rfl, hS⟩; refine ⟨_, rfl, ?_⟩; clear a; intro a hE
  refine WL.vS hS hE (runs_plain rfl) (Gives.p hE rfl) rfl ?_; clear hE a; intro a hE
  refine WL.vS hS hE (runs_plain rfl) (Gives.p hE rfl) rfl ?_; clear hE a; intro a hE
  refine WL.nil ?_
  refine W.ret ?_
  refine finG (fn := Try.f14) (rs := [.tmp 4, .tmp 5]) (vs := [_, _]) hE rfl ⟨rfl, rfl, trivial⟩ ?_
  obtain rfl := Option.some.inj hr
  replace hS := hS.tail
  exact ⟨rfl, hS⟩
set_option maxHeartbeats 8000000 in
theorem MendRoundslack_ok  {w : World} {s : Sg} {R : List HP} {x0 : MendRound} {a0_0 : Option Addr} {c0_0 : Nat} {a0_1 : Option Addr} {c0_1 : Nat} {x1 : MendLink} (hS : St w s (R)) (h0_0 : Sl 1 (RI .i64) s a0_0 c0_0 x0.Plan) (_h0_1 : Sl 4 RMendLink s a0_1 c0_1 x0.Links) {r : Int} (hr : MendRoundslack x0 x1 = some r) :
  Calls Try.prog 65 [.agg [.int .i64 x0.Period, .slice a0_0 x0.Plan.length c0_0, .slice a0_1 x0.Links.length c0_1].toArray, .agg (MendLink.cells x1).toArray].toArray w (fun e w => e = .returned (.int .i64 r) ∧ St w s (R)) := by
 refine enter Try.func65 rfl rfl rfl fun a hE => ?_
 rw [MendRoundslack] at hr
 refine W.seq (W.region ?_)
 refine WL.box hE hS (runs_plain rfl) rfl rfl rfl ?_; clear hE hS a w; intro b51 a w hE hS
 refine WL.box hE hS (runs_plain rfl) rfl rfl rfl ?_; clear hE hS a w; intro b52 a w hE hS
 refine WL.vS hS hE (runs_plain rfl) (Gives.p hE rfl) rfl ?_; clear hE a; intro a hE
 refine WL.nil ?_
 refine W.seq ?_
 refine W.regionQ (C := fun w => St w s (pt b52 (.cells (MendLink.cells x1).toArray 53 (0, 0)) :: pt b51 (.cells #[.int .i64 x0.Period, .slice a0_0 x0.Plan.length c0_0, .slice a0_1 x0.Links.length c0_1] 51 (0, 0)) :: R)) mixed (by kernel_rfl) hS.drew ?_
 refine QL.v hE (runs_plain rfl) (Gives.fld hE rfl fl51_1) rfl ?_; clear hE a; intro a hE
 refine QL.v hE (runs_plain rfl) (Gives.loadB hE 1 rfl rfl rfl ty29) rfl ?_; clear hE a; intro a hE
 refine QL.v hE (runs_plain rfl) (Gives.fld hE rfl fl53_1) rfl ?_; clear hE a; intro a hE
 refine QL.v hE (runs_plain rfl) (Gives.loadB hE 0 rfl rfl rfl ty3) rfl ?_; clear hE a; intro a hE
 obtain ⟨x53, hx54, hr⟩ := bindS hr
 obtain ⟨hi55, hlt56, hy57⟩ := gx_some hx54
 obtain ⟨cs58, hl59, hR60, hat61⟩ := h0_0.at hy57
 subst hR60
 refine QL.v hE (runs_plain rfl) (Gives.idx hE (x1.To).toNat rfl rfl sl29 hi55 hlt56 (h0_0.aok hlt56)) rfl ?_; clear hE a; intro a hE
 refine QL.v hE (runs_plain rfl) (Gives.load1 hE rfl (fun w h => hat61 w _ h) ty3) rfl ?_; clear hE a; intro a hE
 refine QL.v hE (runs_plain rfl) (Gives.fld hE rfl fl51_1) rfl ?_; clear hE a; intro a hE
 refine QL.v hE (runs_plain rfl) (Gives.loadB hE 1 rfl rfl rfl ty29) rfl ?_; clear hE a; intro a hE
 refine QL.v hE (runs_plain rfl) (Gives.fld hE rfl fl53_0) rfl ?_; clear hE a; intro a hE
 refine QL.v hE (runs_plain rfl) (Gives.loadB hE 0 rfl rfl rfl ty3) rfl ?_; clear hE a; intro a hE
 obtain ⟨x62, hx63, hr⟩ := bindS hr
 obtain ⟨hi64, hlt65, hy66⟩ := gx_some hx63
 obtain ⟨cs67, hl68, hR69, hat70⟩ := h0_0.at hy66
 subst hR69
 refine QL.v hE (runs_plain rfl) (Gives.idx hE (x1.From).toNat rfl rfl sl29 hi64 hlt65 (h0_0.aok hlt65)) rfl ?_; clear hE a; intro a hE
 refine QL.v hE (runs_plain rfl) (Gives.load1 hE rfl (fun w h => hat70 w _ h) ty3) rfl ?_; clear hE a; intro a hE
 refine QL.v hE (runs_plain rfl) (Gives.p hE rfl) rfl ?_; clear hE a; intro a hE
 refine QL.v hE (runs_plain rfl) (Gives.fld hE rfl fl53_3) rfl ?_; clear hE a; intro a hE
 refine QL.v hE (runs_plain rfl) (Gives.loadB hE 0 rfl rfl rfl ty3) rfl ?_; clear hE a; intro a hE
 refine QL.v hE (runs_plain rfl) (Gives.fld hE rfl fl51_0) rfl ?_; clear hE a; intro a hE
 refine QL.v hE (runs_plain rfl) (Gives.loadB hE 1 rfl rfl rfl ty3) rfl ?_; clear hE a; intro a hE
 refine QL.v hE (runs_plain rfl) (Gives.p hE rfl) rfl ?_; clear hE a; intro a hE
 refine QL.v hE (runs_plain rfl) (Gives.p hE rfl) rfl ?_; clear hE a; intro a hE
 refine QL.v hE (runs_plain rfl) (Gives.fld hE rfl fl53_2) rfl ?_; clear hE a; intro a hE
 refine QL.v hE (runs_plain rfl) (Gives.loadB hE 0 rfl rfl rfl ty3) rfl ?_; clear hE a; intro a hE
 refine QL.v hE (runs_plain rfl) (Gives.p hE rfl) rfl ?_; clear hE a; intro a hE
 refine QL.v hE (runs_plain rfl) (Gives.p hE rfl) rfl ?_; clear hE a; intro a hE
 refine QL.nil ?_; clear hS w; intro w hS
 refine W.ret ?_
 refine finG (fn := Try.f65) (rs := [.tmp 4]) (vs := [_]) hE rfl ⟨rfl, trivial⟩ ?_
 obtain rfl := Option.some.inj hr
 replace hS := hS.tail
 replace hS := hS.tail
 exact ⟨rfl, hS⟩
end Go.Proofs.Ytffleanbfkjfiaa
