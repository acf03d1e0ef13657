/- The walks of the functions that PlanCores reaches: each call comes to what its mirror says. The conditions are those of each contract. -/
import Derived.Test.YtffleanbfkjfiaaProg
import Derived.Test.YtffleanbfkjfiaaPlanCoresM
import Derived.Test.YtffleanbfkjfiaaFpMore
import Derived.Test.YtffleanbfkjfiaaPlanCoresW1
namespace Go.Proofs.Ytffleanbfkjfiaa
open Go Go.Fp
set_option maxHeartbeats 8000000 in
theorem PlanCore_ok {fu : Nat}  {w : World} {s : Sg} {R : List HP} {x0 : PlanPeriodic} {a0_0 : Option Addr} {c0_0 : Nat} (hS : St w s (R)) (h0_0 : Sl 5 RPlanRule s a0_0 c0_0 x0.Rules) {r : (List Int) × Int} (hr : PlanCore fu x0 = some r) :
    Calls Try.prog 22 [.agg [.int .i64 x0.Period, .int .i64 x0.Events, .slice a0_0 x0.Rules.length c0_0].toArray].toArray w (fun e w => ∃ (a0 : Option Addr) (c0 n0 : Nat) (cs0 : List Value) (t : Sg), e = .returned (.tuple #[.slice a0 n0 c0, .int .i64 r.2]) ∧ s.Le t ∧ Ev 1 (RI .i64) t cs0 r.1 ∧ r.1.length = n0 ∧ St w t (vecC 3 1 a0 c0 n0 cs0 :: R)) := by
  refine enter Try.func22 rfl rfl rfl fun a hE => ?_
  rw [PlanCore] at hr
  refine W.seq ?_
  refine W.region ?_
  refine WL.box hE hS (runs_plain rfl) rfl rfl rfl ?_; clear hE hS a w; intro b51 a w hE hS
  refine WL.vS hS hE (runs_plain rfl) (Gives.p hE rfl) rfl ?_; clear hE a; intro a hE
  refine WL.vS hS hE (runs_plain rfl) (Gives.p hE rfl) rfl ?_; clear hE a; intro a hE
  refine WL.nil ?_
  refine W.seq ?_
  refine W.seq ?_
  refine W.region ?_
  refine WL.vS hS hE (runs_plain rfl) (Gives.loadBA hE 0 rfl rfl ty24) rfl ?_; clear hE a; intro a hE
  refine WL.fnq hE (PlanCheckPeriodic_ok hS h0_0 rfl (r := PlanCheckPeriodic x0)) (runs_plain rfl) bd10 rfl rfl rfl ?_
  clear hE hS; rintro e w ⟨rfl, hS⟩; refine ⟨_, rfl, ?_⟩; clear a; intro a hE
  refine WL.vS hS hE (runs_plain rfl) (Gives.p hE rfl) rfl ?_; clear hE a; intro a hE
  refine WL.nil ?_
  refine W.seq ?_
  refine W.region ?_
  refine WL.vS hS hE (runs_plain rfl) (Gives.p hE rfl) rfl ?_; clear hE a; intro a hE
  refine WL.vS hS hE (runs_plain rfl) (Gives.p hE rfl) rfl ?_; clear hE a; intro a hE
  refine WL.nil ?_
  refine W.cond hE rfl (fun hc52 => ?_) (fun hc52 => ?_)
  · replace hr := iteT hc52 hr
    refine W.seq ?_
    refine W.region ?_
    refine WL.vS hS hE (runs_plain rfl) (Gives.p hE rfl) rfl ?_; clear hE a; intro a hE
    refine WL.vS hS hE (runs_plain rfl) (Gives.p hE rfl) rfl ?_; clear hE a; intro a hE
    refine WL.vS hS hE (runs_plain rfl) (Gives.p hE rfl) rfl ?_; clear hE a; intro a hE
    refine WL.nil ?_
    refine W.ret ?_
    replace hS := hS.vecNil 3 1
    refine finG (fn := Try.f22) (rs := [.tmp 2, .tmp 3]) (vs := [_, _]) hE rfl ⟨rfl, rfl, trivial⟩ ?_
    obtain rfl := Option.some.inj hr
    replace hS := hS.dropAt 1
    exact ⟨none, 0, 0, [], s, rfl, (Sg.Le.refl _), (Ev.nil), (rfl), hS⟩
  · replace hr := iteF hc52 hr
    refine W.skip ?_
    refine W.seq ?_
    refine W.seq ?_
    refine W.region ?_
    refine WL.vS hS hE (runs_plain rfl) (Gives.loadBA hE 0 rfl rfl ty24) rfl ?_; clear hE a; intro a hE
    obtain ⟨q54, hq55, hr⟩ := bindS hr
    have hc_ := Plansolve_ok hS h0_0 hq55
    refine WL.fnq hE (hc_) (runs_plain rfl) bd43 rfl rfl rfl ?_
    clear hE hS hc_; rintro e w ⟨a56, c57, s60, rfl, hle61, h58, hz59, hS⟩; refine ⟨_, rfl, ?_⟩; clear a; intro a hE
    replace h0_0 := Sl.mono RPlanRule.mono hle61 h0_0
    refine WL.vS hS hE (runs_plain rfl) (Gives.notNilZ hE (isNone_eq h58 hz59) rfl rfl isl29) rfl ?_; clear hE a; intro a hE
    refine WL.nil ?_
    refine W.cond hE rfl (fun hc62 => ?_) (fun hc62 => ?_)
    · replace hr := iteT hc62 hr
      refine W.seq ?_
      refine W.region ?_
      refine WL.vS hS hE (runs_plain rfl) (Gives.p hE rfl) rfl ?_; clear hE a; intro a hE
      refine WL.vS hS hE (runs_plain rfl) (Gives.p hE rfl) rfl ?_; clear hE a; intro a hE
      refine WL.nil ?_
      refine W.ret ?_
      replace hS := hS.vecNil 3 1
      refine finG (fn := Try.f22) (rs := [.tmp 2, .tmp 3]) (vs := [_, _]) hE rfl ⟨rfl, rfl, trivial⟩ ?_
      obtain rfl := Option.some.inj hr
      replace hS := hS.dropAt 1
      exact ⟨none, 0, 0, [], s60, rfl, hle61, (Ev.nil), (rfl), hS⟩
    · replace hr := iteF hc62 hr
      refine W.skip ?_
      refine W.seq ?_
      refine W.region ?_
      replace hS := hS.vecNil 3 1
      refine WL.vS hS hE (runs_plain rfl) (Gives.p hE rfl) rfl ?_; clear hE a; intro a hE
      refine WL.nil ?_
      refine W.seq ?_
      refine W.region ?_
      refine WL.vS hS hE (runs_plain rfl) (Gives.fld hE rfl fl24_2) rfl ?_; clear hE a; intro a hE
      refine WL.vS hS hE (runs_plain rfl) (Gives.loadB hE 1 rfl rfl rfl ty22) rfl ?_; clear hE a; intro a hE
      refine WL.vS hS hE (runs_plain rfl) (Gives.p hE rfl) rfl ?_; clear hE a; intro a hE
      refine WL.nil ?_
      refine W.seq ?_
      refine W.region ?_
      replace hS := hS.vecNil 37 5
      refine WL.vS hS hE (runs_plain rfl) (Gives.p hE rfl) rfl ?_; clear hE a; intro a hE
      refine WL.nil ?_
      refine W.seq ?_
      refine W.seq ?_
      refine W.region ?_
      refine WL.vS hS hE (runs_plain rfl) (Gives.fld hE rfl fl24_2) rfl ?_; clear hE a; intro a hE
      refine WL.vS hS hE (runs_plain rfl) (Gives.loadB hE 2 rfl rfl rfl ty22) rfl ?_; clear hE a; intro a hE
      refine WL.vS hS hE (runs_plain rfl) (Gives.len hE rfl sl22) rfl ?_; clear hE a; intro a hE
      refine WL.vS hS hE (runs_plain rfl) (Gives.p hE rfl) rfl ?_; clear hE a; intro a hE
      refine WL.nil ?_
      obtain ⟨q67, hq66, hr⟩ := bindS hr
      refine W.cut (fun a w => ∃ (q77 : List Int), ∃ (q84 : List PlanRule), ∃ (q88 : List PlanRule), ∃ (a78 : Option Addr), ∃ (c79 : Nat), ∃ (n81 : Nat), ∃ (cs82 : List Value), ∃ (a85 : Option Addr), ∃ (c86 : Nat), ∃ (a89 : Option Addr), ∃ (c90 : Nat), ∃ (n92 : Nat), ∃ (cs93 : List Value), ∃ (s75 : Sg), s60.Le s75 ∧ (q77, q84, q88) = q67 ∧ Ev 1 (RI .i64) s75 cs82 q77 ∧ q77.length = n81 ∧ Sl 5 RPlanRule s75 a85 c86 q84 ∧ Ev 5 RPlanRule s75 cs93 q88 ∧ q88.length = n92 ∧ Rep a 53 [(5, .slice a78 n81 c79)] ∧ St w s75 (vecC 37 5 a89 c90 n92 cs93 :: vecC 3 1 a78 c79 n81 cs82 :: pt b51 (.cells #[.int .i64 x0.Period, .int .i64 x0.Events, .slice a0_0 x0.Rules.length c0_0] 24 (0, 0)) :: R)) ?_ ?_
      · refine W.block ?_
        refine W.loop (fun m a w => ∃ (rest70 : List PlanRule) (k68 : Nat), ∃ (q77 : List Int), ∃ (q84 : List PlanRule), ∃ (q88 : List PlanRule), ∃ (a78 : Option Addr), ∃ (c79 : Nat), ∃ (n81 : Nat), ∃ (cs82 : List Value), ∃ (a85 : Option Addr), ∃ (c86 : Nat), ∃ (a89 : Option Addr), ∃ (c90 : Nat), ∃ (n92 : Nat), ∃ (cs93 : List Value), ∃ (s75 : Sg), rest70.length = m ∧ x0.Rules.drop k68 = rest70 ∧ s60.Le s75 ∧ PlanCore.loop1 x0 fu rest70 k68 q77 q84 q88 = some q67 ∧ Ev 1 (RI .i64) s75 cs82 q77 ∧ q77.length = n81 ∧ Sl 5 RPlanRule s75 a85 c86 q84 ∧ Ev 5 RPlanRule s75 cs93 q88 ∧ q88.length = n92 ∧ Rep a 53 [(1, .pointer (some ⟨b51, 0, none⟩)), (5, .slice a78 n81 c79), (6, .slice a85 q84.length c86), (7, .slice a89 n92 c90), (22, .slice a0_0 x0.Rules.length c0_0), (23, .int .i64 ((x0.Rules).length : Int)), (24, .int .i64 ((k68 : Nat) : Int))] ∧ St w s75 (vecC 37 5 a89 c90 n92 cs93 :: vecC 3 1 a78 c79 n81 cs82 :: pt b51 (.cells #[.int .i64 x0.Period, .int .i64 x0.Events, .slice a0_0 x0.Rules.length c0_0] 24 (0, 0)) :: R)) (m := x0.Rules.length) ⟨x0.Rules, 0, [], x0.Rules, [], none, 0, 0, [], a0_0, c0_0, none, 0, 0, [], s60, rfl, rfl, (Sg.Le.refl _), hq66, (Ev.nil), (rfl), h0_0, (Ev.nil), (rfl), hE.pick _ ⟨rfl, rfl, rfl, rfl, rfl, rfl, rfl, trivial⟩, hS⟩ ?_
        clear hE hS a w hq66; rintro m74 a w ⟨rest70, k68, q77, q84, q88, a78, c79, n81, cs82, a85, c86, a89, c90, n92, cs93, s75, rfl, hd71, hle76, hq66, h80, rfl, h87, h91, rfl, hE, hS⟩
        refine W.gen fun K95 hK95 => ?_
        replace h0_0 := Sl.mono RPlanRule.mono hle76 h0_0
        replace h58 := Sl.mono RI.mono hle76 h58
        rcases rest70 with _ | ⟨x69, rest70⟩
        · have hlt72 := drop_nil hd71
          refine W.seq ?_
          refine W.region ?_
          refine WL.vS hS hE (runs_plain rfl) (Gives.p hE rfl) rfl ?_; clear hE a; intro a hE
          refine WL.nil ?_
          refine W.seq ?_
          refine W.condF hE rfl (decide_eq_false (by omega)) ?_
          subst hK95
          refine W.exit rfl ?_
          exact ⟨q77, q84, q88, a78, c79, q77.length, cs82, a85, c86, a89, c90, q88.length, cs93, s75, hle76, Option.some.inj hq66, h80, rfl, h87, h91, rfl, hE.pick _ ⟨rfl, trivial⟩, hS⟩
        · obtain ⟨hlt72, hx73, hd71⟩ := drop_cons hd71
          rw [PlanCore.loop1] at hq66
          refine W.seq ?_
          refine W.region ?_
          refine WL.vS hS hE (runs_plain rfl) (Gives.p hE rfl) rfl ?_; clear hE a; intro a hE
          refine WL.nil ?_
          refine W.seq ?_
          refine W.condT hE rfl (decide_eq_true (by omega)) ?_
          refine W.skip ?_
          refine W.seq ?_
          refine W.block ?_
          refine W.seq ?_
          refine W.region ?_
          refine WL.vS hS hE (runs_plain rfl) (Gives.p hE rfl) rfl ?_; clear hE a; intro a hE
          obtain ⟨cs96, hl97, hR98, hat99⟩ := h0_0.at hx73
          subst hR98
          refine WL.vS hS hE (runs_plain rfl) (Gives.idx hE k68 rfl rfl sl22 rfl hlt72 (h0_0.aok hlt72)) rfl ?_; clear hE a; intro a hE
          refine WL.vS hS hE (runs_plain rfl) (Gives.loadA hE rfl (fun w h => hat99 w _ h) ty37) rfl ?_; clear hE a; intro a hE
          refine WL.alloc hE hS (runs_plain rfl) zr37 rfl ?_; clear hE hS a w; intro b100 a w hE hS
          refine WL.vS hS hE (runs_plain rfl) (Gives.p hE rfl) rfl ?_; clear hE a; intro a hE
          refine WL.storeI hE hS 0 rfl (PlanRule.cells x69) (runs_plain rfl) rfl rfl rfl ty37 rfl rfl rfl rfl ?_; clear hE hS a w; intro a w hE hS
          refine WL.nil ?_
          refine W.seq ?_
          refine W.region ?_
          refine WL.vS hS hE (runs_plain rfl) (Gives.p hE rfl) rfl ?_; clear hE a; intro a hE
          obtain ⟨x101, hx102, hq66⟩ := bindS hq66
          obtain ⟨a103, c104, heq105, h106⟩ := h87.cut hx102
          obtain ⟨h107, h108, h109, _⟩ := cutl_some hx102
          refine WL.vS hS hE (runs_plain rfl) (Gives.slL hE sl22 rfl rfl h107 (by omega) (by simpa using heq105)) rfl ?_; clear hE a; intro a hE
          refine WL.vS hS hE (runs_plain rfl) (Gives.p hE rfl) rfl ?_; clear hE a; intro a hE
          refine WL.nil ?_
          refine W.seq ?_
          refine W.gen fun K110 hK110 => ?_
          refine W.regionE (sel (fun w => St w s75 (pt b100 (.cells (PlanRule.cells x69).toArray 37 (0, 0)) :: vecC 37 5 a89 c90 q88.length cs93 :: vecC 3 1 a78 c79 q77.length cs82 :: pt b51 (.cells #[.int .i64 x0.Period, .int .i64 x0.Events, .slice a0_0 x0.Rules.length c0_0] 24 (0, 0)) :: R)) (fun w => St w s75 (pt b100 (.cells (PlanRule.cells x69).toArray 37 (0, 0)) :: vecC 37 5 a89 c90 q88.length cs93 :: vecC 3 1 a78 c79 q77.length cs82 :: pt b51 (.cells #[.int .i64 x0.Period, .int .i64 x0.Events, .slice a0_0 x0.Rules.length c0_0] 24 (0, 0)) :: R))) (fun b i => cond b ([0, 1, 2, 3, 4, 5, 6, 7, 8, 9, 10].contains i) ([0, 1, 2, 3, 4, 5, 6, 7, 8, 9, 10].contains i)) mixed ?_
          replace hS := hS.drew
          refine Rg.takeP (i := 0) hE rfl (by kernel_rfl) (runs_plain rfl) (Gives.fld hE rfl fl24_0) rfl (tw_sel (fun _ => hS) (fun _ => hS)) ?_; clear hE a; intro a hE
          have hT := tw_sel (A := fun w => St w s75 (pt b100 (.cells (PlanRule.cells x69).toArray 37 (0, 0)) :: vecC 37 5 a89 c90 q88.length cs93 :: vecC 3 1 a78 c79 q77.length cs82 :: pt b51 (.cells #[.int .i64 x0.Period, .int .i64 x0.Events, .slice a0_0 x0.Rules.length c0_0] 24 (0, 0)) :: R)) (B := fun w => St w s75 (pt b100 (.cells (PlanRule.cells x69).toArray 37 (0, 0)) :: vecC 37 5 a89 c90 q88.length cs93 :: vecC 3 1 a78 c79 q77.length cs82 :: pt b51 (.cells #[.int .i64 x0.Period, .int .i64 x0.Events, .slice a0_0 x0.Rules.length c0_0] 24 (0, 0)) :: R)) (w := _) (x := true) (y := true) (fun _ => hS) (fun _ => hS)
          have hF := hS; replace hS := hS
          refine Rg.take (i := 1) true rfl hE rfl (by kernel_rfl) (runs_plain rfl) (Gives.loadB hE 3 rfl rfl rfl ty3) rfl hT ?_; clear hE a; intro a hE
          replace hS := hF; clear hF hT
          refine Rg.takeP (i := 2) hE rfl (by kernel_rfl) (runs_plain rfl) (Gives.fld hE rfl fl24_1) rfl (tw_sel (fun _ => hS) (fun _ => hS)) ?_; clear hE a; intro a hE
          have hT := tw_sel (A := fun w => St w s75 (pt b100 (.cells (PlanRule.cells x69).toArray 37 (0, 0)) :: vecC 37 5 a89 c90 q88.length cs93 :: vecC 3 1 a78 c79 q77.length cs82 :: pt b51 (.cells #[.int .i64 x0.Period, .int .i64 x0.Events, .slice a0_0 x0.Rules.length c0_0] 24 (0, 0)) :: R)) (B := fun w => St w s75 (pt b100 (.cells (PlanRule.cells x69).toArray 37 (0, 0)) :: vecC 37 5 a89 c90 q88.length cs93 :: vecC 3 1 a78 c79 q77.length cs82 :: pt b51 (.cells #[.int .i64 x0.Period, .int .i64 x0.Events, .slice a0_0 x0.Rules.length c0_0] 24 (0, 0)) :: R)) (w := _) (x := true) (y := true) (fun _ => hS) (fun _ => hS)
          have hF := hS; replace hS := hS
          refine Rg.take (i := 3) true rfl hE rfl (by kernel_rfl) (runs_plain rfl) (Gives.loadB hE 3 rfl rfl rfl ty3) rfl hT ?_; clear hE a; intro a hE
          replace hS := hF; clear hF hT
          refine Rg.takeP (i := 4) hE rfl (by kernel_rfl) (runs_plain rfl) (Gives.p hE rfl) rfl (tw_sel (fun _ => hS) (fun _ => hS)) ?_; clear hE a; intro a hE
          refine Rg.takeP (i := 5) hE rfl (by kernel_rfl) (runs_plain rfl) (Gives.p hE rfl) rfl (tw_sel (fun _ => hS) (fun _ => hS)) ?_; clear hE a; intro a hE
          obtain ⟨q112, hq113, hq66⟩ := bindS hq66
          suffices key : ∀ cs117 b127 a114 c115 (a : Act) (w : World), Sl 5 RPlanRule s75 a103 c104 x101 → Sl 5 RPlanRule s75 a0_0 c0_0 x0.Rules → Ev 5 RPlanRule s75 cs93 q88 → Ev 5 RPlanRule s75 cs117 q112 → Ev 1 (RI .i64) s75 cs82 q77 → Rep a 53 [(1, .pointer (some ⟨b51, 0, none⟩)), (5, .slice a78 q77.length c79), (6, .slice a103 x101.length c104), (7, .slice a89 q88.length c90), (8, .int .i64 ((k68 : Nat) : Int)), (9, .pointer (some ⟨b100, 0, none⟩)), (10, .pointer (some ⟨b127, 0, none⟩)), (22, .slice a0_0 x0.Rules.length c0_0), (23, .int .i64 ((x0.Rules).length : Int)), (24, .int .i64 ((k68 : Nat) : Int))] → St w s75 (pt b127 (.cells #[.int .i64 x0.Period, .int .i64 x0.Events, .slice a114 q112.length c115] 24 (0, 0)) :: vecC 37 5 a89 c90 q88.length cs93 :: vecC 37 5 a114 c115 q112.length cs117 :: pt b100 (.cells (PlanRule.cells x69).toArray 37 (0, 0)) :: vecC 3 1 a78 c79 q77.length cs82 :: pt b51 (.cells #[.int .i64 x0.Period, .int .i64 x0.Events, .slice a0_0 x0.Rules.length c0_0] 24 (0, 0)) :: R) → K110.nor a w by
            refine Rg.many 6 [9] (by kernel_rfl) ⟨?_, ?_, trivial⟩
            · refine Br.mk (i := 6) true true rfl (by kernel_rfl) (by kernel_rfl) ?_
              refine WL.lit hE hS (e := 22) (es := 1) (vs := [(0, .slice a89 q88.length c90), (1, .slice a103 x101.length c104)]) (cs := [.slice a89 q88.length c90, .slice a103 x101.length c104]) (runs_plain rfl) rfl (by kernel_rfl) rfl ?_; clear hE hS a w; intro b111 a w hE hS
              refine WL.nil ?_
              refine ⟨⟨fun _ => (hS.tail), fun _ => (hS.tail)⟩, ?_⟩
              refine Rg.many 7 [9] (by kernel_rfl) ⟨?_, ?_, trivial⟩
              · refine Br.mk (i := 7) true true rfl (by kernel_rfl) (by kernel_rfl) ?_
                have hF := hS.lendV RPlanRule.mono 2 rfl h91 rfl; clear hS; obtain ⟨t120, hle121, hS, hs122, bk123⟩ := hF
                replace hS := hS.ptVec (es := 1) (m := 2) rfl (by decide)
                have hF := hS.fixD (Rr := RL 5 RPlanRule) (l := [q88, x101]) (RL.mono RPlanRule.mono) 0 rfl (Ev.cons (c1 := [.slice a89 q88.length c90]) ⟨_, _, rfl, hs122⟩ rfl (Ev.cons (c1 := [.slice a103 x101.length c104]) ⟨_, _, rfl, (Sl.mono RPlanRule.mono hle121 h106)⟩ rfl (Ev.nil))) (rfl); clear hS; obtain ⟨t124, hle125, hS, hs126⟩ := hF
                have hc_ := SlicesConcatLplanRule_ok hS hs126 hq113
                refine WL.fnq hE (hc_) (runs_plain rfl) bd45 rfl rfl rfl ?_
                clear hE hS hc_; rintro e w ⟨a114, c115, n116, cs117, rfl, h118, rfl, hS⟩; refine ⟨_, rfl, ?_⟩; clear a; intro a hE
                replace hS := hS.down hle125
                replace hS := bk123 _ _ hS
                replace h118 := Ev.flat (s2 := s75) (fun _ _ _ _ h => h) h118
                refine WL.nil ?_
                refine ⟨⟨fun _ => (St.front (St.front (St.front (St.front (hS.dropAt 1) 3 rfl) 3 rfl) 2 rfl) 3 rfl), fun _ => (St.front (St.front (St.front (St.front (hS.dropAt 1) 3 rfl) 3 rfl) 2 rfl) 3 rfl)⟩, ?_⟩
                refine Rg.takeP (i := 8) hE rfl (by kernel_rfl) (runs_plain rfl) (Gives.build hE (vs := [(0, .int .i64 x0.Period), (1, .int .i64 x0.Events), (2, .slice a114 q112.length c115)]) [.int .i64 x0.Period, .int .i64 x0.Events, .slice a114 q112.length c115] rfl (by kernel_rfl)) rfl (tw_sel (fun _ => (St.front (St.front (St.front (St.front (hS.dropAt 1) 3 rfl) 3 rfl) 2 rfl) 3 rfl)) (fun _ => (St.front (St.front (St.front (St.front (hS.dropAt 1) 3 rfl) 3 rfl) 2 rfl) 3 rfl))) ?_; clear hE a; intro a hE
                refine Rg.one (i := 9) true true rfl (by kernel_rfl) (by kernel_rfl) (by kernel_rfl) ?_
                refine WL.alloc hE hS (runs_plain rfl) zr24 rfl ?_; clear hE hS a w; intro b127 a w hE hS
                refine WL.nil ?_
                refine ⟨⟨fun _ => (St.front (St.front (St.front (St.front ((hS.tail).dropAt 1) 3 rfl) 3 rfl) 2 rfl) 3 rfl), fun _ => (St.front (St.front (St.front (St.front ((hS.tail).dropAt 1) 3 rfl) 3 rfl) 2 rfl) 3 rfl)⟩, ?_⟩
                refine Rg.one (i := 10) true true rfl (by kernel_rfl) (by kernel_rfl) (by kernel_rfl) ?_
                refine WL.storeI hE hS 0 rfl [.int .i64 x0.Period, .int .i64 x0.Events, .slice a114 q112.length c115] (runs_plain rfl) rfl rfl rfl ty24 rfl rfl rfl rfl ?_; clear hE hS a w; intro a w hE hS
                refine WL.nil ?_
                refine ⟨⟨fun _ => (St.front (St.front (St.front (St.front ((hS.tail).dropAt 1) 3 rfl) 3 rfl) 2 rfl) 3 rfl), fun _ => (St.front (St.front (St.front (St.front ((hS.tail).dropAt 1) 3 rfl) 3 rfl) 2 rfl) 3 rfl)⟩, ?_⟩
                refine Rg.done (by kernel_rfl) ?_
                exact key _ _ _ _ _ _ h106 h0_0 h91 h118 h80 (hE.pick _ ⟨rfl, rfl, rfl, rfl, rfl, rfl, rfl, rfl, rfl, rfl, trivial⟩) hS
              · refine Br.mk (i := 9) true true rfl (by kernel_rfl) (by kernel_rfl) ?_
                refine WL.alloc hE hS (runs_plain rfl) zr24 rfl ?_; clear hE hS a w; intro b127 a w hE hS
                refine WL.nil ?_
                refine ⟨⟨fun _ => ((hS.tail).tail), fun _ => ((hS.tail).tail)⟩, ?_⟩
                refine Rg.one (i := 7) true true rfl (by kernel_rfl) (by kernel_rfl) (by kernel_rfl) ?_
                have hF := hS.lendV RPlanRule.mono 3 rfl h91 rfl; clear hS; obtain ⟨t120, hle121, hS, hs122, bk123⟩ := hF
                replace hS := hS.front 1 rfl
                replace hS := hS.ptVec (es := 1) (m := 2) rfl (by decide)
                have hF := hS.fixD (Rr := RL 5 RPlanRule) (l := [q88, x101]) (RL.mono RPlanRule.mono) 0 rfl (Ev.cons (c1 := [.slice a89 q88.length c90]) ⟨_, _, rfl, hs122⟩ rfl (Ev.cons (c1 := [.slice a103 x101.length c104]) ⟨_, _, rfl, (Sl.mono RPlanRule.mono hle121 h106)⟩ rfl (Ev.nil))) (rfl); clear hS; obtain ⟨t124, hle125, hS, hs126⟩ := hF
                have hc_ := SlicesConcatLplanRule_ok hS hs126 hq113
                refine WL.fnq hE (hc_) (runs_plain rfl) bd45 rfl rfl rfl ?_
                clear hE hS hc_; rintro e w ⟨a114, c115, n116, cs117, rfl, h118, rfl, hS⟩; refine ⟨_, rfl, ?_⟩; clear a; intro a hE
                replace hS := hS.down hle125
                replace hS := bk123 _ _ hS
                replace h118 := Ev.flat (s2 := s75) (fun _ _ _ _ h => h) h118
                refine WL.nil ?_
                refine ⟨⟨fun _ => (St.front (St.front (St.front (St.front ((hS.dropAt 1).dropAt 1) 3 rfl) 3 rfl) 2 rfl) 3 rfl), fun _ => (St.front (St.front (St.front (St.front ((hS.dropAt 1).dropAt 1) 3 rfl) 3 rfl) 2 rfl) 3 rfl)⟩, ?_⟩
                refine Rg.takeP (i := 8) hE rfl (by kernel_rfl) (runs_plain rfl) (Gives.build hE (vs := [(0, .int .i64 x0.Period), (1, .int .i64 x0.Events), (2, .slice a114 q112.length c115)]) [.int .i64 x0.Period, .int .i64 x0.Events, .slice a114 q112.length c115] rfl (by kernel_rfl)) rfl (tw_sel (fun _ => (St.front (St.front (St.front (St.front ((hS.dropAt 1).dropAt 1) 3 rfl) 3 rfl) 2 rfl) 3 rfl)) (fun _ => (St.front (St.front (St.front (St.front ((hS.dropAt 1).dropAt 1) 3 rfl) 3 rfl) 2 rfl) 3 rfl))) ?_; clear hE a; intro a hE
                refine Rg.one (i := 10) true true rfl (by kernel_rfl) (by kernel_rfl) (by kernel_rfl) ?_
                refine WL.storeI hE hS 2 rfl [.int .i64 x0.Period, .int .i64 x0.Events, .slice a114 q112.length c115] (runs_plain rfl) rfl rfl rfl ty24 rfl rfl rfl rfl ?_; clear hE hS a w; intro a w hE hS
                refine WL.nil ?_
                refine ⟨⟨fun _ => (St.front (St.front (St.front (St.front ((hS.dropAt 1).dropAt 1) 3 rfl) 3 rfl) 2 rfl) 3 rfl), fun _ => (St.front (St.front (St.front (St.front ((hS.dropAt 1).dropAt 1) 3 rfl) 3 rfl) 2 rfl) 3 rfl)⟩, ?_⟩
                refine Rg.done (by kernel_rfl) ?_
                replace hS := hS.front 5 rfl
                replace hS := hS.front 5 rfl
                replace hS := hS.front 5 rfl
                replace hS := hS.front 4 rfl
                replace hS := hS.front 4 rfl
                replace hS := hS.front 5 rfl
                exact key _ _ _ _ _ _ h106 h0_0 h91 h118 h80 (hE.pick _ ⟨rfl, rfl, rfl, rfl, rfl, rfl, rfl, rfl, rfl, rfl, trivial⟩) hS
            · refine Br.mk (i := 9) true true rfl (by kernel_rfl) (by kernel_rfl) ?_
              refine WL.alloc hE hS (runs_plain rfl) zr24 rfl ?_; clear hE hS a w; intro b127 a w hE hS
              refine WL.nil ?_
              refine ⟨⟨fun _ => (hS.tail), fun _ => (hS.tail)⟩, ?_⟩
              refine Rg.one (i := 6) true true rfl (by kernel_rfl) (by kernel_rfl) (by kernel_rfl) ?_
              refine WL.lit hE hS (e := 22) (es := 1) (vs := [(0, .slice a89 q88.length c90), (1, .slice a103 x101.length c104)]) (cs := [.slice a89 q88.length c90, .slice a103 x101.length c104]) (runs_plain rfl) rfl (by kernel_rfl) rfl ?_; clear hE hS a w; intro b111 a w hE hS
              refine WL.nil ?_
              refine ⟨⟨fun _ => ((hS.tail).tail), fun _ => ((hS.tail).tail)⟩, ?_⟩
              refine Rg.one (i := 7) true true rfl (by kernel_rfl) (by kernel_rfl) (by kernel_rfl) ?_
              have hF := hS.lendV RPlanRule.mono 3 rfl h91 rfl; clear hS; obtain ⟨t120, hle121, hS, hs122, bk123⟩ := hF
              replace hS := hS.ptVec (es := 1) (m := 2) rfl (by decide)
              have hF := hS.fixD (Rr := RL 5 RPlanRule) (l := [q88, x101]) (RL.mono RPlanRule.mono) 0 rfl (Ev.cons (c1 := [.slice a89 q88.length c90]) ⟨_, _, rfl, hs122⟩ rfl (Ev.cons (c1 := [.slice a103 x101.length c104]) ⟨_, _, rfl, (Sl.mono RPlanRule.mono hle121 h106)⟩ rfl (Ev.nil))) (rfl); clear hS; obtain ⟨t124, hle125, hS, hs126⟩ := hF
              have hc_ := SlicesConcatLplanRule_ok hS hs126 hq113
              refine WL.fnq hE (hc_) (runs_plain rfl) bd45 rfl rfl rfl ?_
              clear hE hS hc_; rintro e w ⟨a114, c115, n116, cs117, rfl, h118, rfl, hS⟩; refine ⟨_, rfl, ?_⟩; clear a; intro a hE
              replace hS := hS.down hle125
              replace hS := bk123 _ _ hS
              replace h118 := Ev.flat (s2 := s75) (fun _ _ _ _ h => h) h118
              refine WL.nil ?_
              refine ⟨⟨fun _ => (St.front (St.front (St.front (St.front ((hS.dropAt 1).dropAt 1) 3 rfl) 3 rfl) 2 rfl) 3 rfl), fun _ => (St.front (St.front (St.front (St.front ((hS.dropAt 1).dropAt 1) 3 rfl) 3 rfl) 2 rfl) 3 rfl)⟩, ?_⟩
              refine Rg.takeP (i := 8) hE rfl (by kernel_rfl) (runs_plain rfl) (Gives.build hE (vs := [(0, .int .i64 x0.Period), (1, .int .i64 x0.Events), (2, .slice a114 q112.length c115)]) [.int .i64 x0.Period, .int .i64 x0.Events, .slice a114 q112.length c115] rfl (by kernel_rfl)) rfl (tw_sel (fun _ => (St.front (St.front (St.front (St.front ((hS.dropAt 1).dropAt 1) 3 rfl) 3 rfl) 2 rfl) 3 rfl)) (fun _ => (St.front (St.front (St.front (St.front ((hS.dropAt 1).dropAt 1) 3 rfl) 3 rfl) 2 rfl) 3 rfl))) ?_; clear hE a; intro a hE
              refine Rg.one (i := 10) true true rfl (by kernel_rfl) (by kernel_rfl) (by kernel_rfl) ?_
              refine WL.storeI hE hS 2 rfl [.int .i64 x0.Period, .int .i64 x0.Events, .slice a114 q112.length c115] (runs_plain rfl) rfl rfl rfl ty24 rfl rfl rfl rfl ?_; clear hE hS a w; intro a w hE hS
              refine WL.nil ?_
              refine ⟨⟨fun _ => (St.front (St.front (St.front (St.front ((hS.dropAt 1).dropAt 1) 3 rfl) 3 rfl) 2 rfl) 3 rfl), fun _ => (St.front (St.front (St.front (St.front ((hS.dropAt 1).dropAt 1) 3 rfl) 3 rfl) 2 rfl) 3 rfl)⟩, ?_⟩
              refine Rg.done (by kernel_rfl) ?_
              replace hS := hS.front 5 rfl
              replace hS := hS.front 5 rfl
              replace hS := hS.front 5 rfl
              replace hS := hS.front 4 rfl
              replace hS := hS.front 4 rfl
              replace hS := hS.front 5 rfl
              exact key _ _ _ _ _ _ h106 h0_0 h91 h118 h80 (hE.pick _ ⟨rfl, rfl, rfl, rfl, rfl, rfl, rfl, rfl, rfl, rfl, trivial⟩) hS
          clear hE hS a w; intro cs117 b127 a114 c115 a w h106 h0_0 h91 h118 h80 hE hS
          subst hK110
          refine W.seq ?_
          refine W.region ?_
          refine WL.vS hS hE (runs_plain rfl) (Gives.loadBA hE 0 rfl rfl ty24) rfl ?_; clear hE a; intro a hE
          have hF := hS.fixD RPlanRule.mono 2 rfl h118 rfl; clear hS; obtain ⟨s129, hle130, hS, h131⟩ := hF
          replace h106 := Sl.mono RPlanRule.mono hle130 h106
          replace h0_0 := Sl.mono RPlanRule.mono hle130 h0_0
          replace h91 := Ev.mono RPlanRule.mono hle130 h91
          replace h80 := Ev.mono RI.mono hle130 h80
          obtain ⟨q132, hq133, hq66⟩ := bindS hq66
          have hc_ := Plansolve_ok hS h131 hq133
          refine WL.fnq hE (hc_) (runs_plain rfl) bd43 rfl rfl rfl ?_
          clear hE hS hc_; rintro e w ⟨a134, c135, s138, rfl, hle139, h136, hz137, hS⟩; refine ⟨_, rfl, ?_⟩; clear a; intro a hE
          replace h106 := Sl.mono RPlanRule.mono hle139 h106
          replace h0_0 := Sl.mono RPlanRule.mono hle139 h0_0
          replace h131 := Sl.mono RPlanRule.mono hle139 h131
          replace h91 := Ev.mono RPlanRule.mono hle139 h91
          replace h80 := Ev.mono RI.mono hle139 h80
          refine WL.vS hS hE (runs_plain rfl) (Gives.notNilZ hE (isNone_eq h136 hz137) rfl rfl isl29) rfl ?_; clear hE a; intro a hE
          refine WL.nil ?_
          obtain ⟨q141, hq140, hq66⟩ := bindS hq66
          refine W.cut (fun a w => ∃ (q144 : List Int), ∃ (q151 : List PlanRule), ∃ (a145 : Option Addr), ∃ (c146 : Nat), ∃ (n148 : Nat), ∃ (cs149 : List Value), ∃ (a152 : Option Addr), ∃ (c153 : Nat), ∃ (n155 : Nat), ∃ (cs156 : List Value), (q144, q151) = q141 ∧ Ev 1 (RI .i64) s138 cs149 q144 ∧ q144.length = n148 ∧ Ev 5 RPlanRule s138 cs156 q151 ∧ q151.length = n155 ∧ Rep a 53 [(1, .pointer (some ⟨b51, 0, none⟩)), (5, .slice a145 n148 c146), (6, .slice a103 x101.length c104), (7, .slice a152 n155 c153), (22, .slice a0_0 x0.Rules.length c0_0), (23, .int .i64 ((x0.Rules).length : Int)), (24, .int .i64 ((k68 : Nat) : Int))] ∧ St w s138 (pt b127 (.cells #[.int .i64 x0.Period, .int .i64 x0.Events, .slice a114 q112.length c115] 24 (0, 0)) :: vecC 37 5 a152 c153 n155 cs156 :: pt b100 (.cells (PlanRule.cells x69).toArray 37 (0, 0)) :: vecC 3 1 a145 c146 n148 cs149 :: pt b51 (.cells #[.int .i64 x0.Period, .int .i64 x0.Events, .slice a0_0 x0.Rules.length c0_0] 24 (0, 0)) :: R)) ?_ ?_
          · refine W.gen fun K158 hK158 => ?_
            refine W.cond hE rfl (fun hc159 => ?_) (fun hc159 => ?_)
            · replace hq140 := iteT hc159 hq140
              refine W.seq ?_
              refine W.region ?_
              refine WL.vS hS hE (runs_plain rfl) (Gives.p hE rfl) rfl ?_; clear hE a; intro a hE
              refine WL.vS hS hE (runs_plain rfl) (Gives.loadBA hE 2 rfl rfl ty37) rfl ?_; clear hE a; intro a hE
              refine WL.lit hE hS (e := 37) (es := 5) (vs := [(0, .agg (PlanRule.cells x69).toArray)]) (cs := [.int .i64 x69.From, .int .i64 x69.To, .int .i64 x69.Min, .int .i64 x69.Max, .int .i64 x69.Weight]) (runs_plain rfl) rfl (by kernel_rfl) rfl ?_; clear hE hS a w; intro b160 a w hE hS
              obtain ⟨x161, hx162, hq140⟩ := bindS hq140
              refine WL.appD hE hS 1 (m := 1) (runs_plain rfl) rfl rfl rfl ap22 rfl h91 rfl (xs := [x69]) (Ev.cons (c1 := [.int .i64 x69.From, .int .i64 x69.To, .int .i64 x69.Min, .int .i64 x69.Max, .int .i64 x69.Weight]) rfl rfl (Ev.nil)) rfl rfl hx162 rfl ?_; clear hE hS a w; intro a163 c164 cs165 a w h166 hE hS
              refine WL.vS hS hE (runs_plain rfl) (Gives.p hE rfl) rfl ?_; clear hE a; intro a hE
              refine WL.nil ?_
              refine W.region ?_
              refine WL.vS hS hE (runs_plain rfl) (Gives.p hE rfl) rfl ?_; clear hE a; intro a hE
              refine WL.vS hS hE (runs_plain rfl) (Gives.p hE rfl) rfl ?_; clear hE a; intro a hE
              refine WL.lit hE hS (e := 3) (es := 1) (vs := [(0, .int .i64 ((k68 : Nat) : Int))]) (cs := [.int .i64 ((k68 : Nat) : Int)]) (runs_plain rfl) rfl (by kernel_rfl) rfl ?_; clear hE hS a w; intro b167 a w hE hS
              obtain ⟨x168, hx169, hq140⟩ := bindS hq140
              refine WL.appD hE hS 3 (m := 1) (runs_plain rfl) rfl rfl rfl ap29 rfl h80 rfl (xs := [((k68 : Nat) : Int)]) (Ev.cons (c1 := [.int .i64 ((k68 : Nat) : Int)]) rfl rfl (Ev.nil)) rfl rfl hx169 rfl ?_; clear hE hS a w; intro a170 c171 cs172 a w h173 hE hS
              refine WL.vS hS hE (runs_plain rfl) (Gives.p hE rfl) rfl ?_; clear hE a; intro a hE
              refine WL.nil ?_
              subst hK158
              exact ⟨x168, x161, a170, c171, x168.length, cs172, a163, c164, x161.length, cs165, Option.some.inj hq140, h173, (rfl), h166, (rfl), hE.pick _ ⟨rfl, rfl, rfl, rfl, rfl, rfl, rfl, trivial⟩, hS⟩
            · replace hq140 := iteF hc159 hq140
              refine W.skip ?_
              subst hK158
              exact ⟨q77, q88, a78, c79, q77.length, cs82, a89, c90, q88.length, cs93, Option.some.inj hq140, h80, rfl, h91, rfl, hE.pick _ ⟨rfl, rfl, rfl, rfl, rfl, rfl, rfl, trivial⟩, hS⟩
          · clear hE hS a w; rintro a w ⟨q144, q151, a145, c146, n148, cs149, a152, c153, n155, cs156, rfl, h147, rfl, h154, rfl, hE, hS⟩
            dsimp only at hq66
            refine W.region ?_
            refine WL.vS hS hE (runs_plain rfl) (Gives.inc hE rfl (by have := h0_0.small; omega)) rfl ?_; clear hE a; intro a hE
            refine WL.vS hS hE (runs_plain rfl) (Gives.p hE rfl) rfl ?_; clear hE a; intro a hE
            refine WL.nil ?_
            replace hS := hS.tail
            replace hS := hS.dropAt 1
            subst hK95
            exact ⟨rest70.length, Nat.lt_succ_self _, rest70, k68 + 1, q144, x101, q151, a145, c146, q144.length, cs149, a103, c104, a152, c153, q151.length, cs156, s138, rfl, hd71, (Sg.Le.trans (Sg.Le.trans hle76 hle130) hle139), hq66, h147, rfl, h106, h154, rfl, hE.pick _ ⟨rfl, rfl, rfl, rfl, rfl, rfl, rfl, trivial⟩, hS⟩
      · clear hE hS a w; rintro a w ⟨q77, q84, q88, a78, c79, n81, cs82, a85, c86, a89, c90, n92, cs93, s75, hle76, rfl, h80, rfl, h87, h91, rfl, hE, hS⟩
        dsimp only at hr
        replace h0_0 := Sl.mono RPlanRule.mono hle76 h0_0
        replace h58 := Sl.mono RI.mono hle76 h58
        refine W.seq ?_
        refine W.region ?_
        refine WL.vS hS hE (runs_plain rfl) (Gives.p hE rfl) rfl ?_; clear hE a; intro a hE
        refine WL.vS hS hE (runs_plain rfl) (Gives.p hE rfl) rfl ?_; clear hE a; intro a hE
        refine WL.vS hS hE (runs_plain rfl) (Gives.p hE rfl) rfl ?_; clear hE a; intro a hE
        refine WL.nil ?_
        refine W.ret ?_
        refine finG (fn := Try.f22) (rs := [.tmp 2, .tmp 3]) (vs := [_, _]) hE rfl ⟨rfl, rfl, trivial⟩ ?_
        obtain rfl := Option.some.inj hr
        replace hS := hS.tail
        replace hS := hS.dropAt 1
        exact ⟨a78, c79, q77.length, cs82, s75, rfl, (Sg.Le.trans hle61 hle76), h80, rfl, hS⟩
set_option maxHeartbeats 8000000 in
theorem Fishref2within_ok  {w : World} {s : Sg} {R : List HP} {x0 : Int} {x1 : Int} {x2 : Int} (hS : St w s (R))  {r : Bool} (hr : Fishref2within x0 x1 x2 = r) :
    Calls Try.prog 36 [.int .i64 x0, .int .i64 x1, .int .i64 x2].toArray w (fun e w => e = .returned (.bool r) ∧ St w s (R)) := by
  refine enter Try.func36 rfl rfl rfl fun a hE => ?_
  rw [Fishref2within] at hr
  refine W.seq ?_
  refine W.region ?_
  refine WL.vS hS hE (runs_plain rfl) (Gives.p hE rfl) rfl ?_; clear hE a; intro a hE
  refine WL.nil ?_
  refine W.seq ?_
  obtain ⟨q52, hq51, hr⟩ := bndS hr
  refine W.cut (fun a w => ∃ (q55 : Bool), q55 = q52 ∧ Rep a 15 [(6, .bool q55)] ∧ St w s (R)) ?_ ?_
  · refine W.gen fun K56 hK56 => ?_
    refine W.region ?_
    refine WL.vS hS hE (runs_plain rfl) (Gives.p hE rfl) rfl ?_; clear hE a; intro a hE
    refine WL.vS hS hE (runs_plain rfl) (Gives.p hE rfl) rfl ?_; clear hE a; intro a hE
    refine WL.vS hS hE (runs_plain rfl) (Gives.p hE rfl) rfl ?_; clear hE a; intro a hE
    refine WL.vS hS hE (runs_plain rfl) (Gives.p hE rfl) rfl ?_; clear hE a; intro a hE
    rcases Bool.eq_false_or_eq_true (decide (x0 ≥ x1)) with hg57 | hg57
    · replace hq51 := iteT hg57 hq51
      refine WL.vS hS hE (runs_if hE rfl rfl rfl hg57) (Gives.p hE rfl) rfl ?_; clear hE a; intro a hE
      refine WL.vS hS hE (runs_if hE rfl rfl rfl hg57) (Gives.p hE rfl) rfl ?_; clear hE a; intro a hE
      refine WL.vS hS hE (runs_if hE rfl rfl rfl hg57) (Gives.p hE rfl) rfl ?_; clear hE a; intro a hE
      refine WL.vS hS hE (runs_plain rfl) (Gives.pickT hE rfl hg57 rfl) rfl ?_; clear hE a; intro a hE
      refine WL.vS hS hE (runs_plain rfl) (Gives.p hE rfl) rfl ?_; clear hE a; intro a hE
      refine WL.nil ?_
      subst hK56
      exact ⟨decide (x0 ≤ x2), hq51, hE.pick _ ⟨rfl, trivial⟩, hS⟩
    · replace hq51 := iteF hg57 hq51
      refine WL.no hE (runs_not hE rfl rfl rfl (by rw [hg57]; decide)) rfl ?_; clear hE a; intro a hE
      refine WL.no hE (runs_not hE rfl rfl rfl (by rw [hg57]; decide)) rfl ?_; clear hE a; intro a hE
      refine WL.no hE (runs_not hE rfl rfl rfl (by rw [hg57]; decide)) rfl ?_; clear hE a; intro a hE
      refine WL.vS hS hE (runs_plain rfl) (Gives.pickF hE rfl hg57 rfl) rfl ?_; clear hE a; intro a hE
      refine WL.vS hS hE (runs_plain rfl) (Gives.p hE rfl) rfl ?_; clear hE a; intro a hE
      refine WL.nil ?_
      subst hK56
      exact ⟨false, hq51, hE.pick _ ⟨rfl, trivial⟩, hS⟩
  · clear hE hS a w; rintro a w ⟨q55, rfl, hE, hS⟩
    refine W.ret ?_
    refine finG (fn := Try.f36) (rs := [.tmp 6]) (vs := [_]) hE rfl ⟨rfl, trivial⟩ ?_
    subst hr
    exact ⟨rfl, hS⟩
set_option maxHeartbeats 8000000 in
theorem Fishref2PeriodicFault_ok  {w : World} {s : Sg} {R : List HP} {x0 : PlanPeriodic} {a0_0 : Option Addr} {c0_0 : Nat} (hS : St w s (R)) (h0_0 : Sl 5 RPlanRule s a0_0 c0_0 x0.Rules) {r : Int} (hr : Fishref2PeriodicFault x0 = r) :
    Calls Try.prog 11 [.agg [.int .i64 x0.Period, .int .i64 x0.Events, .slice a0_0 x0.Rules.length c0_0].toArray].toArray w (fun e w => e = .returned (.int .i64 r) ∧ St w s (R)) := by
  refine enter Try.func11 rfl rfl rfl fun a hE => ?_
  rw [Fishref2PeriodicFault] at hr
  refine W.seq ?_
  refine W.region ?_
  refine WL.box hE hS (runs_plain rfl) rfl rfl rfl ?_; clear hE hS a w; intro b51 a w hE hS
  refine WL.vS hS hE (runs_plain rfl) (Gives.p hE rfl) rfl ?_; clear hE a; intro a hE
  refine WL.nil ?_
  refine W.seq ?_
  refine W.seq ?_
  obtain ⟨q53, hq52, hr⟩ := bndS hr
  refine W.cut (fun a w => ∃ (q56 : Bool), q56 = q53 ∧ Rep a 79 [(1, .pointer (some ⟨b51, 0, none⟩)), (14, .bool q56)] ∧ St w s (pt b51 (.cells #[.int .i64 x0.Period, .int .i64 x0.Events, .slice a0_0 x0.Rules.length c0_0] 24 (0, 0)) :: R)) ?_ ?_
  · refine W.gen fun K57 hK57 => ?_
    refine W.region ?_
    refine WL.vS hS hE (runs_plain rfl) (Gives.fld hE rfl fl24_0) rfl ?_; clear hE a; intro a hE
    refine WL.vS hS hE (runs_plain rfl) (Gives.loadB hE 0 rfl rfl rfl ty3) rfl ?_; clear hE a; intro a hE
    refine WL.fnq hE (Fishref2within_ok hS  rfl (r := Fishref2within x0.Period 2 3600)) (runs_plain rfl) bd36 rfl rfl rfl ?_
    clear hE hS; rintro e w ⟨rfl, hS⟩; refine ⟨_, rfl, ?_⟩; clear a; intro a hE
    refine WL.vS hS hE (runs_plain rfl) (Gives.p hE rfl) rfl ?_; clear hE a; intro a hE
    refine WL.vS hS hE (runs_plain rfl) (Gives.p hE rfl) rfl ?_; clear hE a; intro a hE
    rcases Bool.eq_false_or_eq_true (!(Fishref2within x0.Period 2 3600)) with hg58 | hg58
    · replace hq52 := iteT hg58 hq52
      refine WL.no hE (runs_not hE rfl rfl rfl (by rw [hg58]; decide)) rfl ?_; clear hE a; intro a hE
      refine WL.no hE (runs_not hE rfl rfl rfl (by rw [hg58]; decide)) rfl ?_; clear hE a; intro a hE
      refine WL.no hE (runs_not hE rfl rfl rfl (by rw [hg58]; decide)) rfl ?_; clear hE a; intro a hE
      refine WL.no hE (runs_not hE rfl rfl rfl (by rw [hg58]; decide)) rfl ?_; clear hE a; intro a hE
      refine WL.vS hS hE (runs_plain rfl) (Gives.pickT hE rfl hg58 rfl) rfl ?_; clear hE a; intro a hE
      refine WL.nil ?_
      subst hK57
      exact ⟨true, hq52, hE.pick _ ⟨rfl, rfl, trivial⟩, hS⟩
    · replace hq52 := iteF hg58 hq52
      refine WL.vS hS hE (runs_if hE rfl rfl rfl hg58) (Gives.fld hE rfl fl24_1) rfl ?_; clear hE a; intro a hE
      refine WL.vS hS hE (runs_if hE rfl rfl rfl hg58) (Gives.loadB hE 0 rfl rfl rfl ty3) rfl ?_; clear hE a; intro a hE
      refine WL.fnq hE (Fishref2within_ok hS  rfl (r := Fishref2within x0.Events 1 8)) (runs_if hE rfl rfl rfl hg58) bd36 rfl rfl rfl ?_
      clear hE hS; rintro e w ⟨rfl, hS⟩; refine ⟨_, rfl, ?_⟩; clear a; intro a hE
      refine WL.vS hS hE (runs_if hE rfl rfl rfl hg58) (Gives.p hE rfl) rfl ?_; clear hE a; intro a hE
      refine WL.vS hS hE (runs_plain rfl) (Gives.pickF hE rfl hg58 rfl) rfl ?_; clear hE a; intro a hE
      refine WL.nil ?_
      subst hK57
      exact ⟨!(Fishref2within x0.Events 1 8), hq52, hE.pick _ ⟨rfl, rfl, trivial⟩, hS⟩
  · clear hE hS a w; rintro a w ⟨q56, rfl, hE, hS⟩
    refine W.cond hE rfl (fun hc59 => ?_) (fun hc59 => ?_)
    · replace hr := iteT hc59 hr
      refine W.seq ?_
      refine W.region ?_
      refine WL.vS hS hE (runs_plain rfl) (Gives.p hE rfl) rfl ?_; clear hE a; intro a hE
      refine WL.nil ?_
      refine W.ret ?_
      refine finG (fn := Try.f11) (rs := [.tmp 2]) (vs := [_]) hE rfl ⟨rfl, trivial⟩ ?_
      subst hr
      replace hS := hS.tail
      exact ⟨rfl, hS⟩
    · replace hr := iteF hc59 hr
      refine W.skip ?_
      refine W.seq ?_
      refine W.seq ?_
      refine W.region ?_
      refine WL.vS hS hE (runs_plain rfl) (Gives.fld hE rfl fl24_2) rfl ?_; clear hE a; intro a hE
      refine WL.vS hS hE (runs_plain rfl) (Gives.loadB hE 0 rfl rfl rfl ty22) rfl ?_; clear hE a; intro a hE
      refine WL.vS hS hE (runs_plain rfl) (Gives.len hE rfl sl22) rfl ?_; clear hE a; intro a hE
      refine WL.vS hS hE (runs_plain rfl) (Gives.p hE rfl) rfl ?_; clear hE a; intro a hE
      refine WL.nil ?_
      refine W.cond hE rfl (fun hc60 => ?_) (fun hc60 => ?_)
      · replace hr := iteT hc60 hr
        refine W.seq ?_
        refine W.region ?_
        refine WL.vS hS hE (runs_plain rfl) (Gives.p hE rfl) rfl ?_; clear hE a; intro a hE
        refine WL.nil ?_
        refine W.ret ?_
        refine finG (fn := Try.f11) (rs := [.tmp 2]) (vs := [_]) hE rfl ⟨rfl, trivial⟩ ?_
        subst hr
        replace hS := hS.tail
        exact ⟨rfl, hS⟩
      · replace hr := iteF hc60 hr
        refine W.skip ?_
        refine W.seq ?_
        refine W.seq ?_
        refine W.region ?_
        refine WL.vS hS hE (runs_plain rfl) (Gives.fld hE rfl fl24_2) rfl ?_; clear hE a; intro a hE
        refine WL.vS hS hE (runs_plain rfl) (Gives.loadB hE 0 rfl rfl rfl ty22) rfl ?_; clear hE a; intro a hE
        refine WL.vS hS hE (runs_plain rfl) (Gives.len hE rfl sl22) rfl ?_; clear hE a; intro a hE
        refine WL.vS hS hE (runs_plain rfl) (Gives.p hE rfl) rfl ?_; clear hE a; intro a hE
        refine WL.nil ?_
        obtain ⟨q62, hq61, hr⟩ := bndS hr
        refine W.cut (fun a w => (.next ()) = q62 ∧ Rep a 79 [] ∧ St w s (pt b51 (.cells #[.int .i64 x0.Period, .int .i64 x0.Events, .slice a0_0 x0.Rules.length c0_0] 24 (0, 0)) :: R)) ?_ ?_
        · refine W.block ?_
          refine W.loop (fun m a w => ∃ (rest65 : List PlanRule) (k63 : Nat), rest65.length = m ∧ x0.Rules.drop k63 = rest65 ∧ Fishref2PeriodicFault.loop1 x0 rest65 = q62 ∧ Rep a 79 [(1, .pointer (some ⟨b51, 0, none⟩)), (20, .slice a0_0 x0.Rules.length c0_0), (21, .int .i64 ((x0.Rules).length : Int)), (22, .int .i64 ((k63 : Nat) : Int))] ∧ St w s (pt b51 (.cells #[.int .i64 x0.Period, .int .i64 x0.Events, .slice a0_0 x0.Rules.length c0_0] 24 (0, 0)) :: R)) (m := x0.Rules.length) ⟨x0.Rules, 0, rfl, rfl, hq61, hE.pick _ ⟨rfl, rfl, rfl, rfl, trivial⟩, hS⟩ ?_
          clear hE hS a w hq61; rintro m69 a w ⟨rest65, k63, rfl, hd66, hq61, hE, hS⟩
          refine W.gen fun K72 hK72 => ?_
          rcases rest65 with _ | ⟨x64, rest65⟩
          · have hlt67 := drop_nil hd66
            refine W.seq ?_
            refine W.region ?_
            refine WL.vS hS hE (runs_plain rfl) (Gives.p hE rfl) rfl ?_; clear hE a; intro a hE
            refine WL.nil ?_
            refine W.seq ?_
            refine W.condF hE rfl (decide_eq_false (by omega)) ?_
            subst hK72
            refine W.exit rfl ?_
            exact ⟨hq61, hE.pick _ trivial, hS⟩
          · obtain ⟨hlt67, hx68, hd66⟩ := drop_cons hd66
            rw [Fishref2PeriodicFault.loop1] at hq61
            refine W.seq ?_
            refine W.region ?_
            refine WL.vS hS hE (runs_plain rfl) (Gives.p hE rfl) rfl ?_; clear hE a; intro a hE
            refine WL.nil ?_
            refine W.seq ?_
            refine W.condT hE rfl (decide_eq_true (by omega)) ?_
            refine W.skip ?_
            refine W.seq ?_
            refine W.block ?_
            refine W.seq ?_
            refine W.region ?_
            obtain ⟨cs73, hl74, hR75, hat76⟩ := h0_0.at hx68
            subst hR75
            refine WL.vS hS hE (runs_plain rfl) (Gives.idx hE k63 rfl rfl sl22 rfl hlt67 (h0_0.aok hlt67)) rfl ?_; clear hE a; intro a hE
            refine WL.vS hS hE (runs_plain rfl) (Gives.loadA hE rfl (fun w h => hat76 w _ h) ty37) rfl ?_; clear hE a; intro a hE
            refine WL.alloc hE hS (runs_plain rfl) zr37 rfl ?_; clear hE hS a w; intro b77 a w hE hS
            refine WL.storeI hE hS 0 rfl (PlanRule.cells x64) (runs_plain rfl) rfl rfl rfl ty37 rfl rfl rfl rfl ?_; clear hE hS a w; intro a w hE hS
            refine WL.nil ?_
            refine W.block ?_
            refine W.seq ?_
            obtain ⟨q79, hq78, hq61⟩ := bndS hq61
            refine W.cut (fun a w => ∃ (q82 : Bool), q82 = q79 ∧ Rep a 79 [(1, .pointer (some ⟨b51, 0, none⟩)), (4, .pointer (some ⟨b77, 0, none⟩)), (20, .slice a0_0 x0.Rules.length c0_0), (21, .int .i64 ((x0.Rules).length : Int)), (22, .int .i64 ((k63 : Nat) : Int)), (26, .bool q82)] ∧ St w s (pt b77 (.cells (PlanRule.cells x64).toArray 37 (0, 0)) :: pt b51 (.cells #[.int .i64 x0.Period, .int .i64 x0.Events, .slice a0_0 x0.Rules.length c0_0] 24 (0, 0)) :: R)) ?_ ?_
            · refine W.gen fun K83 hK83 => ?_
              refine W.region ?_
              refine WL.vS hS hE (runs_plain rfl) (Gives.fld hE rfl fl37_0) rfl ?_; clear hE a; intro a hE
              refine WL.vS hS hE (runs_plain rfl) (Gives.loadB hE 0 rfl rfl rfl ty3) rfl ?_; clear hE a; intro a hE
              refine WL.vS hS hE (runs_plain rfl) (Gives.fld hE rfl fl24_1) rfl ?_; clear hE a; intro a hE
              refine WL.vS hS hE (runs_plain rfl) (Gives.loadB hE 1 rfl rfl rfl ty3) rfl ?_; clear hE a; intro a hE
              refine WL.vS hS hE (runs_plain rfl) (Gives.p hE rfl) rfl ?_; clear hE a; intro a hE
              refine WL.fnq hE (Fishref2within_ok hS  rfl (r := Fishref2within x64.From 0 (w64 (x0.Events - 1)))) (runs_plain rfl) bd36 rfl rfl rfl ?_
              clear hE hS; rintro e w ⟨rfl, hS⟩; refine ⟨_, rfl, ?_⟩; clear a; intro a hE
              refine WL.vS hS hE (runs_plain rfl) (Gives.p hE rfl) rfl ?_; clear hE a; intro a hE
              refine WL.vS hS hE (runs_plain rfl) (Gives.p hE rfl) rfl ?_; clear hE a; intro a hE
              rcases Bool.eq_false_or_eq_true (!(Fishref2within x64.From 0 (w64 (x0.Events - 1)))) with hg84 | hg84
              · replace hq78 := iteT hg84 hq78
                refine WL.no hE (runs_not hE rfl rfl rfl (by rw [hg84]; decide)) rfl ?_; clear hE a; intro a hE
                refine WL.no hE (runs_not hE rfl rfl rfl (by rw [hg84]; decide)) rfl ?_; clear hE a; intro a hE
                refine WL.no hE (runs_not hE rfl rfl rfl (by rw [hg84]; decide)) rfl ?_; clear hE a; intro a hE
                refine WL.no hE (runs_not hE rfl rfl rfl (by rw [hg84]; decide)) rfl ?_; clear hE a; intro a hE
                refine WL.no hE (runs_not hE rfl rfl rfl (by rw [hg84]; decide)) rfl ?_; clear hE a; intro a hE
                refine WL.no hE (runs_not hE rfl rfl rfl (by rw [hg84]; decide)) rfl ?_; clear hE a; intro a hE
                refine WL.no hE (runs_not hE rfl rfl rfl (by rw [hg84]; decide)) rfl ?_; clear hE a; intro a hE
                refine WL.vS hS hE (runs_plain rfl) (Gives.pickT hE rfl hg84 rfl) rfl ?_; clear hE a; intro a hE
                refine WL.vS hS hE (runs_plain rfl) (Gives.p hE rfl) rfl ?_; clear hE a; intro a hE
                refine WL.nil ?_
                subst hK83
                exact ⟨true, hq78, hE.pick _ ⟨rfl, rfl, rfl, rfl, rfl, rfl, trivial⟩, hS⟩
              · replace hq78 := iteF hg84 hq78
                refine WL.vS hS hE (runs_if hE rfl rfl rfl hg84) (Gives.fld hE rfl fl37_1) rfl ?_; clear hE a; intro a hE
                refine WL.vS hS hE (runs_if hE rfl rfl rfl hg84) (Gives.loadB hE 0 rfl rfl rfl ty3) rfl ?_; clear hE a; intro a hE
                refine WL.vS hS hE (runs_if hE rfl rfl rfl hg84) (Gives.fld hE rfl fl24_1) rfl ?_; clear hE a; intro a hE
                refine WL.vS hS hE (runs_if hE rfl rfl rfl hg84) (Gives.loadB hE 1 rfl rfl rfl ty3) rfl ?_; clear hE a; intro a hE
                refine WL.vS hS hE (runs_if hE rfl rfl rfl hg84) (Gives.p hE rfl) rfl ?_; clear hE a; intro a hE
                refine WL.fnq hE (Fishref2within_ok hS  rfl (r := Fishref2within x64.To 0 (w64 (x0.Events - 1)))) (runs_if hE rfl rfl rfl hg84) bd36 rfl rfl rfl ?_
                clear hE hS; rintro e w ⟨rfl, hS⟩; refine ⟨_, rfl, ?_⟩; clear a; intro a hE
                refine WL.vS hS hE (runs_if hE rfl rfl rfl hg84) (Gives.p hE rfl) rfl ?_; clear hE a; intro a hE
                refine WL.vS hS hE (runs_plain rfl) (Gives.pickF hE rfl hg84 rfl) rfl ?_; clear hE a; intro a hE
                refine WL.vS hS hE (runs_plain rfl) (Gives.p hE rfl) rfl ?_; clear hE a; intro a hE
                refine WL.nil ?_
                subst hK83
                exact ⟨!(Fishref2within x64.To 0 (w64 (x0.Events - 1))), hq78, hE.pick _ ⟨rfl, rfl, rfl, rfl, rfl, rfl, trivial⟩, hS⟩
            · clear hE hS a w; rintro a w ⟨q82, rfl, hE, hS⟩
              refine W.cond hE rfl (fun hc85 => ?_) (fun hc85 => ?_)
              · replace hq61 := iteT hc85 hq61
                refine W.seq ?_
                refine W.region ?_
                refine WL.vS hS hE (runs_plain rfl) (Gives.p hE rfl) rfl ?_; clear hE a; intro a hE
                refine WL.nil ?_
                refine W.ret ?_
                subst hK72
                rw [← hq61] at hr
                dsimp only at hr
                refine finG (fn := Try.f11) (rs := [.tmp 2]) (vs := [_]) hE rfl ⟨rfl, trivial⟩ ?_
                subst hr
                replace hS := hS.tail
                replace hS := hS.tail
                exact ⟨rfl, hS⟩
              · replace hq61 := iteF hc85 hq61
                refine W.seq ?_
                refine W.region ?_
                refine WL.vS hS hE (runs_plain rfl) (Gives.fld hE rfl fl37_0) rfl ?_; clear hE a; intro a hE
                refine WL.vS hS hE (runs_plain rfl) (Gives.loadB hE 0 rfl rfl rfl ty3) rfl ?_; clear hE a; intro a hE
                refine WL.vS hS hE (runs_plain rfl) (Gives.fld hE rfl fl37_1) rfl ?_; clear hE a; intro a hE
                refine WL.vS hS hE (runs_plain rfl) (Gives.loadB hE 0 rfl rfl rfl ty3) rfl ?_; clear hE a; intro a hE
                refine WL.vS hS hE (runs_plain rfl) (Gives.p hE rfl) rfl ?_; clear hE a; intro a hE
                refine WL.vS hS hE (runs_plain rfl) (Gives.p hE rfl) rfl ?_; clear hE a; intro a hE
                refine WL.nil ?_
                refine W.cond hE rfl (fun hc86 => ?_) (fun hc86 => ?_)
                · replace hq61 := iteT hc86 hq61
                  refine W.seq ?_
                  refine W.region ?_
                  refine WL.vS hS hE (runs_plain rfl) (Gives.p hE rfl) rfl ?_; clear hE a; intro a hE
                  refine WL.nil ?_
                  refine W.ret ?_
                  subst hK72
                  rw [← hq61] at hr
                  dsimp only at hr
                  refine finG (fn := Try.f11) (rs := [.tmp 2]) (vs := [_]) hE rfl ⟨rfl, trivial⟩ ?_
                  subst hr
                  replace hS := hS.tail
                  replace hS := hS.tail
                  exact ⟨rfl, hS⟩
                · replace hq61 := iteF hc86 hq61
                  refine W.seq ?_
                  obtain ⟨q88, hq87, hq61⟩ := bndS hq61
                  refine W.cut (fun a w => ∃ (q91 : Bool), q91 = q88 ∧ Rep a 79 [(1, .pointer (some ⟨b51, 0, none⟩)), (20, .slice a0_0 x0.Rules.length c0_0), (21, .int .i64 ((x0.Rules).length : Int)), (22, .int .i64 ((k63 : Nat) : Int)), (49, .bool q91)] ∧ St w s (pt b77 (.cells (PlanRule.cells x64).toArray 37 (0, 0)) :: pt b51 (.cells #[.int .i64 x0.Period, .int .i64 x0.Events, .slice a0_0 x0.Rules.length c0_0] 24 (0, 0)) :: R)) ?_ ?_
                  · refine W.gen fun K92 hK92 => ?_
                    refine W.region ?_
                    refine WL.vS hS hE (runs_plain rfl) (Gives.fld hE rfl fl37_2) rfl ?_; clear hE a; intro a hE
                    refine WL.vS hS hE (runs_plain rfl) (Gives.loadB hE 0 rfl rfl rfl ty3) rfl ?_; clear hE a; intro a hE
                    refine WL.fnq hE (Fishref2within_ok hS  rfl (r := Fishref2within x64.Min 0 3600)) (runs_plain rfl) bd36 rfl rfl rfl ?_
                    clear hE hS; rintro e w ⟨rfl, hS⟩; refine ⟨_, rfl, ?_⟩; clear a; intro a hE
                    refine WL.vS hS hE (runs_plain rfl) (Gives.p hE rfl) rfl ?_; clear hE a; intro a hE
                    refine WL.vS hS hE (runs_plain rfl) (Gives.p hE rfl) rfl ?_; clear hE a; intro a hE
                    rcases Bool.eq_false_or_eq_true (!(Fishref2within x64.Min 0 3600)) with hg93 | hg93
                    · replace hq87 := iteT hg93 hq87
                      refine WL.no hE (runs_not hE rfl rfl rfl (by rw [hg93]; decide)) rfl ?_; clear hE a; intro a hE
                      refine WL.no hE (runs_not hE rfl rfl rfl (by rw [hg93]; decide)) rfl ?_; clear hE a; intro a hE
                      refine WL.no hE (runs_not hE rfl rfl rfl (by rw [hg93]; decide)) rfl ?_; clear hE a; intro a hE
                      refine WL.no hE (runs_not hE rfl rfl rfl (by rw [hg93]; decide)) rfl ?_; clear hE a; intro a hE
                      refine WL.no hE (runs_not hE rfl rfl rfl (by rw [hg93]; decide)) rfl ?_; clear hE a; intro a hE
                      refine WL.vS hS hE (runs_plain rfl) (Gives.pickT hE rfl hg93 rfl) rfl ?_; clear hE a; intro a hE
                      refine WL.vS hS hE (runs_plain rfl) (Gives.p hE rfl) rfl ?_; clear hE a; intro a hE
                      refine WL.no hE (runs_not hE rfl rfl rfl (by decide)) rfl ?_; clear hE a; intro a hE
                      refine WL.no hE (runs_not hE rfl rfl rfl (by decide)) rfl ?_; clear hE a; intro a hE
                      refine WL.no hE (runs_not hE rfl rfl rfl (by decide)) rfl ?_; clear hE a; intro a hE
                      refine WL.no hE (runs_not hE rfl rfl rfl (by decide)) rfl ?_; clear hE a; intro a hE
                      refine WL.no hE (runs_not hE rfl rfl rfl (by decide)) rfl ?_; clear hE a; intro a hE
                      refine WL.no hE (runs_not hE rfl rfl rfl (by decide)) rfl ?_; clear hE a; intro a hE
                      refine WL.no hE (runs_not hE rfl rfl rfl (by decide)) rfl ?_; clear hE a; intro a hE
                      refine WL.no hE (runs_not hE rfl rfl rfl (by decide)) rfl ?_; clear hE a; intro a hE
                      refine WL.no hE (runs_not hE rfl rfl rfl (by decide)) rfl ?_; clear hE a; intro a hE
                      refine WL.vS hS hE (runs_plain rfl) (Gives.pickT hE rfl rfl rfl) rfl ?_; clear hE a; intro a hE
                      refine WL.vS hS hE (runs_plain rfl) (Gives.p hE rfl) rfl ?_; clear hE a; intro a hE
                      refine WL.no hE (runs_not hE rfl rfl rfl (by decide)) rfl ?_; clear hE a; intro a hE
                      refine WL.no hE (runs_not hE rfl rfl rfl (by decide)) rfl ?_; clear hE a; intro a hE
                      refine WL.no hE (runs_not hE rfl rfl rfl (by decide)) rfl ?_; clear hE a; intro a hE
                      refine WL.no hE (runs_not hE rfl rfl rfl (by decide)) rfl ?_; clear hE a; intro a hE
                      refine WL.vS hS hE (runs_plain rfl) (Gives.pickT hE rfl rfl rfl) rfl ?_; clear hE a; intro a hE
                      refine WL.vS hS hE (runs_plain rfl) (Gives.p hE rfl) rfl ?_; clear hE a; intro a hE
                      refine WL.nil ?_
                      subst hK92
                      exact ⟨true, hq87, hE.pick _ ⟨rfl, rfl, rfl, rfl, rfl, trivial⟩, hS⟩
                    · replace hq87 := iteF hg93 hq87
                      refine WL.vS hS hE (runs_if hE rfl rfl rfl hg93) (Gives.fld hE rfl fl37_3) rfl ?_; clear hE a; intro a hE
                      refine WL.vS hS hE (runs_if hE rfl rfl rfl hg93) (Gives.loadB hE 0 rfl rfl rfl ty3) rfl ?_; clear hE a; intro a hE
                      refine WL.vS hS hE (runs_if hE rfl rfl rfl hg93) (Gives.fld hE rfl fl37_2) rfl ?_; clear hE a; intro a hE
                      refine WL.vS hS hE (runs_if hE rfl rfl rfl hg93) (Gives.loadB hE 0 rfl rfl rfl ty3) rfl ?_; clear hE a; intro a hE
                      refine WL.vS hS hE (runs_if hE rfl rfl rfl hg93) (Gives.p hE rfl) rfl ?_; clear hE a; intro a hE
                      refine WL.vS hS hE (runs_plain rfl) (Gives.pickF hE rfl hg93 rfl) rfl ?_; clear hE a; intro a hE
                      refine WL.vS hS hE (runs_plain rfl) (Gives.p hE rfl) rfl ?_; clear hE a; intro a hE
                      rcases Bool.eq_false_or_eq_true (decide (x64.Max < x64.Min)) with hg94 | hg94
                      · replace hq87 := iteT hg94 hq87
                        refine WL.no hE (runs_not hE rfl rfl rfl (by rw [hg94]; decide)) rfl ?_; clear hE a; intro a hE
                        refine WL.no hE (runs_not hE rfl rfl rfl (by rw [hg94]; decide)) rfl ?_; clear hE a; intro a hE
                        refine WL.no hE (runs_not hE rfl rfl rfl (by rw [hg94]; decide)) rfl ?_; clear hE a; intro a hE
                        refine WL.no hE (runs_not hE rfl rfl rfl (by rw [hg94]; decide)) rfl ?_; clear hE a; intro a hE
                        refine WL.no hE (runs_not hE rfl rfl rfl (by rw [hg94]; decide)) rfl ?_; clear hE a; intro a hE
                        refine WL.no hE (runs_not hE rfl rfl rfl (by rw [hg94]; decide)) rfl ?_; clear hE a; intro a hE
                        refine WL.no hE (runs_not hE rfl rfl rfl (by rw [hg94]; decide)) rfl ?_; clear hE a; intro a hE
                        refine WL.no hE (runs_not hE rfl rfl rfl (by rw [hg94]; decide)) rfl ?_; clear hE a; intro a hE
                        refine WL.no hE (runs_not hE rfl rfl rfl (by rw [hg94]; decide)) rfl ?_; clear hE a; intro a hE
                        refine WL.vS hS hE (runs_plain rfl) (Gives.pickT hE rfl hg94 rfl) rfl ?_; clear hE a; intro a hE
                        refine WL.vS hS hE (runs_plain rfl) (Gives.p hE rfl) rfl ?_; clear hE a; intro a hE
                        refine WL.no hE (runs_not hE rfl rfl rfl (by decide)) rfl ?_; clear hE a; intro a hE
                        refine WL.no hE (runs_not hE rfl rfl rfl (by decide)) rfl ?_; clear hE a; intro a hE
                        refine WL.no hE (runs_not hE rfl rfl rfl (by decide)) rfl ?_; clear hE a; intro a hE
                        refine WL.no hE (runs_not hE rfl rfl rfl (by decide)) rfl ?_; clear hE a; intro a hE
                        refine WL.vS hS hE (runs_plain rfl) (Gives.pickT hE rfl rfl rfl) rfl ?_; clear hE a; intro a hE
                        refine WL.vS hS hE (runs_plain rfl) (Gives.p hE rfl) rfl ?_; clear hE a; intro a hE
                        refine WL.nil ?_
                        subst hK92
                        exact ⟨true, hq87, hE.pick _ ⟨rfl, rfl, rfl, rfl, rfl, trivial⟩, hS⟩
                      · replace hq87 := iteF hg94 hq87
                        refine WL.vS hS hE (runs_if hE rfl rfl rfl hg94) (Gives.fld hE rfl fl37_3) rfl ?_; clear hE a; intro a hE
                        refine WL.vS hS hE (runs_if hE rfl rfl rfl hg94) (Gives.loadB hE 0 rfl rfl rfl ty3) rfl ?_; clear hE a; intro a hE
                        refine WL.vS hS hE (runs_if hE rfl rfl rfl hg94) (Gives.fld hE rfl fl37_2) rfl ?_; clear hE a; intro a hE
                        refine WL.vS hS hE (runs_if hE rfl rfl rfl hg94) (Gives.loadB hE 0 rfl rfl rfl ty3) rfl ?_; clear hE a; intro a hE
                        refine WL.vS hS hE (runs_if hE rfl rfl rfl hg94) (Gives.fld hE rfl fl24_0) rfl ?_; clear hE a; intro a hE
                        refine WL.vS hS hE (runs_if hE rfl rfl rfl hg94) (Gives.loadB hE 1 rfl rfl rfl ty3) rfl ?_; clear hE a; intro a hE
                        refine WL.vS hS hE (runs_if hE rfl rfl rfl hg94) (Gives.p hE rfl) rfl ?_; clear hE a; intro a hE
                        refine WL.vS hS hE (runs_if hE rfl rfl rfl hg94) (Gives.p hE rfl) rfl ?_; clear hE a; intro a hE
                        refine WL.vS hS hE (runs_if hE rfl rfl rfl hg94) (Gives.p hE rfl) rfl ?_; clear hE a; intro a hE
                        refine WL.vS hS hE (runs_plain rfl) (Gives.pickF hE rfl hg94 rfl) rfl ?_; clear hE a; intro a hE
                        refine WL.vS hS hE (runs_plain rfl) (Gives.p hE rfl) rfl ?_; clear hE a; intro a hE
                        rcases Bool.eq_false_or_eq_true (decide (x64.Max > (w64 ((w64 (x64.Min + x0.Period)) - 1)))) with hg95 | hg95
                        · replace hq87 := iteT hg95 hq87
                          refine WL.no hE (runs_not hE rfl rfl rfl (by rw [hg95]; decide)) rfl ?_; clear hE a; intro a hE
                          refine WL.no hE (runs_not hE rfl rfl rfl (by rw [hg95]; decide)) rfl ?_; clear hE a; intro a hE
                          refine WL.no hE (runs_not hE rfl rfl rfl (by rw [hg95]; decide)) rfl ?_; clear hE a; intro a hE
                          refine WL.no hE (runs_not hE rfl rfl rfl (by rw [hg95]; decide)) rfl ?_; clear hE a; intro a hE
                          refine WL.vS hS hE (runs_plain rfl) (Gives.pickT hE rfl hg95 rfl) rfl ?_; clear hE a; intro a hE
                          refine WL.vS hS hE (runs_plain rfl) (Gives.p hE rfl) rfl ?_; clear hE a; intro a hE
                          refine WL.nil ?_
                          subst hK92
                          exact ⟨true, hq87, hE.pick _ ⟨rfl, rfl, rfl, rfl, rfl, trivial⟩, hS⟩
                        · replace hq87 := iteF hg95 hq87
                          refine WL.vS hS hE (runs_if hE rfl rfl rfl hg95) (Gives.fld hE rfl fl37_4) rfl ?_; clear hE a; intro a hE
                          refine WL.vS hS hE (runs_if hE rfl rfl rfl hg95) (Gives.loadB hE 0 rfl rfl rfl ty3) rfl ?_; clear hE a; intro a hE
                          refine WL.fnq hE (Fishref2within_ok hS  rfl (r := Fishref2within x64.Weight 0 1000)) (runs_if hE rfl rfl rfl hg95) bd36 rfl rfl rfl ?_
                          clear hE hS; rintro e w ⟨rfl, hS⟩; refine ⟨_, rfl, ?_⟩; clear a; intro a hE
                          refine WL.vS hS hE (runs_if hE rfl rfl rfl hg95) (Gives.p hE rfl) rfl ?_; clear hE a; intro a hE
                          refine WL.vS hS hE (runs_plain rfl) (Gives.pickF hE rfl hg95 rfl) rfl ?_; clear hE a; intro a hE
                          refine WL.vS hS hE (runs_plain rfl) (Gives.p hE rfl) rfl ?_; clear hE a; intro a hE
                          refine WL.nil ?_
                          subst hK92
                          exact ⟨!(Fishref2within x64.Weight 0 1000), hq87, hE.pick _ ⟨rfl, rfl, rfl, rfl, rfl, trivial⟩, hS⟩
                  · clear hE hS a w; rintro a w ⟨q91, rfl, hE, hS⟩
                    refine W.cond hE rfl (fun hc96 => ?_) (fun hc96 => ?_)
                    · replace hq61 := iteT hc96 hq61
                      refine W.seq ?_
                      refine W.region ?_
                      refine WL.vS hS hE (runs_plain rfl) (Gives.p hE rfl) rfl ?_; clear hE a; intro a hE
                      refine WL.nil ?_
                      refine W.ret ?_
                      subst hK72
                      rw [← hq61] at hr
                      dsimp only at hr
                      refine finG (fn := Try.f11) (rs := [.tmp 2]) (vs := [_]) hE rfl ⟨rfl, trivial⟩ ?_
                      subst hr
                      replace hS := hS.tail
                      replace hS := hS.tail
                      exact ⟨rfl, hS⟩
                    · replace hq61 := iteF hc96 hq61
                      refine W.skip ?_
                      refine W.region ?_
                      refine WL.vS hS hE (runs_plain rfl) (Gives.inc hE rfl (by have := h0_0.small; omega)) rfl ?_; clear hE a; intro a hE
                      refine WL.vS hS hE (runs_plain rfl) (Gives.p hE rfl) rfl ?_; clear hE a; intro a hE
                      refine WL.nil ?_
                      replace hS := hS.tail
                      subst hK72
                      exact ⟨rest65.length, Nat.lt_succ_self _, rest65, k63 + 1, rfl, hd66, hq61, hE.pick _ ⟨rfl, rfl, rfl, rfl, trivial⟩, hS⟩
        · clear hE hS a w; rintro a w ⟨rfl, hE, hS⟩
          dsimp only at hr
          refine W.seq ?_
          refine W.region ?_
          refine WL.vS hS hE (runs_plain rfl) (Gives.p hE rfl) rfl ?_; clear hE a; intro a hE
          refine WL.nil ?_
          refine W.ret ?_
          refine finG (fn := Try.f11) (rs := [.tmp 2]) (vs := [_]) hE rfl ⟨rfl, trivial⟩ ?_
          subst hr
          replace hS := hS.tail
          exact ⟨rfl, hS⟩
set_option maxHeartbeats 8000000 in
theorem PlanSolve_ok {fu : Nat}  {w : World} {s : Sg} {R : List HP} {x0 : PlanPeriodic} {a0_0 : Option Addr} {c0_0 : Nat} (hS : St w s (R)) (h0_0 : Sl 5 RPlanRule s a0_0 c0_0 x0.Rules) {r : (List Int) × Int} (hr : PlanSolve fu x0 = some r) :
    Calls Try.prog 19 [.agg [.int .i64 x0.Period, .int .i64 x0.Events, .slice a0_0 x0.Rules.length c0_0].toArray].toArray w (fun e w => ∃ (a0 : Option Addr) (c0 : Nat) (t : Sg), e = .returned (.tuple #[.slice a0 r.1.length c0, .int .i64 r.2]) ∧ s.Le t ∧ Sl 1 (RI .i64) t a0 c0 r.1 ∧ St w t (R)) := by
  refine enter Try.func19 rfl rfl rfl fun a hE => ?_
  rw [PlanSolve] at hr
  refine W.seq ?_
  refine W.region ?_
  refine WL.box hE hS (runs_plain rfl) rfl rfl rfl ?_; clear hE hS a w; intro b51 a w hE hS
  refine WL.vS hS hE (runs_plain rfl) (Gives.p hE rfl) rfl ?_; clear hE a; intro a hE
  refine WL.vS hS hE (runs_plain rfl) (Gives.p hE rfl) rfl ?_; clear hE a; intro a hE
  refine WL.nil ?_
  refine W.seq ?_
  refine W.seq ?_
  refine W.region ?_
  refine WL.vS hS hE (runs_plain rfl) (Gives.loadBA hE 0 rfl rfl ty24) rfl ?_; clear hE a; intro a hE
  refine WL.fnq hE (PlanCheckPeriodic_ok hS h0_0 rfl (r := PlanCheckPeriodic x0)) (runs_plain rfl) bd10 rfl rfl rfl ?_
  clear hE hS; rintro e w ⟨rfl, hS⟩; refine ⟨_, rfl, ?_⟩; clear a; intro a hE
  refine WL.vS hS hE (runs_plain rfl) (Gives.p hE rfl) rfl ?_; clear hE a; intro a hE
  refine WL.nil ?_
  refine W.seq ?_
  refine W.region ?_
  refine WL.vS hS hE (runs_plain rfl) (Gives.p hE rfl) rfl ?_; clear hE a; intro a hE
  refine WL.vS hS hE (runs_plain rfl) (Gives.p hE rfl) rfl ?_; clear hE a; intro a hE
  refine WL.nil ?_
  refine W.cond hE rfl (fun hc52 => ?_) (fun hc52 => ?_)
  · replace hr := iteT hc52 hr
    refine W.seq ?_
    refine W.region ?_
    refine WL.vS hS hE (runs_plain rfl) (Gives.p hE rfl) rfl ?_; clear hE a; intro a hE
    refine WL.vS hS hE (runs_plain rfl) (Gives.p hE rfl) rfl ?_; clear hE a; intro a hE
    refine WL.vS hS hE (runs_plain rfl) (Gives.p hE rfl) rfl ?_; clear hE a; intro a hE
    refine WL.nil ?_
    refine W.ret ?_
    refine finG (fn := Try.f19) (rs := [.tmp 2, .tmp 3]) (vs := [_, _]) hE rfl ⟨rfl, rfl, trivial⟩ ?_
    obtain rfl := Option.some.inj hr
    replace hS := hS.tail
    exact ⟨none, 0, s, rfl, (Sg.Le.refl _), Sl.nil, hS⟩
  · replace hr := iteF hc52 hr
    refine W.skip ?_
    refine W.seq ?_
    refine W.region ?_
    refine WL.vS hS hE (runs_plain rfl) (Gives.loadBA hE 0 rfl rfl ty24) rfl ?_; clear hE a; intro a hE
    obtain ⟨q53, hq54, hr⟩ := bindS hr
    have hc_ := Plansolve_ok hS h0_0 hq54
    refine WL.fnq hE (hc_) (runs_plain rfl) bd43 rfl rfl rfl ?_
    clear hE hS hc_; rintro e w ⟨a55, c56, s59, rfl, hle60, h57, hz58, hS⟩; refine ⟨_, rfl, ?_⟩; clear a; intro a hE
    replace h0_0 := Sl.mono RPlanRule.mono hle60 h0_0
    refine WL.vS hS hE (runs_plain rfl) (Gives.p hE rfl) rfl ?_; clear hE a; intro a hE
    refine WL.nil ?_
    refine W.seq ?_
    refine W.seq ?_
    refine W.region ?_
    refine WL.vS hS hE (runs_plain rfl) (Gives.p hE rfl) rfl ?_; clear hE a; intro a hE
    refine WL.vS hS hE (runs_plain rfl) (Gives.isNilZ hE (isNone_eq h57 hz58) rfl rfl isl29) rfl ?_; clear hE a; intro a hE
    refine WL.nil ?_
    refine W.cond hE rfl (fun hc61 => ?_) (fun hc61 => ?_)
    · replace hr := iteT hc61 hr
      refine W.seq ?_
      refine W.region ?_
      refine WL.vS hS hE (runs_plain rfl) (Gives.p hE rfl) rfl ?_; clear hE a; intro a hE
      refine WL.vS hS hE (runs_plain rfl) (Gives.p hE rfl) rfl ?_; clear hE a; intro a hE
      refine WL.nil ?_
      refine W.ret ?_
      refine finG (fn := Try.f19) (rs := [.tmp 2, .tmp 3]) (vs := [_, _]) hE rfl ⟨rfl, rfl, trivial⟩ ?_
      obtain rfl := Option.some.inj hr
      replace hS := hS.tail
      exact ⟨none, 0, s59, rfl, hle60, Sl.nil, hS⟩
    · replace hr := iteF hc61 hr
      refine W.skip ?_
      refine W.seq ?_
      refine W.region ?_
      refine WL.vS hS hE (runs_plain rfl) (Gives.p hE rfl) rfl ?_; clear hE a; intro a hE
      refine WL.vS hS hE (runs_plain rfl) (Gives.p hE rfl) rfl ?_; clear hE a; intro a hE
      refine WL.vS hS hE (runs_plain rfl) (Gives.p hE rfl) rfl ?_; clear hE a; intro a hE
      refine WL.nil ?_
      refine W.ret ?_
      refine finG (fn := Try.f19) (rs := [.tmp 2, .tmp 3]) (vs := [_, _]) hE rfl ⟨rfl, rfl, trivial⟩ ?_
      obtain rfl := Option.some.inj hr
      replace hS := hS.tail
      exact ⟨a55, c56, s59, rfl, hle60, h57, hS⟩
set_option maxHeartbeats 8000000 in
theorem SlicesEqualLint_ok  {w : World} {s : Sg} {R : List HP} {x0 : List Int} {a0 : Option Addr} {c0 : Nat} {x1 : List Int} {a1 : Option Addr} {c1 : Nat} (hS : St w s (R)) (h0 : Sl 1 (RI .i64) s a0 c0 x0) (h1 : Sl 1 (RI .i64) s a1 c1 x1) {r : Bool} (hr : SlicesEqualLint x0 x1 = some r) :
    Calls Try.prog 21 [.slice a0 x0.length c0, .slice a1 x1.length c1].toArray w (fun e w => e = .returned (.bool r) ∧ St w s (R)) := by
  refine enter Try.func21 rfl rfl rfl fun a hE => ?_
  rw [SlicesEqualLint] at hr
  refine W.seq ?_
  refine W.region ?_
  refine WL.vS hS hE (runs_plain rfl) (Gives.p hE rfl) rfl ?_; clear hE a; intro a hE
  refine WL.nil ?_
  refine W.seq ?_
  refine W.seq ?_
  refine W.region ?_
  refine WL.vS hS hE (runs_plain rfl) (Gives.p hE rfl) rfl ?_; clear hE a; intro a hE
  refine WL.vS hS hE (runs_plain rfl) (Gives.len hE rfl sl29) rfl ?_; clear hE a; intro a hE
  refine WL.vS hS hE (runs_plain rfl) (Gives.p hE rfl) rfl ?_; clear hE a; intro a hE
  refine WL.vS hS hE (runs_plain rfl) (Gives.len hE rfl sl29) rfl ?_; clear hE a; intro a hE
  refine WL.vS hS hE (runs_plain rfl) (Gives.p hE rfl) rfl ?_; clear hE a; intro a hE
  refine WL.nil ?_
  refine W.cond hE rfl (fun hc51 => ?_) (fun hc51 => ?_)
  · replace hr := iteT hc51 hr
    refine W.seq ?_
    refine W.region ?_
    refine WL.vS hS hE (runs_plain rfl) (Gives.p hE rfl) rfl ?_; clear hE a; intro a hE
    refine WL.nil ?_
    refine W.ret ?_
    refine finG (fn := Try.f21) (rs := [.tmp 4]) (vs := [_]) hE rfl ⟨rfl, trivial⟩ ?_
    obtain rfl := Option.some.inj hr
    exact ⟨rfl, hS⟩
  · replace hr := iteF hc51 hr
    refine W.skip ?_
    refine W.seq ?_
    refine W.seq ?_
    refine W.region ?_
    refine WL.vS hS hE (runs_plain rfl) (Gives.p hE rfl) rfl ?_; clear hE a; intro a hE
    refine WL.vS hS hE (runs_plain rfl) (Gives.len hE rfl sl29) rfl ?_; clear hE a; intro a hE
    refine WL.vS hS hE (runs_plain rfl) (Gives.p hE rfl) rfl ?_; clear hE a; intro a hE
    refine WL.nil ?_
    obtain ⟨q53, hq52, hr⟩ := bindS hr
    refine W.cut (fun a w => (.next ()) = q53 ∧ Rep a 26 [] ∧ St w s (R)) ?_ ?_
    · refine W.block ?_
      refine W.loop (fun m a w => ∃ (rest56 : List Int) (k54 : Nat), rest56.length = m ∧ x0.drop k54 = rest56 ∧ SlicesEqualLint.loop1 x1 rest56 k54 = some q53 ∧ Rep a 26 [(0, .slice a0 x0.length c0), (1, .slice a1 x1.length c1), (12, .int .i64 ((x0).length : Int)), (13, .int .i64 ((k54 : Nat) : Int))] ∧ St w s (R)) (m := x0.length) ⟨x0, 0, rfl, rfl, hq52, hE.pick _ ⟨rfl, rfl, rfl, rfl, trivial⟩, hS⟩ ?_
      clear hE hS a w hq52; rintro m60 a w ⟨rest56, k54, rfl, hd57, hq52, hE, hS⟩
      refine W.gen fun K63 hK63 => ?_
      rcases rest56 with _ | ⟨x55, rest56⟩
      · have hlt58 := drop_nil hd57
        refine W.seq ?_
        refine W.region ?_
        refine WL.vS hS hE (runs_plain rfl) (Gives.p hE rfl) rfl ?_; clear hE a; intro a hE
        refine WL.nil ?_
        refine W.seq ?_
        refine W.condF hE rfl (decide_eq_false (by omega)) ?_
        subst hK63
        refine W.exit rfl ?_
        exact ⟨Option.some.inj hq52, hE.pick _ trivial, hS⟩
      · obtain ⟨hlt58, hx59, hd57⟩ := drop_cons hd57
        rw [SlicesEqualLint.loop1] at hq52
        refine W.seq ?_
        refine W.region ?_
        refine WL.vS hS hE (runs_plain rfl) (Gives.p hE rfl) rfl ?_; clear hE a; intro a hE
        refine WL.nil ?_
        refine W.seq ?_
        refine W.condT hE rfl (decide_eq_true (by omega)) ?_
        refine W.skip ?_
        refine W.seq ?_
        refine W.block ?_
        refine W.seq ?_
        refine W.region ?_
        refine WL.vS hS hE (runs_plain rfl) (Gives.p hE rfl) rfl ?_; clear hE a; intro a hE
        refine WL.vS hS hE (runs_plain rfl) (Gives.p hE rfl) rfl ?_; clear hE a; intro a hE
        refine WL.nil ?_
        refine W.seq ?_
        refine W.regionQ (C := fun w => St w s (R)) mixed (by kernel_rfl) hS.drew ?_
        refine QL.v hE (runs_plain rfl) (Gives.p hE rfl) rfl ?_; clear hE a; intro a hE
        refine QL.v hE (runs_plain rfl) (Gives.p hE rfl) rfl ?_; clear hE a; intro a hE
        obtain ⟨cs64, hl65, hR66, hat67⟩ := h0.at hx59
        subst hR66
        refine QL.v hE (runs_plain rfl) (Gives.idx hE k54 rfl rfl sl29 rfl hlt58 (h0.aok hlt58)) rfl ?_; clear hE a; intro a hE
        refine QL.v hE (runs_plain rfl) (Gives.load1 hE rfl (fun w h => hat67 w _ h) ty3) rfl ?_; clear hE a; intro a hE
        refine QL.v hE (runs_plain rfl) (Gives.p hE rfl) rfl ?_; clear hE a; intro a hE
        refine QL.v hE (runs_plain rfl) (Gives.p hE rfl) rfl ?_; clear hE a; intro a hE
        obtain ⟨x68, hx69, hq52⟩ := bindS hq52
        obtain ⟨hi70, hlt71, hy72⟩ := gx_some hx69
        obtain ⟨cs73, hl74, hR75, hat76⟩ := h1.at hy72
        subst hR75
        refine QL.v hE (runs_plain rfl) (Gives.idx hE (((k54 : Nat) : Int)).toNat rfl rfl sl29 hi70 hlt71 (h1.aok hlt71)) rfl ?_; clear hE a; intro a hE
        refine QL.v hE (runs_plain rfl) (Gives.load1 hE rfl (fun w h => hat76 w _ h) ty3) rfl ?_; clear hE a; intro a hE
        refine QL.v hE (runs_plain rfl) (Gives.p hE rfl) rfl ?_; clear hE a; intro a hE
        refine QL.nil ?_; clear hS w; intro w hS
        refine W.cond hE rfl (fun hc77 => ?_) (fun hc77 => ?_)
        · replace hq52 := iteT hc77 hq52
          refine W.seq ?_
          refine W.region ?_
          refine WL.vS hS hE (runs_plain rfl) (Gives.p hE rfl) rfl ?_; clear hE a; intro a hE
          refine WL.nil ?_
          refine W.ret ?_
          subst hK63
          rw [← Option.some.inj hq52] at hr
          dsimp only at hr
          refine finG (fn := Try.f21) (rs := [.tmp 4]) (vs := [_]) hE rfl ⟨rfl, trivial⟩ ?_
          obtain rfl := Option.some.inj hr
          exact ⟨rfl, hS⟩
        · replace hq52 := iteF hc77 hq52
          refine W.skip ?_
          refine W.region ?_
          refine WL.vS hS hE (runs_plain rfl) (Gives.inc hE rfl (by have := h0.small; omega)) rfl ?_; clear hE a; intro a hE
          refine WL.vS hS hE (runs_plain rfl) (Gives.p hE rfl) rfl ?_; clear hE a; intro a hE
          refine WL.nil ?_
          subst hK63
          exact ⟨rest56.length, Nat.lt_succ_self _, rest56, k54 + 1, rfl, hd57, hq52, hE.pick _ ⟨rfl, rfl, rfl, rfl, trivial⟩, hS⟩
    · clear hE hS a w; rintro a w ⟨rfl, hE, hS⟩
      dsimp only at hr
      refine W.seq ?_
      refine W.region ?_
      refine WL.vS hS hE (runs_plain rfl) (Gives.p hE rfl) rfl ?_; clear hE a; intro a hE
      refine WL.nil ?_
      refine W.ret ?_
      refine finG (fn := Try.f21) (rs := [.tmp 4]) (vs := [_]) hE rfl ⟨rfl, trivial⟩ ?_
      obtain rfl := Option.some.inj hr
      exact ⟨rfl, hS⟩
set_option maxHeartbeats 8000000 in
theorem Fishlaw2periods_ok {fu : Nat}  {w : World} {s : Sg} {R : List HP}  (hS : St w s (R))  {r : Bool} (hr : Fishlaw2periods fu = some r) :
    Calls Try.prog 9 [].toArray w (fun e w => e = .returned (.bool r) ∧ St w s (R)) := by
  refine enter Try.func9 rfl rfl rfl fun a hE => ?_
  rw [Fishlaw2periods] at hr
  refine W.seq ?_
  refine W.region ?_
  refine WL.vS hS hE (runs_plain rfl) (Gives.p hE rfl) rfl ?_; clear hE a; intro a hE
  refine WL.nil ?_
  refine W.seq ?_
  refine W.region ?_
  refine WL.vS hS hE (runs_plain rfl) (Gives.build hE (vs := [(0, .int .i64 0), (1, .int .i64 1), (2, .int .i64 10), (3, .int .i64 20)]) [.int .i64 0, .int .i64 1, .int .i64 10, .int .i64 20, .int .i64 0] rfl (by kernel_rfl)) rfl ?_; clear hE a; intro a hE
  refine WL.vS hS hE (runs_plain rfl) (Gives.build hE (vs := [(0, .int .i64 1), (1, .int .i64 2), (2, .int .i64 10), (3, .int .i64 20)]) [.int .i64 1, .int .i64 2, .int .i64 10, .int .i64 20, .int .i64 0] rfl (by kernel_rfl)) rfl ?_; clear hE a; intro a hE
  refine WL.vS hS hE (runs_plain rfl) (Gives.build hE (vs := [(0, .int .i64 2), (1, .int .i64 0), (2, .int .i64 10), (3, .int .i64 20)]) [.int .i64 2, .int .i64 0, .int .i64 10, .int .i64 20, .int .i64 0] rfl (by kernel_rfl)) rfl ?_; clear hE a; intro a hE
  refine WL.lit hE hS (e := 37) (es := 5) (vs := [(0, .agg [.int .i64 0, .int .i64 1, .int .i64 10, .int .i64 20, .int .i64 0].toArray), (1, .agg [.int .i64 1, .int .i64 2, .int .i64 10, .int .i64 20, .int .i64 0].toArray), (2, .agg [.int .i64 2, .int .i64 0, .int .i64 10, .int .i64 20, .int .i64 0].toArray)]) (cs := [.int .i64 0, .int .i64 1, .int .i64 10, .int .i64 20, .int .i64 0, .int .i64 1, .int .i64 2, .int .i64 10, .int .i64 20, .int .i64 0, .int .i64 2, .int .i64 0, .int .i64 10, .int .i64 20, .int .i64 0]) (runs_plain rfl) rfl (by kernel_rfl) rfl ?_; clear hE hS a w; intro b51 a w hE hS
  replace hS := hS.ptVec (es := 5) (m := 3) rfl (by decide)
  have h53 : Ev 5 RPlanRule s [.int .i64 0, .int .i64 1, .int .i64 10, .int .i64 20, .int .i64 0, .int .i64 1, .int .i64 2, .int .i64 10, .int .i64 20, .int .i64 0, .int .i64 2, .int .i64 0, .int .i64 10, .int .i64 20, .int .i64 0] [(PlanRule.mk 0 1 10 20 0), (PlanRule.mk 1 2 10 20 0), (PlanRule.mk 2 0 10 20 0)] := (Ev.cons (c1 := [.int .i64 0, .int .i64 1, .int .i64 10, .int .i64 20, .int .i64 0]) rfl rfl (Ev.cons (c1 := [.int .i64 1, .int .i64 2, .int .i64 10, .int .i64 20, .int .i64 0]) rfl rfl (Ev.cons (c1 := [.int .i64 2, .int .i64 0, .int .i64 10, .int .i64 20, .int .i64 0]) rfl rfl (Ev.nil))))
  have hF := hS.fixD RPlanRule.mono 0 rfl h53 (rfl); clear hS; obtain ⟨s54, hle55, hS, h56⟩ := hF
  refine WL.vS hS hE (runs_plain rfl) (Gives.build hE (vs := [(0, .int .i64 60), (1, .int .i64 3), (2, .slice (some ⟨b51, 0, none⟩) 3 3)]) [.int .i64 60, .int .i64 3, .slice (some ⟨b51, 0, none⟩) 3 3] rfl (by kernel_rfl)) rfl ?_; clear hE a; intro a hE
  refine WL.alloc hE hS (runs_plain rfl) zr24 rfl ?_; clear hE hS a w; intro b57 a w hE hS
  refine WL.storeI hE hS 0 rfl [.int .i64 60, .int .i64 3, .slice (some ⟨b51, 0, none⟩) 3 3] (runs_plain rfl) rfl rfl rfl ty24 rfl rfl rfl rfl ?_; clear hE hS a w; intro a w hE hS
  refine WL.nil ?_
  refine W.seq ?_
  refine W.region ?_
  refine WL.vS hS hE (runs_plain rfl) (Gives.loadBA hE 0 rfl rfl ty24) rfl ?_; clear hE a; intro a hE
  obtain ⟨q58, hq59, hr⟩ := bindS hr
  have hc_ := PlanSolve_ok hS h56 hq59
  refine WL.fnq hE (hc_) (runs_plain rfl) bd19 rfl rfl rfl ?_
  clear hE hS hc_; rintro e w ⟨a60, c61, s63, rfl, hle64, h62, hS⟩; refine ⟨_, rfl, ?_⟩; clear a; intro a hE
  replace h56 := Sl.mono RPlanRule.mono hle64 h56
  refine WL.vS hS hE (runs_plain rfl) (Gives.p hE rfl) rfl ?_; clear hE a; intro a hE
  refine WL.vS hS hE (runs_plain rfl) (Gives.p hE rfl) rfl ?_; clear hE a; intro a hE
  refine WL.vS hS hE (runs_plain rfl) (Gives.p hE rfl) rfl ?_; clear hE a; intro a hE
  refine WL.vS hS hE (runs_plain rfl) (Gives.p hE rfl) rfl ?_; clear hE a; intro a hE
  refine WL.vS hS hE (runs_plain rfl) (Gives.p hE rfl) rfl ?_; clear hE a; intro a hE
  refine WL.nil ?_
  refine W.seq ?_
  obtain ⟨q66, hq65, hr⟩ := bindS hr
  refine W.cut (fun a w => ∃ (q69 : Bool), ∃ (s67 : Sg), s63.Le s67 ∧ q69 = q66 ∧ Rep a 21 [(0, .bool q69)] ∧ St w s67 (pt b57 (.cells #[.int .i64 60, .int .i64 3, .slice (some ⟨b51, 0, none⟩) 3 3] 24 (0, 0)) :: R)) ?_ ?_
  · refine W.gen fun K70 hK70 => ?_
    refine W.region ?_
    refine WL.vS hS hE (runs_plain rfl) (Gives.p hE rfl) rfl ?_; clear hE a; intro a hE
    refine WL.vS hS hE (runs_plain rfl) (Gives.p hE rfl) rfl ?_; clear hE a; intro a hE
    refine WL.vS hS hE (runs_plain rfl) (Gives.p hE rfl) rfl ?_; clear hE a; intro a hE
    rcases Bool.eq_false_or_eq_true (q58.2 == 0) with hg71 | hg71
    · replace hq65 := iteT hg71 hq65
      refine WL.vS hS hE (runs_if hE rfl rfl rfl hg71) (Gives.p hE rfl) rfl ?_; clear hE a; intro a hE
      refine WL.lit hE hS (e := 3) (es := 1) (vs := [(0, .int .i64 0), (1, .int .i64 20), (2, .int .i64 40)]) (cs := [.int .i64 0, .int .i64 20, .int .i64 40]) (runs_if hE rfl rfl rfl hg71) rfl (by kernel_rfl) rfl ?_; clear hE hS a w; intro b72 a w hE hS
      replace hS := hS.ptVec (es := 1) (m := 3) rfl (by decide)
      have h74 : Ev 1 (RI .i64) s63 [.int .i64 0, .int .i64 20, .int .i64 40] [0, 20, 40] := (Ev.cons (c1 := [.int .i64 0]) rfl rfl (Ev.cons (c1 := [.int .i64 20]) rfl rfl (Ev.cons (c1 := [.int .i64 40]) rfl rfl (Ev.nil))))
      have hF := hS.fixD RI.mono 0 rfl h74 (rfl); clear hS; obtain ⟨s75, hle76, hS, h77⟩ := hF
      replace h56 := Sl.mono RPlanRule.mono hle76 h56
      replace h62 := Sl.mono RI.mono hle76 h62
      obtain ⟨q78, hq79, hq65⟩ := bindS hq65
      have hc_ := SlicesEqualLint_ok hS h62 h77 hq79
      refine WL.fnq hE (hc_) (runs_if hE rfl rfl rfl hg71) bd21 rfl rfl rfl ?_
      clear hE hS hc_; rintro e w ⟨rfl, hS⟩; refine ⟨_, rfl, ?_⟩; clear a; intro a hE
      refine WL.vS hS hE (runs_plain rfl) (Gives.pickT hE rfl hg71 rfl) rfl ?_; clear hE a; intro a hE
      refine WL.vS hS hE (runs_plain rfl) (Gives.p hE rfl) rfl ?_; clear hE a; intro a hE
      refine WL.nil ?_
      subst hK70
      exact ⟨q78, s75, hle76, Option.some.inj hq65, hE.pick _ ⟨rfl, trivial⟩, hS⟩
    · replace hq65 := iteF hg71 hq65
      refine WL.no hE (runs_not hE rfl rfl rfl (by rw [hg71]; decide)) rfl ?_; clear hE a; intro a hE
      refine WL.no hE (runs_not hE rfl rfl rfl (by rw [hg71]; decide)) rfl ?_; clear hE a; intro a hE
      refine WL.no hE (runs_not hE rfl rfl rfl (by rw [hg71]; decide)) rfl ?_; clear hE a; intro a hE
      refine WL.vS hS hE (runs_plain rfl) (Gives.pickF hE rfl hg71 rfl) rfl ?_; clear hE a; intro a hE
      refine WL.vS hS hE (runs_plain rfl) (Gives.p hE rfl) rfl ?_; clear hE a; intro a hE
      refine WL.nil ?_
      subst hK70
      exact ⟨false, s63, (Sg.Le.refl _), Option.some.inj hq65, hE.pick _ ⟨rfl, trivial⟩, hS⟩
  · clear hE hS a w; rintro a w ⟨q69, s67, hle68, rfl, hE, hS⟩
    replace h56 := Sl.mono RPlanRule.mono hle68 h56
    refine W.ret ?_
    refine finG (fn := Try.f9) (rs := [.tmp 0]) (vs := [_]) hE rfl ⟨rfl, trivial⟩ ?_
    obtain rfl := Option.some.inj hr
    replace hS := hS.tail
    exact ⟨rfl, (hS.down (Sg.Le.trans (Sg.Le.trans hle55 hle64) hle68))⟩
set_option maxHeartbeats 8000000 in
theorem SlicesRepeatLint_ok {fu : Nat}  {w : World} {s : Sg} {R : List HP} {x0 : List Int} {a0 : Option Addr} {c0 : Nat} {x1 : Int} (hS : St w s (R)) (h0 : Sl 1 (RI .i64) s a0 c0 x0) {r : (List Int)} (hr : SlicesRepeatLint fu x0 x1 = some r) :
    Calls Try.prog 67 [.slice a0 x0.length c0, .int .i64 x1].toArray w (fun e w => ∃ (a0 : Option Addr) (c0 n0 : Nat) (cs0 : List Value), e = .returned (.slice a0 n0 c0) ∧ Ev 1 (RI .i64) s cs0 r ∧ r.length = n0 ∧ St w s (vecC 3 1 a0 c0 n0 cs0 :: R)) := by
  refine enter Try.func67 rfl rfl rfl fun a hE => ?_
  rw [SlicesRepeatLint] at hr
  refine W.seq ?_
  refine W.region ?_
  refine WL.vS hS hE (runs_plain rfl) (Gives.p hE rfl) rfl ?_; clear hE a; intro a hE
  refine WL.nil ?_
  refine W.seq ?_
  refine W.seq ?_
  refine W.region ?_
  refine WL.vS hS hE (runs_plain rfl) (Gives.p hE rfl) rfl ?_; clear hE a; intro a hE
  refine WL.vS hS hE (runs_plain rfl) (Gives.p hE rfl) rfl ?_; clear hE a; intro a hE
  refine WL.nil ?_
  refine W.cond hE rfl (fun hc51 => ?_) (fun hc51 => ?_)
  · replace hr := iteT hc51 hr
    refine W.region ?_
    exact absurd hr (by simp)
  · replace hr := iteF hc51 hr
    refine W.skip ?_
    refine W.seq ?_
    refine W.region ?_
    refine WL.vS hS hE (runs_plain rfl) (Gives.p hE rfl) rfl ?_; clear hE a; intro a hE
    refine WL.vS hS hE (runs_plain rfl) (Gives.len hE rfl sl29) rfl ?_; clear hE a; intro a hE
    refine WL.vS hS hE (runs_plain rfl) (Gives.conv hE rfl hu3 ui110) rfl ?_; clear hE a; intro a hE
    refine WL.vS hS hE (runs_plain rfl) (Gives.p hE rfl) rfl ?_; clear hE a; intro a hE
    refine WL.vS hS hE (runs_plain rfl) (Gives.conv hE rfl hu3 ui110) rfl ?_; clear hE a; intro a hE
    obtain ⟨q52, hq53, hr⟩ := bndS hr
    have hc_ := MathBitsMul_ok hS  hq53
    refine WL.fnq hE (hc_) (runs_plain rfl) bd77 rfl rfl rfl ?_
    clear hE hS hc_; rintro e w ⟨rfl, hS⟩; refine ⟨_, rfl, ?_⟩; clear a; intro a hE
    refine WL.vS hS hE (runs_plain rfl) (Gives.p hE rfl) rfl ?_; clear hE a; intro a hE
    refine WL.vS hS hE (runs_plain rfl) (Gives.p hE rfl) rfl ?_; clear hE a; intro a hE
    refine WL.vS hS hE (runs_plain rfl) (Gives.p hE rfl) rfl ?_; clear hE a; intro a hE
    refine WL.vS hS hE (runs_plain rfl) (Gives.p hE rfl) rfl ?_; clear hE a; intro a hE
    refine WL.vS hS hE (runs_plain rfl) (Gives.p hE rfl) rfl ?_; clear hE a; intro a hE
    refine WL.nil ?_
    refine W.seq ?_
    refine W.seq ?_
    obtain ⟨q55, hq54, hr⟩ := bndS hr
    refine W.cut (fun a w => ∃ (q58 : Bool), q58 = q55 ∧ Rep a 48 [(0, .slice a0 x0.length c0), (6, .int .u64 q52.2), (26, .bool q58)] ∧ St w s (R)) ?_ ?_
    · refine W.gen fun K59 hK59 => ?_
      refine W.region ?_
      refine WL.vS hS hE (runs_plain rfl) (Gives.p hE rfl) rfl ?_; clear hE a; intro a hE
      refine WL.vS hS hE (runs_plain rfl) (Gives.p hE rfl) rfl ?_; clear hE a; intro a hE
      refine WL.vS hS hE (runs_plain rfl) (Gives.p hE rfl) rfl ?_; clear hE a; intro a hE
      rcases Bool.eq_false_or_eq_true (decide (q52.1 > 0)) with hg60 | hg60
      · replace hq54 := iteT hg60 hq54
        refine WL.no hE (runs_not hE rfl rfl rfl (by rw [hg60]; decide)) rfl ?_; clear hE a; intro a hE
        refine WL.no hE (runs_not hE rfl rfl rfl (by rw [hg60]; decide)) rfl ?_; clear hE a; intro a hE
        refine WL.vS hS hE (runs_plain rfl) (Gives.pickT hE rfl hg60 rfl) rfl ?_; clear hE a; intro a hE
        refine WL.nil ?_
        subst hK59
        exact ⟨true, hq54, hE.pick _ ⟨rfl, rfl, rfl, trivial⟩, hS⟩
      · replace hq54 := iteF hg60 hq54
        refine WL.vS hS hE (runs_if hE rfl rfl rfl hg60) (Gives.p hE rfl) rfl ?_; clear hE a; intro a hE
        refine WL.vS hS hE (runs_if hE rfl rfl rfl hg60) (Gives.p hE rfl) rfl ?_; clear hE a; intro a hE
        refine WL.vS hS hE (runs_plain rfl) (Gives.pickF hE rfl hg60 rfl) rfl ?_; clear hE a; intro a hE
        refine WL.nil ?_
        subst hK59
        exact ⟨decide (q52.2 > 9223372036854775807), hq54, hE.pick _ ⟨rfl, rfl, rfl, trivial⟩, hS⟩
    · clear hE hS a w; rintro a w ⟨q58, rfl, hE, hS⟩
      refine W.cond hE rfl (fun hc61 => ?_) (fun hc61 => ?_)
      · replace hr := iteT hc61 hr
        refine W.region ?_
        exact absurd hr (by simp)
      · replace hr := iteF hc61 hr
        refine W.skip ?_
        refine W.seq ?_
        refine W.region ?_
        refine WL.vS hS hE (runs_plain rfl) (Gives.p hE rfl) rfl ?_; clear hE a; intro a hE
        refine WL.vS hS hE (runs_plain rfl) (Gives.conv hE rfl hu110 ui3) rfl ?_; clear hE a; intro a hE
        obtain ⟨x62, hx63, hr⟩ := bindS hr
        refine WL.mkD (Rr := RI .i64) hE hS (runs_plain rfl) rfl rfl ap29 zr3 rfl hx63 rfl ?_; clear hE hS a w; intro b64 cs65 a w h66 hE hS
        refine WL.vS hS hE (runs_plain rfl) (Gives.p hE rfl) rfl ?_; clear hE a; intro a hE
        refine WL.nil ?_
        refine W.seq ?_
        refine W.region ?_
        refine WL.vS hS hE (runs_plain rfl) (Gives.p hE rfl) rfl ?_; clear hE a; intro a hE
        refine WL.vS hS hE (runs_plain rfl) (Gives.p hE rfl) rfl ?_; clear hE a; intro a hE
        obtain ⟨x68, hx69, hr⟩ := bndS hr
        refine WL.cpS hE hS 0 (runs_plain rfl) cp29 (by rw [sliced_zero]; rfl) rfl rfl (Nat.zero_le _) (Nat.le_refl _) h66 rfl RI.one h0 rfl rfl ?_; clear hE hS a w; intro cs70 a w h71 hE hS
        have hn72 : x68.length = x62.length := by rw [← hx69, cpl_length (Nat.zero_le _) (by omega)]; try rfl
        rw [hx69] at h71
        refine WL.vS hS hE (runs_plain rfl) (Gives.p hE rfl) rfl ?_; clear hE a; intro a hE
        refine WL.nil ?_
        refine W.seq ?_
        obtain ⟨q74, hq73, hr⟩ := bindS hr
        refine W.cut (fun a w => ∃ (q79 : Int), ∃ (q80 : List Int), ∃ (cs84 : List Value), (q79, q80) = q74 ∧ Ev 1 (RI .i64) s cs84 q80 ∧ q80.length = x62.length ∧ Rep a 48 [(7, .slice (some ⟨b64, 0, none⟩) x62.length x62.length)] ∧ St w s (vecC 3 1 (some ⟨b64, 0, none⟩) x62.length x62.length cs84 :: R)) ?_ ?_
        · refine W.block ?_
          refine W.loop (fun m a w => ∃ (n75 : Nat), ∃ (q79 : Int), ∃ (q80 : List Int), ∃ (cs84 : List Value), n75 = m ∧ SlicesRepeatLint.loop1 x62 n75 q79 q80 = some q74 ∧ Ev 1 (RI .i64) s cs84 q80 ∧ q80.length = x62.length ∧ Rep a 48 [(7, .slice (some ⟨b64, 0, none⟩) x62.length x62.length), (8, .int .i64 q79)] ∧ St w s (vecC 3 1 (some ⟨b64, 0, none⟩) x62.length x62.length cs84 :: R)) (m := fu) ⟨fu, ((min x0.length (x62.length - 0) : Nat) : Int), x68, cs70, rfl, hq73, h71, hn72, hE.pick _ ⟨rfl, rfl, trivial⟩, hS⟩ ?_
          clear hE hS a w hq73; rintro m76 a w ⟨n75, q79, q80, cs84, rfl, hq73, h83, hn85, hE, hS⟩
          refine W.gen fun K86 hK86 => ?_
          rcases n75 with _ | n75
          · rw [SlicesRepeatLint.loop1] at hq73; exact absurd hq73 (by simp)
          rw [SlicesRepeatLint.loop1] at hq73
          refine W.seq ?_
          refine W.seq ?_
          refine W.region ?_
          refine WL.vS hS hE (runs_plain rfl) (Gives.p hE rfl) rfl ?_; clear hE a; intro a hE
          refine WL.vS hS hE (runs_plain rfl) (Gives.p hE rfl) rfl ?_; clear hE a; intro a hE
          refine WL.vS hS hE (runs_plain rfl) (Gives.len hE rfl sl29) rfl ?_; clear hE a; intro a hE
          refine WL.vS hS hE (runs_plain rfl) (Gives.p hE rfl) rfl ?_; clear hE a; intro a hE
          refine WL.nil ?_
          refine W.cond hE rfl (fun hc87 => ?_) (fun hc87 => ?_)
          · replace hq73 := iteT hc87 hq73
            refine W.skip ?_
            refine W.block ?_
            refine W.gen fun K88 hK88 => ?_
            refine W.regionE (sel (fun w => St w s (R)) (fun w => St w s (R))) (fun b i => cond b ([0, 1, 2, 3, 4, 5, 6, 7, 8, 9].contains i) ([0, 1, 2, 3, 4, 5, 6, 7, 8, 9].contains i)) mixed ?_
            replace hS := hS.drew
            refine Rg.takeP (i := 0) hE rfl (by kernel_rfl) (runs_plain rfl) (Gives.p hE rfl) rfl (tw_sel (fun _ => (hS.tail)) (fun _ => (hS.tail))) ?_; clear hE a; intro a hE
            refine Rg.takeP (i := 1) hE rfl (by kernel_rfl) (runs_plain rfl) (Gives.p hE rfl) rfl (tw_sel (fun _ => (hS.tail)) (fun _ => (hS.tail))) ?_; clear hE a; intro a hE
            refine Rg.takeP (i := 2) hE rfl (by kernel_rfl) (runs_plain rfl) (Gives.p hE rfl) rfl (tw_sel (fun _ => (hS.tail)) (fun _ => (hS.tail))) ?_; clear hE a; intro a hE
            obtain ⟨x89, hx90, hq73⟩ := bindS hq73
            obtain ⟨h91, h92, h93, h94, h95, h96⟩ := cutl_some hx90
            have h97 := (hS.vecCap 0 rfl).1
            refine Rg.takeP (i := 3) hE rfl (by kernel_rfl) (runs_plain rfl) (Gives.slL hE sl29 rfl rfl h91 (by have := hn85; omega) rfl) rfl (tw_sel (fun _ => (hS.tail)) (fun _ => (hS.tail))) ?_; clear hE a; intro a hE
            refine Rg.takeP (i := 4) hE rfl (by kernel_rfl) (runs_plain rfl) (Gives.p hE rfl) rfl (tw_sel (fun _ => (hS.tail)) (fun _ => (hS.tail))) ?_; clear hE a; intro a hE
            refine Rg.takeP (i := 5) hE rfl (by kernel_rfl) (runs_plain rfl) (Gives.p hE rfl) rfl (tw_sel (fun _ => (hS.tail)) (fun _ => (hS.tail))) ?_; clear hE a; intro a hE
            obtain ⟨x98, hx99, hq73⟩ := bindS hq73
            obtain ⟨h100, h101, h102, h103, h104, h105⟩ := cutl_some hx99
            have h106 := (hS.vecCap 0 rfl).1
            refine Rg.takeP (i := 6) hE rfl (by kernel_rfl) (runs_plain rfl) (Gives.slH hE sl29 rfl rfl h101 (Int.le_trans h102 (by have := hn85; omega)) rfl) rfl (tw_sel (fun _ => (hS.tail)) (fun _ => (hS.tail))) ?_; clear hE a; intro a hE
            refine Rg.one (i := 7) true true rfl (by kernel_rfl) (by kernel_rfl) (by kernel_rfl) ?_
            obtain ⟨x107, hx108, hq73⟩ := bndS hq73
            refine WL.cpO (lo2 := 0) (hi2 := (q79).toNat) hE hS 0 (runs_plain rfl) cp29 rfl rfl rfl (by have := hn85; omega) (by have := hn85; omega) (by have := hn85; omega) (by have := hn85; omega) h83 hn85 (h83.allOne RI.one) rfl ?_; clear hE hS a w; intro cs109 a w h110 hE hS
            have hn111 : x107.length = x62.length := by rw [← hx108, cpl_length (by have := hn85; omega) (by have := hn85; omega)]; try exact hn85
            rw [hx108] at h110
            refine WL.nil ?_
            refine ⟨⟨fun _ => (hS.tail), fun _ => (hS.tail)⟩, ?_⟩
            refine Rg.takeP (i := 8) hE rfl (by kernel_rfl) (runs_plain rfl) (Gives.p hE rfl) rfl (tw_sel (fun _ => (hS.tail)) (fun _ => (hS.tail))) ?_; clear hE a; intro a hE
            refine Rg.takeP (i := 9) hE rfl (by kernel_rfl) (runs_plain rfl) (Gives.p hE rfl) rfl (tw_sel (fun _ => (hS.tail)) (fun _ => (hS.tail))) ?_; clear hE a; intro a hE
            refine Rg.done (by kernel_rfl) ?_
            subst hK88
            subst hK86
            exact ⟨n75, Nat.lt_succ_self _, n75, (w64 (q79 + ((min ((q80.take ((q79).toNat)).drop 0).length (x62.length - ((q79).toNat)) : Nat) : Int))), x107, cs109, rfl, hq73, h110, hn111, hE.pick _ ⟨rfl, rfl, trivial⟩, hS⟩
          · replace hq73 := iteF hc87 hq73
            subst hK86
            refine W.exit rfl ?_
            exact ⟨q79, q80, cs84, Option.some.inj hq73, h83, hn85, hE.pick _ ⟨rfl, trivial⟩, hS⟩
        · clear hE hS a w; rintro a w ⟨q79, q80, cs84, rfl, h83, hn85, hE, hS⟩
          dsimp only at hr
          refine W.seq ?_
          refine W.region ?_
          refine WL.vS hS hE (runs_plain rfl) (Gives.p hE rfl) rfl ?_; clear hE a; intro a hE
          refine WL.vS hS hE (runs_plain rfl) (Gives.p hE rfl) rfl ?_; clear hE a; intro a hE
          refine WL.nil ?_
          refine W.ret ?_
          refine finG (fn := Try.f67) (rs := [.tmp 4]) (vs := [_]) hE rfl ⟨rfl, trivial⟩ ?_
          obtain rfl := Option.some.inj hr
          exact ⟨(some ⟨b64, 0, none⟩), x62.length, x62.length, cs84, rfl, h83, hn85, hS⟩
set_option maxHeartbeats 8000000 in
theorem Fishref2free_ok {fu : Nat}  {w : World} {s : Sg} {R : List HP} {x0 : PlanPeriodic} {a0_0 : Option Addr} {c0_0 : Nat} (hS : St w s (R)) (h0_0 : Sl 5 RPlanRule s a0_0 c0_0 x0.Rules) {r : (List (List Int))} (hr : Fishref2free fu x0 = some r) :
    Calls Try.prog 55 [.agg [.int .i64 x0.Period, .int .i64 x0.Events, .slice a0_0 x0.Rules.length c0_0].toArray].toArray w (fun e w => ∃ (a0 : Option Addr) (c0 : Nat) (t : Sg), e = .returned (.slice a0 r.length c0) ∧ s.Le t ∧ Sl 1 (RL 1 (RI .i64)) t a0 c0 r ∧ St w t (R)) := by
  refine enter Try.func55 rfl rfl rfl fun a hE => ?_
  rw [Fishref2free] at hr
  refine W.seq ?_
  refine W.region ?_
  refine WL.box hE hS (runs_plain rfl) rfl rfl rfl ?_; clear hE hS a w; intro b51 a w hE hS
  refine WL.vS hS hE (runs_plain rfl) (Gives.p hE rfl) rfl ?_; clear hE a; intro a hE
  refine WL.nil ?_
  refine W.seq ?_
  refine W.region ?_
  refine WL.vS hS hE (runs_plain rfl) (Gives.fld hE rfl fl24_1) rfl ?_; clear hE a; intro a hE
  refine WL.vS hS hE (runs_plain rfl) (Gives.loadB hE 0 rfl rfl rfl ty3) rfl ?_; clear hE a; intro a hE
  obtain ⟨x52, hx53, hr⟩ := bindS hr
  refine WL.mkND (Rr := RI .i64) (Ti := 3) (es := 1) hE hS (runs_plain rfl) rfl rfl ap87 zr29 hx53 rfl ?_; clear hE hS a w; intro b54 ds55 a w h56 hE hS
  refine WL.vS hS hE (runs_plain rfl) (Gives.p hE rfl) rfl ?_; clear hE a; intro a hE
  refine WL.nil ?_
  refine W.seq ?_
  refine W.seq ?_
  refine W.region ?_
  refine WL.vS hS hE (runs_plain rfl) (Gives.p hE rfl) rfl ?_; clear hE a; intro a hE
  refine WL.vS hS hE (runs_plain rfl) (Gives.len hE rfl sl87) rfl ?_; clear hE a; intro a hE
  refine WL.vS hS hE (runs_plain rfl) (Gives.p hE rfl) rfl ?_; clear hE a; intro a hE
  refine WL.nil ?_
  have hb69 : x52.length ≤ 9223372036854775807 := by have := hS.nCap 0 rfl; unfold maxLen at this; omega
  obtain ⟨q59, hq58, hr⟩ := bindS hr
  refine W.cut (fun a w => ∃ (q70 : List (List Int)), ∃ (ds74 : List In), ∃ (s67 : Sg), s.Le s67 ∧ q70 = q59 ∧ NEv 1 (RI .i64) s67 ds74 q70 ∧ q70.length = x52.length ∧ Rep a 31 [(3, .slice (some ⟨b54, 0, none⟩) x52.length x52.length)] ∧ St w s67 (nestC 29 3 1 (some ⟨b54, 0, none⟩) x52.length x52.length ds74 :: pt b51 (.cells #[.int .i64 x0.Period, .int .i64 x0.Events, .slice a0_0 x0.Rules.length c0_0] 24 (0, 0)) :: R)) ?_ ?_
  · refine W.block ?_
    refine W.loop (fun m a w => ∃ (rest62 : Nat) (k60 : Nat), ∃ (q70 : List (List Int)), ∃ (ds74 : List In), ∃ (s67 : Sg), rest62 = m ∧ k60 + rest62 = x52.length ∧ s.Le s67 ∧ Fishref2free.loop1 x0 fu rest62 k60 q70 = some q59 ∧ NEv 1 (RI .i64) s67 ds74 q70 ∧ q70.length = x52.length ∧ Rep a 31 [(1, .pointer (some ⟨b51, 0, none⟩)), (3, .slice (some ⟨b54, 0, none⟩) x52.length x52.length), (9, .int .i64 ((x52.length : Nat) : Int)), (10, .int .i64 ((k60 : Nat) : Int))] ∧ St w s67 (nestC 29 3 1 (some ⟨b54, 0, none⟩) x52.length x52.length ds74 :: pt b51 (.cells #[.int .i64 x0.Period, .int .i64 x0.Events, .slice a0_0 x0.Rules.length c0_0] 24 (0, 0)) :: R)) (m := x52.length) ⟨x52.length, 0, x52, ds55, s, rfl, by omega, (Sg.Le.refl _), hq58, h56, (rfl), hE.pick _ ⟨rfl, rfl, rfl, rfl, trivial⟩, hS⟩ ?_
    clear hE hS a w hq58; rintro m66 a w ⟨rest62, k60, q70, ds74, s67, rfl, hd63, hle68, hq58, h75, hn76, hE, hS⟩
    refine W.gen fun K77 hK77 => ?_
    replace h0_0 := Sl.mono RPlanRule.mono hle68 h0_0
    replace h56 := NEv.mono RI.mono hle68 h56
    rcases rest62 with _ | rest62
    · skip
      refine W.seq ?_
      refine W.region ?_
      refine WL.vS hS hE (runs_plain rfl) (Gives.p hE rfl) rfl ?_; clear hE a; intro a hE
      refine WL.nil ?_
      refine W.seq ?_
      refine W.condF hE rfl (decide_eq_false (by omega)) ?_
      subst hK77
      refine W.exit rfl ?_
      exact ⟨q70, ds74, s67, hle68, Option.some.inj hq58, h75, hn76, hE.pick _ ⟨rfl, trivial⟩, hS⟩
    · have hlt64 : k60 < x52.length := by omega
      rw [Fishref2free.loop1] at hq58
      refine W.seq ?_
      refine W.region ?_
      refine WL.vS hS hE (runs_plain rfl) (Gives.p hE rfl) rfl ?_; clear hE a; intro a hE
      refine WL.nil ?_
      refine W.seq ?_
      refine W.condT hE rfl (decide_eq_true (by omega)) ?_
      refine W.skip ?_
      refine W.seq ?_
      refine W.block ?_
      refine W.seq ?_
      refine W.region ?_
      refine WL.vS hS hE (runs_plain rfl) (Gives.p hE rfl) rfl ?_; clear hE a; intro a hE
      refine WL.vS hS hE (runs_plain rfl) (Gives.p hE rfl) rfl ?_; clear hE a; intro a hE
      refine WL.nil ?_
      refine W.seq ?_
      refine W.region ?_
      refine WL.vS hS hE (runs_plain rfl) (Gives.p hE rfl) rfl ?_; clear hE a; intro a hE
      refine WL.vS hS hE (runs_plain rfl) (Gives.p hE rfl) rfl ?_; clear hE a; intro a hE
      refine WL.vS hS hE (runs_plain rfl) (Gives.fld hE rfl fl24_0) rfl ?_; clear hE a; intro a hE
      refine WL.vS hS hE (runs_plain rfl) (Gives.loadB hE 1 rfl rfl rfl ty3) rfl ?_; clear hE a; intro a hE
      refine WL.vS hS hE (runs_plain rfl) (Gives.p hE rfl) rfl ?_; clear hE a; intro a hE
      refine WL.lit hE hS (e := 3) (es := 1) (vs := [(0, .int .i64 (w64 (x0.Period - 1)))]) (cs := [.int .i64 (w64 (x0.Period - 1))]) (runs_plain rfl) rfl (by kernel_rfl) rfl ?_; clear hE hS a w; intro b78 a w hE hS
      replace hS := hS.ptVec (es := 1) (m := 1) rfl (by decide)
      have h80 : Ev 1 (RI .i64) s67 [.int .i64 (w64 (x0.Period - 1))] [w64 (x0.Period - 1)] := (Ev.cons (c1 := [.int .i64 (w64 (x0.Period - 1))]) rfl rfl (Ev.nil))
      have hF := hS.fixD RI.mono 0 rfl h80 (rfl); clear hS; obtain ⟨s81, hle82, hS, h83⟩ := hF
      replace h75 := NEv.mono RI.mono hle82 h75
      replace h0_0 := Sl.mono RPlanRule.mono hle82 h0_0
      refine WL.vS hS hE (runs_plain rfl) (Gives.fld hE rfl fl24_1) rfl ?_; clear hE a; intro a hE
      refine WL.vS hS hE (runs_plain rfl) (Gives.loadB hE 1 rfl rfl rfl ty3) rfl ?_; clear hE a; intro a hE
      obtain ⟨q84, hq85, hq58⟩ := bindS hq58
      have hc_ := SlicesRepeatLint_ok hS h83 hq85
      refine WL.fnq hE (hc_) (runs_plain rfl) bd67 rfl rfl rfl ?_
      clear hE hS hc_; rintro e w ⟨a86, c87, n88, cs89, rfl, h90, rfl, hS⟩; refine ⟨_, rfl, ?_⟩; clear a; intro a hE
      obtain ⟨_, hx92, hq58⟩ := bindS hq58
      obtain ⟨h93, h94⟩ := ix_some hx92
      refine WL.vS hS hE (runs_plain rfl) (Gives.idx hE ((((k60 : Nat) : Int)).toNat) rfl rfl sl87 h93 (by have := hn76; omega) (hS.nAok 1 rfl (by have := hn76; omega : (((k60 : Nat) : Int)).toNat < x52.length))) rfl ?_; clear hE a; intro a hE
      obtain ⟨d95, hd96⟩ : ∃ d, ds74[(((k60 : Nat) : Int)).toNat]? = some d := ⟨_, List.getElem?_eq_getElem (by have h1 := h75.len; have h2 := hn76; omega)⟩
      replace hS := (hS.borrow 1 rfl hd96).tail
      obtain ⟨x97, hx98, hq58⟩ := bindS hq58
      refine WL.storeND hE hS 0 rfl (runs_plain rfl) rfl rfl ty29 h75 hn76 (by have := (sx_some hx98).1; omega) hx98 h90 rfl rfl ?_; clear hE hS a w; intro ds99 a w h100 hn101 hE hS
      refine WL.nil ?_
      refine W.region ?_
      refine WL.vS hS hE (runs_plain rfl) (Gives.p hE rfl) rfl ?_; clear hE a; intro a hE
      refine WL.vS hS hE (runs_plain rfl) (Gives.p hE rfl) rfl ?_; clear hE a; intro a hE
      obtain ⟨x102, hx103, hq58⟩ := bindS hq58
      obtain ⟨hi104, hlt105, hy106⟩ := gx_some hx103
      obtain ⟨a107, c108, cs109, hd110, hev111⟩ := h100.at hy106
      refine WL.vS hS hE (runs_plain rfl) (Gives.idx hE ((((k60 : Nat) : Int)).toNat) rfl rfl sl87 hi104 (by have := hn101; omega) (hS.nAok 0 rfl (by have := hn101; omega : (((k60 : Nat) : Int)).toNat < x52.length))) rfl ?_; clear hE a; intro a hE
      refine WL.vS hS hE (runs_plain rfl) (Gives.load1 (v := .slice a107 x102.length c108) hE rfl (fun w h => St.nSees h 0 rfl hd110) ty29) rfl ?_; clear hE a; intro a hE
      refine WL.vS hS hE (runs_plain rfl) (Gives.p hE rfl) rfl ?_; clear hE a; intro a hE
      replace hS := hS.borrowM 0 rfl hd110
      obtain ⟨_, hx114, hq58⟩ := bindS hq58
      obtain ⟨h115, h116⟩ := ix_some hx114
      refine WL.vS hS hE (runs_plain rfl) (Gives.idx hE ((((k60 : Nat) : Int)).toNat) rfl rfl sl29 h115 (by omega) (hS.vecAok 0 rfl (by omega : (((k60 : Nat) : Int)).toNat < x102.length))) rfl ?_; clear hE a; intro a hE
      obtain ⟨x118, hx119, hq58⟩ := bindS hq58
      refine WL.setD hE hS 0 rfl (runs_plain rfl) rfl rfl (vs := [.int .i64 0]) rfl ty3 rfl rfl rfl hev111 (rfl) (sx_some hx119).1 hx119 rfl rfl ?_; clear hE hS a w; intro cs120 a w h121 hn122 hE hS
      refine WL.nil ?_
      refine W.region ?_
      refine WL.vS hS hE (runs_plain rfl) (Gives.inc hE rfl (by omega)) rfl ?_; clear hE a; intro a hE
      refine WL.vS hS hE (runs_plain rfl) (Gives.p hE rfl) rfl ?_; clear hE a; intro a hE
      refine WL.nil ?_
      replace hS := hS.giveBack 0 rfl hd110
      have h124 := h100.set (k := (((k60 : Nat) : Int)).toNat) (d := ⟨a107, c108, x102.length, cs120⟩) h121 hn122
      have hn125 : (x97.set ((((k60 : Nat) : Int)).toNat) x118).length = x52.length := by simp; exact hn101
      generalize List.set ds99 ((((k60 : Nat) : Int)).toNat) _ = ds123 at hS h124
      subst hK77
      exact ⟨rest62, Nat.lt_succ_self _, rest62, k60 + 1, (x97.set ((((k60 : Nat) : Int)).toNat) x118), ds123, s81, rfl, (by omega), (Sg.Le.trans hle68 hle82), hq58, h124, hn125, hE.pick _ ⟨rfl, rfl, rfl, rfl, trivial⟩, hS⟩
  · clear hE hS a w; rintro a w ⟨q70, ds74, s67, hle68, rfl, h75, hn76, hE, hS⟩
    replace h0_0 := Sl.mono RPlanRule.mono hle68 h0_0
    replace h56 := NEv.mono RI.mono hle68 h56
    refine W.seq ?_
    refine W.region ?_
    refine WL.vS hS hE (runs_plain rfl) (Gives.p hE rfl) rfl ?_; clear hE a; intro a hE
    refine WL.vS hS hE (runs_plain rfl) (Gives.p hE rfl) rfl ?_; clear hE a; intro a hE
    refine WL.nil ?_
    refine W.ret ?_
    have hF := hS.fixN RI.mono 0 rfl h75 hn76; clear hS; obtain ⟨s126, hle127, hS, h128⟩ := hF
    (try rw [← hn76] at hE)
    (try rw [← hn76] at hS)
    (try rw [← hn76] at h128)
    replace h0_0 := Sl.mono RPlanRule.mono hle127 h0_0
    refine finG (fn := Try.f55) (rs := [.tmp 2]) (vs := [_]) hE rfl ⟨rfl, trivial⟩ ?_
    obtain rfl := Option.some.inj hr
    replace hS := hS.tail
    exact ⟨(some ⟨b54, 0, none⟩), q70.length, s126, rfl, (Sg.Le.trans hle68 hle127), h128, hS⟩
set_option maxHeartbeats 8000000 in
theorem SlicesCloneLint_ok  {w : World} {s : Sg} {R : List HP} {x0 : List Int} {a0 : Option Addr} {c0 : Nat} (hS : St w s (R)) (h0 : Sl 1 (RI .i64) s a0 c0 x0) {r : (List Int)} (hr : SlicesCloneLint x0 = some r) :
    Calls Try.prog 60 [.slice a0 x0.length c0].toArray w (fun e w => ∃ (a0 : Option Addr) (c0 n0 : Nat) (cs0 : List Value), e = .returned (.slice a0 n0 c0) ∧ Ev 1 (RI .i64) s cs0 r ∧ r.length = n0 ∧ St w s (vecC 3 1 a0 c0 n0 cs0 :: R)) := by
  refine enter Try.func60 rfl rfl rfl fun a hE => ?_
  rw [SlicesCloneLint] at hr
  refine W.seq ?_
  refine W.region ?_
  refine WL.vS hS hE (runs_plain rfl) (Gives.p hE rfl) rfl ?_; clear hE a; intro a hE
  refine WL.nil ?_
  refine W.seq ?_
  refine W.seq ?_
  refine W.region ?_
  refine WL.vS hS hE (runs_plain rfl) (Gives.p hE rfl) rfl ?_; clear hE a; intro a hE
  refine WL.vS hS hE (runs_plain rfl) (Gives.isNil hE rfl rfl isl29) rfl ?_; clear hE a; intro a hE
  refine WL.nil ?_
  rcases a0 with _ | g51
  · obtain rfl := h0.none_nil
    replace hr : some [] = _ := hr
    refine W.condT hE rfl rfl ?_
    refine W.seq ?_
    refine W.region ?_
    refine WL.vS hS hE (runs_plain rfl) (Gives.p hE rfl) rfl ?_; clear hE a; intro a hE
    refine WL.nil ?_
    refine W.ret ?_
    replace hS := hS.vecNil 3 1
    refine finG (fn := Try.f60) (rs := [.tmp 2]) (vs := [_]) hE rfl ⟨rfl, trivial⟩ ?_
    obtain rfl := Option.some.inj hr
    exact ⟨none, 0, 0, [], rfl, (Ev.nil), (rfl), hS⟩
  · skip
    refine W.condF hE rfl rfl ?_
    refine W.skip ?_
    refine W.seq ?_
    refine W.region ?_
    refine WL.lit hE hS (e := 3) (es := 1) (vs := []) (cs := []) (runs_plain rfl) rfl (by kernel_rfl) rfl ?_; clear hE hS a w; intro b53 a w hE hS
    replace hS := hS.ptVec (es := 1) (m := 0) rfl (by decide)
    have h55 : Ev 1 (RI .i64) s [] [] := (Ev.nil)
    refine WL.vS hS hE (runs_plain rfl) (Gives.p hE rfl) rfl ?_; clear hE a; intro a hE
    obtain ⟨x56, hx57, hr⟩ := bindS hr
    refine WL.appS hE hS 0 (runs_plain rfl) rfl rfl (xs := x0) rfl rfl ap29 RI.one h55 (rfl) h0 hx57 rfl ?_; clear hE hS a w; intro a58 c59 cs60 a w h61 hE hS
    refine WL.vS hS hE (runs_plain rfl) (Gives.p hE rfl) rfl ?_; clear hE a; intro a hE
    refine WL.nil ?_
    refine W.ret ?_
    refine finG (fn := Try.f60) (rs := [.tmp 2]) (vs := [_]) hE rfl ⟨rfl, trivial⟩ ?_
    obtain rfl := Option.some.inj hr
    exact ⟨a58, c59, x56.length, cs60, rfl, h61, (rfl), hS⟩
set_option maxHeartbeats 8000000 in
theorem Fishref2Boundstighter_ok  {w : World} {s : Sg} {R : List HP} {x0 : List (List Int)} {a0 : Option Addr} {c0 : Nat} {x1 : Int} {x2 : Int} {x3 : Int} (hS : St w s (R)) (h0 : Sl 1 (RL 1 (RI .i64)) s a0 c0 x0) {r : (List (List Int)) × Bool} (hr : Fishref2Boundstighter x0 x1 x2 x3 = some r) :
    Calls Try.prog 56 [.slice a0 x0.length c0, .int .i64 x1, .int .i64 x2, .int .i64 x3].toArray w (fun e w => ∃ (a0 : Option Addr) (c0 : Nat) (t : Sg), e = .returned (.tuple #[.slice a0 r.1.length c0, .bool r.2]) ∧ s.Le t ∧ Sl 1 (RL 1 (RI .i64)) t a0 c0 r.1 ∧ St w t (R)) := by
  refine enter Try.func56 rfl rfl rfl fun a hE => ?_
  rw [Fishref2Boundstighter] at hr
  refine W.seq ?_
  refine W.region ?_
  refine WL.vS hS hE (runs_plain rfl) (Gives.p hE rfl) rfl ?_; clear hE a; intro a hE
  refine WL.vS hS hE (runs_plain rfl) (Gives.p hE rfl) rfl ?_; clear hE a; intro a hE
  refine WL.nil ?_
  refine W.seq ?_
  refine W.seq ?_
  refine W.region ?_
  refine WL.vS hS hE (runs_plain rfl) (Gives.p hE rfl) rfl ?_; clear hE a; intro a hE
  refine WL.vS hS hE (runs_plain rfl) (Gives.p hE rfl) rfl ?_; clear hE a; intro a hE
  refine WL.vS hS hE (runs_plain rfl) (Gives.p hE rfl) rfl ?_; clear hE a; intro a hE
  obtain ⟨x51, hx52, hr⟩ := bindS hr
  obtain ⟨hi53, hlt54, hy55⟩ := gx_some hx52
  obtain ⟨cs56, hl57, hR58, hat59⟩ := h0.at hy55
  obtain ⟨a60, c61, rfl, h62⟩ := hR58
  refine WL.vS hS hE (runs_plain rfl) (Gives.idx hE (x1).toNat rfl rfl sl87 hi53 hlt54 (h0.aok hlt54)) rfl ?_; clear hE a; intro a hE
  refine WL.vS hS hE (runs_plain rfl) (Gives.load1 hE rfl (fun w h => hat59 w _ h) ty29) rfl ?_; clear hE a; intro a hE
  refine WL.vS hS hE (runs_plain rfl) (Gives.p hE rfl) rfl ?_; clear hE a; intro a hE
  obtain ⟨x63, hx64, hr⟩ := bindS hr
  obtain ⟨hi65, hlt66, hy67⟩ := gx_some hx64
  obtain ⟨cs68, hl69, hR70, hat71⟩ := h62.at hy67
  subst hR70
  refine WL.vS hS hE (runs_plain rfl) (Gives.idx hE (x2).toNat rfl rfl sl29 hi65 hlt66 (h62.aok hlt66)) rfl ?_; clear hE a; intro a hE
  refine WL.vS hS hE (runs_plain rfl) (Gives.load1 hE rfl (fun w h => hat71 w _ h) ty3) rfl ?_; clear hE a; intro a hE
  refine WL.vS hS hE (runs_plain rfl) (Gives.p hE rfl) rfl ?_; clear hE a; intro a hE
  refine WL.nil ?_
  refine W.cond hE rfl (fun hc72 => ?_) (fun hc72 => ?_)
  · replace hr := iteT hc72 hr
    refine W.seq ?_
    refine W.region ?_
    refine WL.vS hS hE (runs_plain rfl) (Gives.p hE rfl) rfl ?_; clear hE a; intro a hE
    refine WL.vS hS hE (runs_plain rfl) (Gives.p hE rfl) rfl ?_; clear hE a; intro a hE
    refine WL.vS hS hE (runs_plain rfl) (Gives.p hE rfl) rfl ?_; clear hE a; intro a hE
    refine WL.nil ?_
    refine W.ret ?_
    refine finG (fn := Try.f56) (rs := [.tmp 8, .tmp 9]) (vs := [_, _]) hE rfl ⟨rfl, rfl, trivial⟩ ?_
    obtain rfl := Option.some.inj hr
    exact ⟨a0, c0, s, rfl, (Sg.Le.refl _), h0, hS⟩
  · replace hr := iteF hc72 hr
    refine W.skip ?_
    refine W.seq ?_
    refine W.seq ?_
    refine W.region ?_
    refine WL.vS hS hE (runs_plain rfl) (Gives.p hE rfl) rfl ?_; clear hE a; intro a hE
    refine WL.vS hS hE (runs_plain rfl) (Gives.p hE rfl) rfl ?_; clear hE a; intro a hE
    refine WL.vS hS hE (runs_plain rfl) (Gives.p hE rfl) rfl ?_; clear hE a; intro a hE
    obtain ⟨x73, hx74, hr⟩ := bindS hr
    obtain ⟨hi75, hlt76, hy77⟩ := gx_some hx74
    obtain ⟨cs78, hl79, hR80, hat81⟩ := h0.at hy77
    obtain ⟨a82, c83, rfl, h84⟩ := hR80
    refine WL.vS hS hE (runs_plain rfl) (Gives.idx hE (x2).toNat rfl rfl sl87 hi75 hlt76 (h0.aok hlt76)) rfl ?_; clear hE a; intro a hE
    refine WL.vS hS hE (runs_plain rfl) (Gives.load1 hE rfl (fun w h => hat81 w _ h) ty29) rfl ?_; clear hE a; intro a hE
    refine WL.vS hS hE (runs_plain rfl) (Gives.p hE rfl) rfl ?_; clear hE a; intro a hE
    obtain ⟨x85, hx86, hr⟩ := bindS hr
    obtain ⟨hi87, hlt88, hy89⟩ := gx_some hx86
    obtain ⟨cs90, hl91, hR92, hat93⟩ := h84.at hy89
    subst hR92
    refine WL.vS hS hE (runs_plain rfl) (Gives.idx hE (x1).toNat rfl rfl sl29 hi87 hlt88 (h84.aok hlt88)) rfl ?_; clear hE a; intro a hE
    refine WL.vS hS hE (runs_plain rfl) (Gives.load1 hE rfl (fun w h => hat93 w _ h) ty3) rfl ?_; clear hE a; intro a hE
    refine WL.vS hS hE (runs_plain rfl) (Gives.p hE rfl) rfl ?_; clear hE a; intro a hE
    refine WL.vS hS hE (runs_plain rfl) (Gives.p hE rfl) rfl ?_; clear hE a; intro a hE
    refine WL.nil ?_
    refine W.cond hE rfl (fun hc94 => ?_) (fun hc94 => ?_)
    · replace hr := iteT hc94 hr
      refine W.seq ?_
      refine W.region ?_
      refine WL.vS hS hE (runs_plain rfl) (Gives.p hE rfl) rfl ?_; clear hE a; intro a hE
      refine WL.vS hS hE (runs_plain rfl) (Gives.p hE rfl) rfl ?_; clear hE a; intro a hE
      refine WL.nil ?_
      refine W.ret ?_
      refine finG (fn := Try.f56) (rs := [.tmp 8, .tmp 9]) (vs := [_, _]) hE rfl ⟨rfl, rfl, trivial⟩ ?_
      obtain rfl := Option.some.inj hr
      exact ⟨none, 0, s, rfl, (Sg.Le.refl _), Sl.nil, hS⟩
    · replace hr := iteF hc94 hr
      refine W.skip ?_
      refine W.seq ?_
      refine W.region ?_
      refine WL.vS hS hE (runs_plain rfl) (Gives.p hE rfl) rfl ?_; clear hE a; intro a hE
      refine WL.vS hS hE (runs_plain rfl) (Gives.len hE rfl sl87) rfl ?_; clear hE a; intro a hE
      obtain ⟨x95, hx96, hr⟩ := bindS hr
      refine WL.mkND (Rr := RI .i64) (Ti := 3) (es := 1) hE hS (runs_plain rfl) rfl rfl ap87 zr29 hx96 rfl ?_; clear hE hS a w; intro b97 ds98 a w h99 hE hS
      refine WL.vS hS hE (runs_plain rfl) (Gives.p hE rfl) rfl ?_; clear hE a; intro a hE
      refine WL.nil ?_
      refine W.seq ?_
      refine W.seq ?_
      refine W.region ?_
      refine WL.vS hS hE (runs_plain rfl) (Gives.p hE rfl) rfl ?_; clear hE a; intro a hE
      refine WL.vS hS hE (runs_plain rfl) (Gives.len hE rfl sl87) rfl ?_; clear hE a; intro a hE
      refine WL.vS hS hE (runs_plain rfl) (Gives.p hE rfl) rfl ?_; clear hE a; intro a hE
      refine WL.nil ?_
      obtain ⟨q102, hq101, hr⟩ := bindS hr
      refine W.cut (fun a w => ∃ (q112 : List (List Int)), ∃ (ds116 : List In), q112 = q102 ∧ NEv 1 (RI .i64) s ds116 q112 ∧ q112.length = x95.length ∧ Rep a 88 [(10, .slice (some ⟨b97, 0, none⟩) x95.length x95.length)] ∧ St w s (nestC 29 3 1 (some ⟨b97, 0, none⟩) x95.length x95.length ds116 :: R)) ?_ ?_
      · refine W.block ?_
        refine W.loop (fun m a w => ∃ (rest105 : List (List Int)) (k103 : Nat), ∃ (q112 : List (List Int)), ∃ (ds116 : List In), rest105.length = m ∧ x0.drop k103 = rest105 ∧ Fishref2Boundstighter.loop1 x0 x1 x2 x3 rest105 k103 q112 = some q102 ∧ NEv 1 (RI .i64) s ds116 q112 ∧ q112.length = x95.length ∧ Rep a 88 [(0, .slice a0 x0.length c0), (1, .int .i64 x1), (2, .int .i64 x2), (3, .int .i64 x3), (10, .slice (some ⟨b97, 0, none⟩) x95.length x95.length), (37, .int .i64 ((x0).length : Int)), (38, .int .i64 ((k103 : Nat) : Int))] ∧ St w s (nestC 29 3 1 (some ⟨b97, 0, none⟩) x95.length x95.length ds116 :: R)) (m := x0.length) ⟨x0, 0, x95, ds98, rfl, rfl, hq101, h99, (rfl), hE.pick _ ⟨rfl, rfl, rfl, rfl, rfl, rfl, rfl, trivial⟩, hS⟩ ?_
        clear hE hS a w hq101; rintro m109 a w ⟨rest105, k103, q112, ds116, rfl, hd106, hq101, h117, hn118, hE, hS⟩
        refine W.gen fun K119 hK119 => ?_
        rcases rest105 with _ | ⟨x104, rest105⟩
        · have hlt107 := drop_nil hd106
          refine W.seq ?_
          refine W.region ?_
          refine WL.vS hS hE (runs_plain rfl) (Gives.p hE rfl) rfl ?_; clear hE a; intro a hE
          refine WL.nil ?_
          refine W.seq ?_
          refine W.condF hE rfl (decide_eq_false (by omega)) ?_
          subst hK119
          refine W.exit rfl ?_
          exact ⟨q112, ds116, Option.some.inj hq101, h117, hn118, hE.pick _ ⟨rfl, trivial⟩, hS⟩
        · obtain ⟨hlt107, hx108, hd106⟩ := drop_cons hd106
          rw [Fishref2Boundstighter.loop1] at hq101
          refine W.seq ?_
          refine W.region ?_
          refine WL.vS hS hE (runs_plain rfl) (Gives.p hE rfl) rfl ?_; clear hE a; intro a hE
          refine WL.nil ?_
          refine W.seq ?_
          refine W.condT hE rfl (decide_eq_true (by omega)) ?_
          refine W.skip ?_
          refine W.seq ?_
          refine W.block ?_
          refine W.seq ?_
          refine W.region ?_
          refine WL.vS hS hE (runs_plain rfl) (Gives.p hE rfl) rfl ?_; clear hE a; intro a hE
          refine WL.vS hS hE (runs_plain rfl) (Gives.p hE rfl) rfl ?_; clear hE a; intro a hE
          refine WL.nil ?_
          refine W.seq ?_
          refine W.region ?_
          refine WL.vS hS hE (runs_plain rfl) (Gives.p hE rfl) rfl ?_; clear hE a; intro a hE
          refine WL.vS hS hE (runs_plain rfl) (Gives.p hE rfl) rfl ?_; clear hE a; intro a hE
          refine WL.vS hS hE (runs_plain rfl) (Gives.p hE rfl) rfl ?_; clear hE a; intro a hE
          refine WL.vS hS hE (runs_plain rfl) (Gives.p hE rfl) rfl ?_; clear hE a; intro a hE
          obtain ⟨cs120, hl121, hR122, hat123⟩ := h0.at hx108
          obtain ⟨a124, c125, rfl, h126⟩ := hR122
          refine WL.vS hS hE (runs_plain rfl) (Gives.idx hE k103 rfl rfl sl87 rfl hlt107 (h0.aok hlt107)) rfl ?_; clear hE a; intro a hE
          refine WL.vS hS hE (runs_plain rfl) (Gives.load1 hE rfl (fun w h => hat123 w _ h) ty29) rfl ?_; clear hE a; intro a hE
          obtain ⟨q127, hq128, hq101⟩ := bindS hq101
          have hc_ := SlicesCloneLint_ok hS h126 hq128
          refine WL.fnq hE (hc_) (runs_plain rfl) bd60 rfl rfl rfl ?_
          clear hE hS hc_; rintro e w ⟨a129, c130, n131, cs132, rfl, h133, rfl, hS⟩; refine ⟨_, rfl, ?_⟩; clear a; intro a hE
          obtain ⟨_, hx135, hq101⟩ := bindS hq101
          obtain ⟨h136, h137⟩ := ix_some hx135
          refine WL.vS hS hE (runs_plain rfl) (Gives.idx hE ((((k103 : Nat) : Int)).toNat) rfl rfl sl87 h136 (by have := hn118; omega) (hS.nAok 1 rfl (by have := hn118; omega : (((k103 : Nat) : Int)).toNat < x95.length))) rfl ?_; clear hE a; intro a hE
          obtain ⟨d138, hd139⟩ : ∃ d, ds116[(((k103 : Nat) : Int)).toNat]? = some d := ⟨_, List.getElem?_eq_getElem (by have h1 := h117.len; have h2 := hn118; omega)⟩
          replace hS := (hS.borrow 1 rfl hd139).tail
          obtain ⟨x140, hx141, hq101⟩ := bindS hq101
          refine WL.storeND hE hS 0 rfl (runs_plain rfl) rfl rfl ty29 h117 hn118 (by have := (sx_some hx141).1; omega) hx141 h133 rfl rfl ?_; clear hE hS a w; intro ds142 a w h143 hn144 hE hS
          refine WL.nil ?_
          refine W.seq ?_
          refine W.region ?_
          refine WL.vS hS hE (runs_plain rfl) (Gives.p hE rfl) rfl ?_; clear hE a; intro a hE
          refine WL.vS hS hE (runs_plain rfl) (Gives.len hE rfl sl87) rfl ?_; clear hE a; intro a hE
          refine WL.vS hS hE (runs_plain rfl) (Gives.p hE rfl) rfl ?_; clear hE a; intro a hE
          refine WL.nil ?_
          obtain ⟨q146, hq145, hq101⟩ := bindS hq101
          refine W.cut (fun a w => ∃ (q156 : List (List Int)), ∃ (ds160 : List In), q156 = q146 ∧ NEv 1 (RI .i64) s ds160 q156 ∧ q156.length = x95.length ∧ Rep a 88 [(0, .slice a0 x0.length c0), (1, .int .i64 x1), (2, .int .i64 x2), (3, .int .i64 x3), (10, .slice (some ⟨b97, 0, none⟩) x95.length x95.length), (37, .int .i64 ((x0).length : Int)), (38, .int .i64 ((k103 : Nat) : Int))] ∧ St w s (nestC 29 3 1 (some ⟨b97, 0, none⟩) x95.length x95.length ds160 :: R)) ?_ ?_
          · refine W.block ?_
            refine W.loop (fun m a w => ∃ (rest149 : List (List Int)) (k147 : Nat), ∃ (q156 : List (List Int)), ∃ (ds160 : List In), rest149.length = m ∧ x0.drop k147 = rest149 ∧ Fishref2Boundstighter.loop2 x0 x1 x2 x3 x104 k103 rest149 k147 q156 = some q146 ∧ NEv 1 (RI .i64) s ds160 q156 ∧ q156.length = x95.length ∧ Rep a 88 [(0, .slice a0 x0.length c0), (1, .int .i64 x1), (2, .int .i64 x2), (3, .int .i64 x3), (10, .slice (some ⟨b97, 0, none⟩) x95.length x95.length), (11, .int .i64 ((k103 : Nat) : Int)), (37, .int .i64 ((x0).length : Int)), (38, .int .i64 ((k103 : Nat) : Int)), (50, .int .i64 ((x0).length : Int)), (51, .int .i64 ((k147 : Nat) : Int))] ∧ St w s (nestC 29 3 1 (some ⟨b97, 0, none⟩) x95.length x95.length ds160 :: R)) (m := x0.length) ⟨x0, 0, x140, ds142, rfl, rfl, hq145, h143, hn144, hE.pick _ ⟨rfl, rfl, rfl, rfl, rfl, rfl, rfl, rfl, rfl, rfl, trivial⟩, hS⟩ ?_
            clear hE hS a w hq145; rintro m153 a w ⟨rest149, k147, q156, ds160, rfl, hd150, hq145, h161, hn162, hE, hS⟩
            refine W.gen fun K163 hK163 => ?_
            rcases rest149 with _ | ⟨x148, rest149⟩
            · have hlt151 := drop_nil hd150
              refine W.seq ?_
              refine W.region ?_
              refine WL.vS hS hE (runs_plain rfl) (Gives.p hE rfl) rfl ?_; clear hE a; intro a hE
              refine WL.nil ?_
              refine W.seq ?_
              refine W.condF hE rfl (decide_eq_false (by omega)) ?_
              subst hK163
              refine W.exit rfl ?_
              exact ⟨q156, ds160, Option.some.inj hq145, h161, hn162, hE.pick _ ⟨rfl, rfl, rfl, rfl, rfl, rfl, rfl, trivial⟩, hS⟩
            · obtain ⟨hlt151, hx152, hd150⟩ := drop_cons hd150
              rw [Fishref2Boundstighter.loop2] at hq145
              refine W.seq ?_
              refine W.region ?_
              refine WL.vS hS hE (runs_plain rfl) (Gives.p hE rfl) rfl ?_; clear hE a; intro a hE
              refine WL.nil ?_
              refine W.seq ?_
              refine W.condT hE rfl (decide_eq_true (by omega)) ?_
              refine W.skip ?_
              refine W.seq ?_
              refine W.block ?_
              refine W.seq ?_
              refine W.region ?_
              refine WL.vS hS hE (runs_plain rfl) (Gives.p hE rfl) rfl ?_; clear hE a; intro a hE
              refine WL.vS hS hE (runs_plain rfl) (Gives.p hE rfl) rfl ?_; clear hE a; intro a hE
              refine WL.nil ?_
              refine W.gen fun K164 hK164 => ?_
              refine W.regionE (sel (fun w => St w s (nestC 29 3 1 (some ⟨b97, 0, none⟩) x95.length x95.length ds160 :: R)) (fun w => St w s (R))) (fun b i => cond b ([0, 1, 2, 3, 4, 5, 6, 7, 8, 9, 10, 11, 12, 13, 14, 15, 16, 17, 18, 19, 20, 21, 22, 23, 24, 25, 26, 27, 28, 29].contains i) ([0, 1, 2, 3, 4, 5, 6, 7, 8, 9, 10, 11, 12, 13, 14, 15, 16, 17, 18, 19, 20, 21, 22, 23, 24, 25, 26, 27, 28, 29, 30, 31].contains i)) mixed ?_
              replace hS := hS.drew
              refine Rg.takeP (i := 0) hE rfl (by kernel_rfl) (runs_plain rfl) (Gives.p hE rfl) rfl (tw_sel (fun _ => hS) (fun _ => (hS.tail))) ?_; clear hE a; intro a hE
              refine Rg.takeP (i := 1) hE rfl (by kernel_rfl) (runs_plain rfl) (Gives.p hE rfl) rfl (tw_sel (fun _ => hS) (fun _ => (hS.tail))) ?_; clear hE a; intro a hE
              obtain ⟨x165, hx166, hq145⟩ := bindS hq145
              obtain ⟨hi167, hlt168, hy169⟩ := gx_some hx166
              obtain ⟨a170, c171, cs172, hd173, hev174⟩ := h161.at hy169
              refine Rg.takeP (i := 2) hE rfl (by kernel_rfl) (runs_plain rfl) (Gives.idx hE ((((k103 : Nat) : Int)).toNat) rfl rfl sl87 hi167 (by have := hn162; omega) (hS.nAok 0 rfl (by have := hn162; omega : (((k103 : Nat) : Int)).toNat < x95.length))) rfl (tw_sel (fun _ => hS) (fun _ => (hS.tail))) ?_; clear hE a; intro a hE
              have hT := tw_sel (A := fun w => St w s (nestC 29 3 1 (some ⟨b97, 0, none⟩) x95.length x95.length ds160 :: R)) (B := fun w => St w s (R)) (w := _) (x := true) (y := true) (fun _ => hS) (fun _ => (hS.tail))
              have hF := hS; replace hS := hS
              refine Rg.take (i := 3) true rfl hE rfl (by kernel_rfl) (runs_plain rfl) (Gives.load1 (v := .slice a170 x165.length c171) hE rfl (fun w h => St.nSees h 0 rfl hd173) ty29) rfl hT ?_; clear hE a; intro a hE
              replace hS := hF; clear hF hT
              refine Rg.takeP (i := 4) hE rfl (by kernel_rfl) (runs_plain rfl) (Gives.p hE rfl) rfl (tw_sel (fun _ => hS) (fun _ => (hS.tail))) ?_; clear hE a; intro a hE
              refine Rg.takeP (i := 5) hE rfl (by kernel_rfl) (runs_plain rfl) (Gives.p hE rfl) rfl (tw_sel (fun _ => hS) (fun _ => (hS.tail))) ?_; clear hE a; intro a hE
              refine Rg.takeP (i := 6) hE rfl (by kernel_rfl) (runs_plain rfl) (Gives.p hE rfl) rfl (tw_sel (fun _ => hS) (fun _ => (hS.tail))) ?_; clear hE a; intro a hE
              obtain ⟨x175, hx176, hq145⟩ := bindS hq145
              obtain ⟨hi177, hlt178, hy179⟩ := gx_some hx176
              obtain ⟨a180, c181, cs182, hd183, hev184⟩ := h161.at hy179
              refine Rg.takeP (i := 7) hE rfl (by kernel_rfl) (runs_plain rfl) (Gives.idx hE ((((k103 : Nat) : Int)).toNat) rfl rfl sl87 hi177 (by have := hn162; omega) (hS.nAok 0 rfl (by have := hn162; omega : (((k103 : Nat) : Int)).toNat < x95.length))) rfl (tw_sel (fun _ => hS) (fun _ => (hS.tail))) ?_; clear hE a; intro a hE
              have hT := tw_sel (A := fun w => St w s (nestC 29 3 1 (some ⟨b97, 0, none⟩) x95.length x95.length ds160 :: R)) (B := fun w => St w s (R)) (w := _) (x := true) (y := true) (fun _ => hS) (fun _ => (hS.tail))
              have hF := hS; replace hS := hS
              refine Rg.take (i := 8) true rfl hE rfl (by kernel_rfl) (runs_plain rfl) (Gives.load1 (v := .slice a180 x175.length c181) hE rfl (fun w h => St.nSees h 0 rfl hd183) ty29) rfl hT ?_; clear hE a; intro a hE
              replace hS := hF; clear hF hT
              refine Rg.takeP (i := 9) hE rfl (by kernel_rfl) (runs_plain rfl) (Gives.p hE rfl) rfl (tw_sel (fun _ => hS) (fun _ => (hS.tail))) ?_; clear hE a; intro a hE
              obtain ⟨x185, hx186, hq145⟩ := bindS hq145
              obtain ⟨hi187, hlt188, hy189⟩ := gx_some hx186
              obtain ⟨vs190, hl191, hR192, hd193, hget194⟩ := hev184.at hy189
              subst hR192
              refine Rg.takeP (i := 10) hE rfl (by kernel_rfl) (runs_plain rfl) (Gives.idx hE ((((k147 : Nat) : Int)).toNat) rfl rfl sl29 hi187 hlt188 (hS.nnAok 0 rfl hd183 hlt188)) rfl (tw_sel (fun _ => hS) (fun _ => (hS.tail))) ?_; clear hE a; intro a hE
              have hT := tw_sel (A := fun w => St w s (nestC 29 3 1 (some ⟨b97, 0, none⟩) x95.length x95.length ds160 :: R)) (B := fun w => St w s (R)) (w := _) (x := true) (y := true) (fun _ => hS) (fun _ => (hS.tail))
              have hF := hS; replace hS := hS
              refine Rg.take (i := 11) true rfl hE rfl (by kernel_rfl) (runs_plain rfl) (Gives.load1 hE rfl (fun w h => St.nnSees h 0 rfl hd183 ((((k147 : Nat) : Int)).toNat * 1) _ hget194) ty3) rfl hT ?_; clear hE a; intro a hE
              replace hS := hF; clear hF hT
              refine Rg.takeP (i := 12) hE rfl (by kernel_rfl) (runs_plain rfl) (Gives.p hE rfl) rfl (tw_sel (fun _ => hS) (fun _ => (hS.tail))) ?_; clear hE a; intro a hE
              refine Rg.takeP (i := 13) hE rfl (by kernel_rfl) (runs_plain rfl) (Gives.p hE rfl) rfl (tw_sel (fun _ => hS) (fun _ => (hS.tail))) ?_; clear hE a; intro a hE
              refine Rg.takeP (i := 14) hE rfl (by kernel_rfl) (runs_plain rfl) (Gives.idx hE k103 rfl rfl sl87 rfl hlt107 (h0.aok hlt107)) rfl (tw_sel (fun _ => hS) (fun _ => (hS.tail))) ?_; clear hE a; intro a hE
              have hT := tw_sel (A := fun w => St w s (nestC 29 3 1 (some ⟨b97, 0, none⟩) x95.length x95.length ds160 :: R)) (B := fun w => St w s (R)) (w := _) (x := true) (y := true) (fun _ => hS) (fun _ => (hS.tail))
              have hF := hS; replace hS := hS
              refine Rg.take (i := 15) true rfl hE rfl (by kernel_rfl) (runs_plain rfl) (Gives.load1 hE rfl (fun w h => hat123 w _ h) ty29) rfl hT ?_; clear hE a; intro a hE
              replace hS := hF; clear hF hT
              refine Rg.takeP (i := 16) hE rfl (by kernel_rfl) (runs_plain rfl) (Gives.p hE rfl) rfl (tw_sel (fun _ => hS) (fun _ => (hS.tail))) ?_; clear hE a; intro a hE
              obtain ⟨x195, hx196, hq145⟩ := bindS hq145
              obtain ⟨hi197, hlt198, hy199⟩ := gx_some hx196
              obtain ⟨cs200, hl201, hR202, hat203⟩ := h126.at hy199
              subst hR202
              refine Rg.takeP (i := 17) hE rfl (by kernel_rfl) (runs_plain rfl) (Gives.idx hE (x1).toNat rfl rfl sl29 hi197 hlt198 (h126.aok hlt198)) rfl (tw_sel (fun _ => hS) (fun _ => (hS.tail))) ?_; clear hE a; intro a hE
              have hT := tw_sel (A := fun w => St w s (nestC 29 3 1 (some ⟨b97, 0, none⟩) x95.length x95.length ds160 :: R)) (B := fun w => St w s (R)) (w := _) (x := true) (y := true) (fun _ => hS) (fun _ => (hS.tail))
              have hF := hS; replace hS := hS
              refine Rg.take (i := 18) true rfl hE rfl (by kernel_rfl) (runs_plain rfl) (Gives.load1 hE rfl (fun w h => hat203 w _ h) ty3) rfl hT ?_; clear hE a; intro a hE
              replace hS := hF; clear hF hT
              refine Rg.takeP (i := 19) hE rfl (by kernel_rfl) (runs_plain rfl) (Gives.p hE rfl) rfl (tw_sel (fun _ => hS) (fun _ => (hS.tail))) ?_; clear hE a; intro a hE
              refine Rg.takeP (i := 20) hE rfl (by kernel_rfl) (runs_plain rfl) (Gives.p hE rfl) rfl (tw_sel (fun _ => hS) (fun _ => (hS.tail))) ?_; clear hE a; intro a hE
              refine Rg.takeP (i := 21) hE rfl (by kernel_rfl) (runs_plain rfl) (Gives.p hE rfl) rfl (tw_sel (fun _ => hS) (fun _ => (hS.tail))) ?_; clear hE a; intro a hE
              refine Rg.takeP (i := 22) hE rfl (by kernel_rfl) (runs_plain rfl) (Gives.p hE rfl) rfl (tw_sel (fun _ => hS) (fun _ => (hS.tail))) ?_; clear hE a; intro a hE
              obtain ⟨x204, hx205, hq145⟩ := bindS hq145
              obtain ⟨hi206, hlt207, hy208⟩ := gx_some hx205
              obtain ⟨cs209, hl210, hR211, hat212⟩ := h0.at hy208
              obtain ⟨a213, c214, rfl, h215⟩ := hR211
              refine Rg.takeP (i := 23) hE rfl (by kernel_rfl) (runs_plain rfl) (Gives.idx hE (x2).toNat rfl rfl sl87 hi206 hlt207 (h0.aok hlt207)) rfl (tw_sel (fun _ => hS) (fun _ => (hS.tail))) ?_; clear hE a; intro a hE
              have hT := tw_sel (A := fun w => St w s (nestC 29 3 1 (some ⟨b97, 0, none⟩) x95.length x95.length ds160 :: R)) (B := fun w => St w s (R)) (w := _) (x := true) (y := true) (fun _ => hS) (fun _ => (hS.tail))
              have hF := hS; replace hS := hS
              refine Rg.take (i := 24) true rfl hE rfl (by kernel_rfl) (runs_plain rfl) (Gives.load1 hE rfl (fun w h => hat212 w _ h) ty29) rfl hT ?_; clear hE a; intro a hE
              replace hS := hF; clear hF hT
              refine Rg.takeP (i := 25) hE rfl (by kernel_rfl) (runs_plain rfl) (Gives.p hE rfl) rfl (tw_sel (fun _ => hS) (fun _ => (hS.tail))) ?_; clear hE a; intro a hE
              obtain ⟨x216, hx217, hq145⟩ := bindS hq145
              obtain ⟨hi218, hlt219, hy220⟩ := gx_some hx217
              obtain ⟨cs221, hl222, hR223, hat224⟩ := h215.at hy220
              subst hR223
              refine Rg.takeP (i := 26) hE rfl (by kernel_rfl) (runs_plain rfl) (Gives.idx hE (((k147 : Nat) : Int)).toNat rfl rfl sl29 hi218 hlt219 (h215.aok hlt219)) rfl (tw_sel (fun _ => hS) (fun _ => (hS.tail))) ?_; clear hE a; intro a hE
              have hT := tw_sel (A := fun w => St w s (nestC 29 3 1 (some ⟨b97, 0, none⟩) x95.length x95.length ds160 :: R)) (B := fun w => St w s (R)) (w := _) (x := true) (y := true) (fun _ => hS) (fun _ => (hS.tail))
              have hF := hS; replace hS := hS
              refine Rg.take (i := 27) true rfl hE rfl (by kernel_rfl) (runs_plain rfl) (Gives.load1 hE rfl (fun w h => hat224 w _ h) ty3) rfl hT ?_; clear hE a; intro a hE
              replace hS := hF; clear hF hT
              refine Rg.takeP (i := 28) hE rfl (by kernel_rfl) (runs_plain rfl) (Gives.p hE rfl) rfl (tw_sel (fun _ => hS) (fun _ => (hS.tail))) ?_; clear hE a; intro a hE
              refine Rg.takeP (i := 29) hE rfl (by kernel_rfl) (runs_plain rfl) (Gives.min2 hE rfl rfl) rfl (tw_sel (fun _ => hS) (fun _ => (hS.tail))) ?_; clear hE a; intro a hE
              refine Rg.one (i := 30) false true rfl (by kernel_rfl) (by kernel_rfl) (by kernel_rfl) ?_
              replace hS := hS.borrowM 0 rfl hd173
              obtain ⟨_, hx227, hq145⟩ := bindS hq145
              obtain ⟨h228, h229⟩ := ix_some hx227
              refine WL.vS hS hE (runs_plain rfl) (Gives.idx hE ((((k147 : Nat) : Int)).toNat) rfl rfl sl29 h228 (by omega) (hS.vecAok 0 rfl (by omega : (((k147 : Nat) : Int)).toNat < x165.length))) rfl ?_; clear hE a; intro a hE
              refine WL.nil ?_
              refine ⟨⟨fun h => absurd h (by decide), fun _ => ((hS.tail).tail)⟩, ?_⟩
              refine Rg.one (i := 31) false true rfl (by kernel_rfl) (by kernel_rfl) (by kernel_rfl) ?_
              obtain ⟨x231, hx232, hq145⟩ := bindS hq145
              refine WL.setD hE hS 0 rfl (runs_plain rfl) rfl rfl (vs := [.int .i64 (mn x185 (w64 ((w64 (x195 + x3)) + x216)))]) rfl ty3 rfl rfl rfl hev174 (rfl) (sx_some hx232).1 hx232 rfl rfl ?_; clear hE hS a w; intro cs233 a w h234 hn235 hE hS
              refine WL.nil ?_
              refine ⟨⟨fun h => absurd h (by decide), fun _ => ((hS.tail).tail)⟩, ?_⟩
              refine Rg.done (by kernel_rfl) ?_
              subst hK164
              refine W.region ?_
              refine WL.vS hS hE (runs_plain rfl) (Gives.inc hE rfl (by have := h0.small; omega)) rfl ?_; clear hE a; intro a hE
              refine WL.vS hS hE (runs_plain rfl) (Gives.p hE rfl) rfl ?_; clear hE a; intro a hE
              refine WL.nil ?_
              replace hS := hS.giveBack 0 rfl hd173
              have h237 := h161.set (k := (((k103 : Nat) : Int)).toNat) (d := ⟨a170, c171, x165.length, cs233⟩) h234 hn235
              have hn238 : (q156.set ((((k103 : Nat) : Int)).toNat) x231).length = x95.length := by simp; exact hn162
              generalize List.set ds160 ((((k103 : Nat) : Int)).toNat) _ = ds236 at hS h237
              subst hK163
              exact ⟨rest149.length, Nat.lt_succ_self _, rest149, k147 + 1, (q156.set ((((k103 : Nat) : Int)).toNat) x231), ds236, rfl, hd150, hq145, h237, hn238, hE.pick _ ⟨rfl, rfl, rfl, rfl, rfl, rfl, rfl, rfl, rfl, rfl, trivial⟩, hS⟩
          · clear hE hS a w; rintro a w ⟨q156, ds160, rfl, h161, hn162, hE, hS⟩
            refine W.region ?_
            refine WL.vS hS hE (runs_plain rfl) (Gives.inc hE rfl (by have := h0.small; omega)) rfl ?_; clear hE a; intro a hE
            refine WL.vS hS hE (runs_plain rfl) (Gives.p hE rfl) rfl ?_; clear hE a; intro a hE
            refine WL.nil ?_
            subst hK119
            exact ⟨rest105.length, Nat.lt_succ_self _, rest105, k103 + 1, q156, ds160, rfl, hd106, hq101, h161, hn162, hE.pick _ ⟨rfl, rfl, rfl, rfl, rfl, rfl, rfl, trivial⟩, hS⟩
      · clear hE hS a w; rintro a w ⟨q112, ds116, rfl, h117, hn118, hE, hS⟩
        refine W.seq ?_
        refine W.region ?_
        refine WL.vS hS hE (runs_plain rfl) (Gives.p hE rfl) rfl ?_; clear hE a; intro a hE
        refine WL.vS hS hE (runs_plain rfl) (Gives.p hE rfl) rfl ?_; clear hE a; intro a hE
        refine WL.vS hS hE (runs_plain rfl) (Gives.p hE rfl) rfl ?_; clear hE a; intro a hE
        refine WL.nil ?_
        refine W.ret ?_
        have hF := hS.fixN RI.mono 0 rfl h117 hn118; clear hS; obtain ⟨s239, hle240, hS, h241⟩ := hF
        (try rw [← hn118] at hE)
        (try rw [← hn118] at hS)
        (try rw [← hn118] at h241)
        refine finG (fn := Try.f56) (rs := [.tmp 8, .tmp 9]) (vs := [_, _]) hE rfl ⟨rfl, rfl, trivial⟩ ?_
        obtain rfl := Option.some.inj hr
        exact ⟨(some ⟨b97, 0, none⟩), q112.length, s239, rfl, hle240, h241, hS⟩
set_option maxHeartbeats 8000000 in
theorem Fishref2Solvable_1_ok  {w : World} {s : Sg} {R : List HP} {x0 : List (List Int)} {a0 : Option Addr} {c0 : Nat} (hS : St w s (R)) (_h0 : Sl 1 (RL 1 (RI .i64)) s a0 c0 x0) {r : Bool} (hr : Fishref2Solvable_1 x0 = r) :
    Calls Try.prog 57 [.slice a0 x0.length c0].toArray w (fun e w => e = .returned (.bool r) ∧ St w s (R)) := by
  refine enter Try.func57 rfl rfl rfl fun a hE => ?_
  rw [Fishref2Solvable_1] at hr
  refine W.seq ?_
  refine W.region ?_
  refine WL.vS hS hE (runs_plain rfl) (Gives.p hE rfl) rfl ?_; clear hE a; intro a hE
  refine WL.nil ?_
  refine W.seq ?_
  refine W.region ?_
  refine WL.vS hS hE (runs_plain rfl) (Gives.p hE rfl) rfl ?_; clear hE a; intro a hE
  refine WL.nil ?_
  refine W.ret ?_
  refine finG (fn := Try.f57) (rs := [.tmp 2]) (vs := [_]) hE rfl ⟨rfl, trivial⟩ ?_
  subst hr
  exact ⟨rfl, hS⟩
set_option maxHeartbeats 8000000 in
theorem SlicesCloneLplanRule_ok  {w : World} {s : Sg} {R : List HP} {x0 : List PlanRule} {a0 : Option Addr} {c0 : Nat} (hS : St w s (R)) (h0 : Sl 5 RPlanRule s a0 c0 x0) {r : (List PlanRule)} (hr : SlicesCloneLplanRule x0 = some r) :
    Calls Try.prog 84 [.slice a0 x0.length c0].toArray w (fun e w => ∃ (a0 : Option Addr) (c0 n0 : Nat) (cs0 : List Value), e = .returned (.slice a0 n0 c0) ∧ Ev 5 RPlanRule s cs0 r ∧ r.length = n0 ∧ St w s (vecC 37 5 a0 c0 n0 cs0 :: R)) := by
  refine enter Try.func84 rfl rfl rfl fun a hE => ?_
  rw [SlicesCloneLplanRule] at hr
  refine W.seq ?_
  refine W.region ?_
  refine WL.vS hS hE (runs_plain rfl) (Gives.p hE rfl) rfl ?_; clear hE a; intro a hE
  refine WL.nil ?_
  refine W.seq ?_
  refine W.seq ?_
  refine W.region ?_
  refine WL.vS hS hE (runs_plain rfl) (Gives.p hE rfl) rfl ?_; clear hE a; intro a hE
  refine WL.vS hS hE (runs_plain rfl) (Gives.isNil hE rfl rfl isl22) rfl ?_; clear hE a; intro a hE
  refine WL.nil ?_
  rcases a0 with _ | g51
  · obtain rfl := h0.none_nil
    replace hr : some [] = _ := hr
    refine W.condT hE rfl rfl ?_
    refine W.seq ?_
    refine W.region ?_
    refine WL.vS hS hE (runs_plain rfl) (Gives.p hE rfl) rfl ?_; clear hE a; intro a hE
    refine WL.nil ?_
    refine W.ret ?_
    replace hS := hS.vecNil 37 5
    refine finG (fn := Try.f84) (rs := [.tmp 2]) (vs := [_]) hE rfl ⟨rfl, trivial⟩ ?_
    obtain rfl := Option.some.inj hr
    exact ⟨none, 0, 0, [], rfl, (Ev.nil), (rfl), hS⟩
  · skip
    refine W.condF hE rfl rfl ?_
    refine W.skip ?_
    refine W.seq ?_
    refine W.region ?_
    refine WL.lit hE hS (e := 37) (es := 5) (vs := []) (cs := []) (runs_plain rfl) rfl (by kernel_rfl) rfl ?_; clear hE hS a w; intro b53 a w hE hS
    replace hS := hS.ptVec (es := 5) (m := 0) rfl (by decide)
    have h55 : Ev 5 RPlanRule s [] [] := (Ev.nil)
    refine WL.vS hS hE (runs_plain rfl) (Gives.p hE rfl) rfl ?_; clear hE a; intro a hE
    obtain ⟨x56, hx57, hr⟩ := bindS hr
    refine WL.appS hE hS 0 (runs_plain rfl) rfl rfl (xs := x0) rfl rfl ap22 RPlanRule.one h55 (rfl) h0 hx57 rfl ?_; clear hE hS a w; intro a58 c59 cs60 a w h61 hE hS
    refine WL.vS hS hE (runs_plain rfl) (Gives.p hE rfl) rfl ?_; clear hE a; intro a hE
    refine WL.nil ?_
    refine W.ret ?_
    refine finG (fn := Try.f84) (rs := [.tmp 2]) (vs := [_]) hE rfl ⟨rfl, trivial⟩ ?_
    obtain rfl := Option.some.inj hr
    exact ⟨a58, c59, x56.length, cs60, rfl, h61, (rfl), hS⟩
set_option maxHeartbeats 8000000 in
theorem SlicesDeleteLplanRule_v1_ok  {w : World} {s : Sg} {R : List HP} {x0 : List PlanRule} {a_v0 : Option Addr} {c_v0 n_v0 : Nat} {cs_v0 : List Value} {x1 : Int} {x2 : Int} (hS : St w s (vecC 37 5 a_v0 c_v0 n_v0 cs_v0 :: R)) (h_v0 : Ev 5 RPlanRule s cs_v0 x0) (hn_v0 : x0.length = n_v0) {r : (List PlanRule)} (hr : SlicesDeleteLplanRule_v1 x0 x1 x2 = some r) :
    Calls Try.prog 83 [.slice a_v0 n_v0 c_v0, .int .i64 x1, .int .i64 x2].toArray w (fun e w => ∃ (a0 : Option Addr) (c0 n0 : Nat) (cs0 : List Value), e = .returned (.slice a0 n0 c0) ∧ Ev 5 RPlanRule s cs0 r ∧ r.length = n0 ∧ St w s (vecC 37 5 a0 c0 n0 cs0 :: R)) := by
  refine enter Try.func83 rfl rfl rfl fun a hE => ?_
  rw [SlicesDeleteLplanRule_v1] at hr
  subst hn_v0
  refine W.seq ?_
  refine W.region ?_
  refine WL.vS hS hE (runs_plain rfl) (Gives.p hE rfl) rfl ?_; clear hE a; intro a hE
  refine WL.nil ?_
  refine W.seq ?_
  refine W.region ?_
  refine WL.vS hS hE (runs_plain rfl) (Gives.p hE rfl) rfl ?_; clear hE a; intro a hE
  refine WL.vS hS hE (runs_plain rfl) (Gives.p hE rfl) rfl ?_; clear hE a; intro a hE
  refine WL.vS hS hE (runs_plain rfl) (Gives.p hE rfl) rfl ?_; clear hE a; intro a hE
  refine WL.vS hS hE (runs_plain rfl) (Gives.p hE rfl) rfl ?_; clear hE a; intro a hE
  refine WL.vS hS hE (runs_plain rfl) (Gives.len hE rfl sl22) rfl ?_; clear hE a; intro a hE
  obtain ⟨x51, hx52, hr⟩ := bindS hr
  obtain ⟨h53, h54, h55, h56, h57, h58⟩ := cutl_some hx52
  have h59 := (hS.vecCap 0 rfl).1
  refine WL.vS hS hE (runs_plain rfl) (Gives.slLHM hE sl22 rfl rfl rfl rfl h53 h54 (by omega) (by omega) rfl) rfl ?_; clear hE a; intro a hE
  refine WL.nil ?_
  refine W.seq ?_
  refine W.seq ?_
  refine W.region ?_
  refine WL.vS hS hE (runs_plain rfl) (Gives.p hE rfl) rfl ?_; clear hE a; intro a hE
  refine WL.vS hS hE (runs_plain rfl) (Gives.p hE rfl) rfl ?_; clear hE a; intro a hE
  refine WL.vS hS hE (runs_plain rfl) (Gives.p hE rfl) rfl ?_; clear hE a; intro a hE
  refine WL.nil ?_
  refine W.cond hE rfl (fun hc60 => ?_) (fun hc60 => ?_)
  · replace hr := iteT hc60 hr
    refine W.seq ?_
    refine W.region ?_
    refine WL.vS hS hE (runs_plain rfl) (Gives.p hE rfl) rfl ?_; clear hE a; intro a hE
    refine WL.vS hS hE (runs_plain rfl) (Gives.p hE rfl) rfl ?_; clear hE a; intro a hE
    refine WL.nil ?_
    refine W.ret ?_
    refine finG (fn := Try.f83) (rs := [.tmp 6]) (vs := [_]) hE rfl ⟨rfl, trivial⟩ ?_
    obtain rfl := Option.some.inj hr
    exact ⟨a_v0, c_v0, x0.length, cs_v0, rfl, h_v0, (rfl), hS⟩
  · replace hr := iteF hc60 hr
    refine W.skip ?_
    refine W.seq ?_
    refine W.region ?_
    refine WL.vS hS hE (runs_plain rfl) (Gives.p hE rfl) rfl ?_; clear hE a; intro a hE
    refine WL.vS hS hE (runs_plain rfl) (Gives.len hE rfl sl22) rfl ?_; clear hE a; intro a hE
    refine WL.vS hS hE (runs_plain rfl) (Gives.p hE rfl) rfl ?_; clear hE a; intro a hE
    refine WL.nil ?_
    refine W.seq ?_
    refine W.gen fun K61 hK61 => ?_
    refine W.regionE (sel (fun w => St w s (R)) (fun w => St w s (R))) (fun b i => cond b ([0, 1, 2, 3, 4, 5, 6, 7].contains i) ([0, 1, 2, 3, 4, 5, 6, 7].contains i)) mixed ?_
    replace hS := hS.drew
    refine Rg.takeP (i := 0) hE rfl (by kernel_rfl) (runs_plain rfl) (Gives.p hE rfl) rfl (tw_sel (fun _ => (hS.tail)) (fun _ => (hS.tail))) ?_; clear hE a; intro a hE
    refine Rg.takeP (i := 1) hE rfl (by kernel_rfl) (runs_plain rfl) (Gives.p hE rfl) rfl (tw_sel (fun _ => (hS.tail)) (fun _ => (hS.tail))) ?_; clear hE a; intro a hE
    obtain ⟨x62, hx63, hr⟩ := bindS hr
    obtain ⟨h64, h65, h66, h67, h68, h69⟩ := cutl_some hx63
    have h70 := (hS.vecCap 0 rfl).1
    refine Rg.takeP (i := 2) hE rfl (by kernel_rfl) (runs_plain rfl) (Gives.slH hE sl22 rfl rfl h65 (Int.le_trans h66 (by omega)) rfl) rfl (tw_sel (fun _ => (hS.tail)) (fun _ => (hS.tail))) ?_; clear hE a; intro a hE
    refine Rg.takeP (i := 3) hE rfl (by kernel_rfl) (runs_plain rfl) (Gives.p hE rfl) rfl (tw_sel (fun _ => (hS.tail)) (fun _ => (hS.tail))) ?_; clear hE a; intro a hE
    refine Rg.takeP (i := 4) hE rfl (by kernel_rfl) (runs_plain rfl) (Gives.p hE rfl) rfl (tw_sel (fun _ => (hS.tail)) (fun _ => (hS.tail))) ?_; clear hE a; intro a hE
    obtain ⟨x71, hx72, hr⟩ := bindS hr
    obtain ⟨h73, h74, h75, h76, h77, h78⟩ := cutl_some hx72
    have h79 := (hS.vecCap 0 rfl).1
    refine Rg.takeP (i := 5) hE rfl (by kernel_rfl) (runs_plain rfl) (Gives.slL hE sl22 rfl rfl h73 (by omega) rfl) rfl (tw_sel (fun _ => (hS.tail)) (fun _ => (hS.tail))) ?_; clear hE a; intro a hE
    refine Rg.one (i := 6) true true rfl (by kernel_rfl) (by kernel_rfl) (by kernel_rfl) ?_
    obtain ⟨x80, hx81, hr⟩ := bndS hr
    have hz84 := (hS.vecCap 0 rfl).1
    have hz85 : x80.length + ((x2).toNat - (x1).toNat) = x0.length := by rw [← hx81]; simp; omega
    refine WL.del hE hS 0 (runs_plain rfl) ap22 rfl rfl rfl (by omega) (by omega) h_v0 (rfl) RPlanRule.one hx81 rfl ?_; clear hE hS a w; intro cs82 a w h83 hE hS
    refine WL.nil ?_
    refine ⟨⟨fun _ => (hS.tail), fun _ => (hS.tail)⟩, ?_⟩
    refine Rg.takeP (i := 7) hE rfl (by kernel_rfl) (runs_plain rfl) (Gives.p hE rfl) rfl (tw_sel (fun _ => (hS.tail)) (fun _ => (hS.tail))) ?_; clear hE a; intro a hE
    refine Rg.done (by kernel_rfl) ?_
    subst hK61
    refine W.seq ?_
    refine W.region ?_
    refine WL.vS hS hE (runs_plain rfl) (Gives.p hE rfl) rfl ?_; clear hE a; intro a hE
    refine WL.vS hS hE (runs_plain rfl) (Gives.p hE rfl) rfl ?_; clear hE a; intro a hE
    refine WL.vS hS hE (runs_plain rfl) (Gives.len hE rfl sl22) rfl ?_; clear hE a; intro a hE
    refine WL.vS hS hE (runs_plain rfl) (Gives.p hE rfl) rfl ?_; clear hE a; intro a hE
    refine WL.vS hS hE (runs_plain rfl) (Gives.slLH hE sl22 rfl rfl rfl (by omega) (by omega) (by omega) rfl) rfl ?_; clear hE a; intro a hE
    refine WL.clrS hE hS 0 (lo := x80.length) (hi := x0.length) (runs_plain rfl) cl22 rfl rfl (by omega) (by omega) (by omega) rfl ?_; clear hE hS a w; intro a w hE hS
    refine WL.nil ?_
    refine W.seq ?_
    refine W.region ?_
    refine WL.vS hS hE (runs_plain rfl) (Gives.p hE rfl) rfl ?_; clear hE a; intro a hE
    refine WL.vS hS hE (runs_plain rfl) (Gives.p hE rfl) rfl ?_; clear hE a; intro a hE
    refine WL.nil ?_
    refine W.ret ?_
    refine finG (fn := Try.f83) (rs := [.tmp 6]) (vs := [_]) hE rfl ⟨rfl, trivial⟩ ?_
    obtain rfl := Option.some.inj hr
    exact ⟨a_v0, c_v0, x80.length, cs82, rfl, h83, (rfl), hS⟩
set_option maxHeartbeats 8000000 in
theorem Fishref2shifts_v1_ok : ∀ {fu : Nat} {w : World} {s : Sg} {R : List HP} {x0 : PlanPeriodic} {a0_0 : Option Addr} {c0_0 : Nat} {x1 : List (List Int)} {a1 : Option Addr} {c1 : Nat} {x2 : List PlanRule} {a2 : Option Addr} {c2 : Nat} (_hS : St w s (R)) (_h0_0 : Sl 5 RPlanRule s a0_0 c0_0 x0.Rules) (_h1 : Sl 1 (RL 1 (RI .i64)) s a1 c1 x1) (_h2 : Sl 5 RPlanRule s a2 c2 x2) {r : Bool} (_hr : Fishref2shifts_v1 fu x0 x1 x2 = some r),
    Calls Try.prog 58 [.agg [.int .i64 x0.Period, .int .i64 x0.Events, .slice a0_0 x0.Rules.length c0_0].toArray, .slice a1 x1.length c1, .slice a2 x2.length c2, .func (.func 57) #[] #[], .func (.func 57) #[] #[]].toArray w (fun e w => e = .returned (.bool r) ∧ St w s (R)) := by
  intro fu
  induction fu with
  | zero => intro w s R x0 a0_0 c0_0 x1 a1 c1 x2 a2 c2 hS h0_0 h1 h2 r hr; rw [Fishref2shifts_v1] at hr; exact absurd hr (by simp)
  | succ fu ih_Fishref2shifts_v1 =>
    intro w s R x0 a0_0 c0_0 x1 a1 c1 x2 a2 c2 hS h0_0 h1 h2 r hr
    rw [Fishref2shifts_v1] at hr
    generalize Fishref2shifts_v1 fu = self_Fishref2shifts_v1 at hr ih_Fishref2shifts_v1
    refine enter Try.func58 rfl rfl rfl fun a hE => ?_
    refine W.seq ?_
    refine W.region ?_
    refine WL.box hE hS (runs_plain rfl) rfl rfl rfl ?_; clear hE hS a w; intro b51 a w hE hS
    refine WL.vS hS hE (runs_plain rfl) (Gives.p hE rfl) rfl ?_; clear hE a; intro a hE
    refine WL.nil ?_
    refine W.seq ?_
    refine W.seq ?_
    refine W.region ?_
    refine WL.vS hS hE (runs_plain rfl) (Gives.p hE rfl) rfl ?_; clear hE a; intro a hE
    refine WL.vS hS hE (runs_plain rfl) (Gives.p hE rfl) rfl ?_; clear hE a; intro a hE
    refine WL.fnw hE (Fishref2Solvable_1_ok hS h1 rfl (r := Fishref2Solvable_1 x1)) rfl (runs_plain rfl) bd57 rfl rfl rfl ?_
    clear hE hS; rintro e w ⟨rfl, hS⟩; refine ⟨_, rfl, ?_⟩; clear a; intro a hE
    refine WL.vS hS hE (runs_plain rfl) (Gives.p hE rfl) rfl ?_; clear hE a; intro a hE
    refine WL.nil ?_
    refine W.cond hE rfl (fun hc52 => ?_) (fun hc52 => ?_)
    · replace hr := iteT hc52 hr
      refine W.seq ?_
      refine W.region ?_
      refine WL.vS hS hE (runs_plain rfl) (Gives.p hE rfl) rfl ?_; clear hE a; intro a hE
      refine WL.nil ?_
      refine W.ret ?_
      refine finG (fn := Try.f58) (rs := [.tmp 10]) (vs := [_]) hE rfl ⟨rfl, trivial⟩ ?_
      obtain rfl := Option.some.inj hr
      replace hS := hS.tail
      exact ⟨rfl, hS⟩
    · replace hr := iteF hc52 hr
      refine W.skip ?_
      refine W.seq ?_
      refine W.seq ?_
      refine W.region ?_
      refine WL.vS hS hE (runs_plain rfl) (Gives.p hE rfl) rfl ?_; clear hE a; intro a hE
      refine WL.vS hS hE (runs_plain rfl) (Gives.len hE rfl sl22) rfl ?_; clear hE a; intro a hE
      refine WL.vS hS hE (runs_plain rfl) (Gives.p hE rfl) rfl ?_; clear hE a; intro a hE
      refine WL.nil ?_
      refine W.cond hE rfl (fun hc53 => ?_) (fun hc53 => ?_)
      · replace hr := iteT hc53 hr
        refine W.seq ?_
        refine W.region ?_
        refine WL.vS hS hE (runs_plain rfl) (Gives.p hE rfl) rfl ?_; clear hE a; intro a hE
        refine WL.vS hS hE (runs_plain rfl) (Gives.p hE rfl) rfl ?_; clear hE a; intro a hE
        refine WL.fnw hE (Fishref2Solvable_1_ok hS h1 rfl (r := Fishref2Solvable_1 x1)) rfl (runs_plain rfl) bd57 rfl rfl rfl ?_
        clear hE hS; rintro e w ⟨rfl, hS⟩; refine ⟨_, rfl, ?_⟩; clear a; intro a hE
        refine WL.vS hS hE (runs_plain rfl) (Gives.p hE rfl) rfl ?_; clear hE a; intro a hE
        refine WL.nil ?_
        refine W.ret ?_
        refine finG (fn := Try.f58) (rs := [.tmp 10]) (vs := [_]) hE rfl ⟨rfl, trivial⟩ ?_
        obtain rfl := Option.some.inj hr
        replace hS := hS.tail
        exact ⟨rfl, hS⟩
      · replace hr := iteF hc53 hr
        refine W.skip ?_
        refine W.seq ?_
        refine W.region ?_
        refine WL.vS hS hE (runs_plain rfl) (Gives.p hE rfl) rfl ?_; clear hE a; intro a hE
        refine WL.vS hS hE (runs_plain rfl) (Gives.p hE rfl) rfl ?_; clear hE a; intro a hE
        refine WL.nil ?_
        refine W.seq ?_
        refine W.seq ?_
        refine W.region ?_
        refine WL.vS hS hE (runs_plain rfl) (Gives.p hE rfl) rfl ?_; clear hE a; intro a hE
        refine WL.vS hS hE (runs_plain rfl) (Gives.len hE rfl sl22) rfl ?_; clear hE a; intro a hE
        refine WL.vS hS hE (runs_plain rfl) (Gives.p hE rfl) rfl ?_; clear hE a; intro a hE
        refine WL.nil ?_
        obtain ⟨q55, hq54, hr⟩ := bindS hr
        refine W.cut (fun a w => ∃ (q65 : Int), ∃ (q66 : List (List (List Int))), ∃ (a67 : Option Addr), ∃ (c68 : Nat), ∃ (s63 : Sg), s.Le s63 ∧ (.next (q65, q66)) = q55 ∧ Sl 1 (RL 1 (RL 1 (RI .i64))) s63 a67 c68 q66 ∧ Rep a 127 [(2, .slice a2 x2.length c2), (3, .func (.func 57) #[] #[]), (4, .func (.func 57) #[] #[]), (5, .pointer (some ⟨b51, 0, none⟩)), (11, .int .i64 q65), (12, .slice a67 q66.length c68)] ∧ St w s63 (pt b51 (.cells #[.int .i64 x0.Period, .int .i64 x0.Events, .slice a0_0 x0.Rules.length c0_0] 24 (0, 0)) :: R)) ?_ ?_
        · refine W.block ?_
          refine W.loop (fun m a w => ∃ (rest58 : List PlanRule) (k56 : Nat), ∃ (q65 : Int), ∃ (q66 : List (List (List Int))), ∃ (a67 : Option Addr), ∃ (c68 : Nat), ∃ (s63 : Sg), rest58.length = m ∧ x2.drop k56 = rest58 ∧ s.Le s63 ∧ Fishref2shifts_v1.loop1 x0 x1 fu rest58 k56 q65 q66 = some q55 ∧ Sl 1 (RL 1 (RL 1 (RI .i64))) s63 a67 c68 q66 ∧ Rep a 127 [(1, .slice a1 x1.length c1), (2, .slice a2 x2.length c2), (3, .func (.func 57) #[] #[]), (4, .func (.func 57) #[] #[]), (5, .pointer (some ⟨b51, 0, none⟩)), (11, .int .i64 q65), (12, .slice a67 q66.length c68), (32, .slice a2 x2.length c2), (33, .int .i64 ((x2).length : Int)), (34, .int .i64 ((k56 : Nat) : Int))] ∧ St w s63 (pt b51 (.cells #[.int .i64 x0.Period, .int .i64 x0.Events, .slice a0_0 x0.Rules.length c0_0] 24 (0, 0)) :: R)) (m := x2.length) ⟨x2, 0, (-1), [], none, 0, s, rfl, rfl, (Sg.Le.refl _), hq54, Sl.nil, hE.pick _ ⟨rfl, rfl, rfl, rfl, rfl, rfl, rfl, rfl, rfl, rfl, trivial⟩, hS⟩ ?_
          clear hE hS a w hq54; rintro m62 a w ⟨rest58, k56, q65, q66, a67, c68, s63, rfl, hd59, hle64, hq54, h69, hE, hS⟩
          refine W.gen fun K70 hK70 => ?_
          replace h0_0 := Sl.mono RPlanRule.mono hle64 h0_0
          replace h1 := Sl.mono (RL.mono RI.mono) hle64 h1
          replace h2 := Sl.mono RPlanRule.mono hle64 h2
          rcases rest58 with _ | ⟨x57, rest58⟩
          · have hlt60 := drop_nil hd59
            refine W.seq ?_
            refine W.region ?_
            refine WL.vS hS hE (runs_plain rfl) (Gives.p hE rfl) rfl ?_; clear hE a; intro a hE
            refine WL.nil ?_
            refine W.seq ?_
            refine W.condF hE rfl (decide_eq_false (by omega)) ?_
            subst hK70
            refine W.exit rfl ?_
            exact ⟨q65, q66, a67, c68, s63, hle64, Option.some.inj hq54, h69, hE.pick _ ⟨rfl, rfl, rfl, rfl, rfl, rfl, trivial⟩, hS⟩
          · obtain ⟨hlt60, hx61, hd59⟩ := drop_cons hd59
            rw [Fishref2shifts_v1.loop1] at hq54
            refine W.seq ?_
            refine W.region ?_
            refine WL.vS hS hE (runs_plain rfl) (Gives.p hE rfl) rfl ?_; clear hE a; intro a hE
            refine WL.nil ?_
            refine W.seq ?_
            refine W.condT hE rfl (decide_eq_true (by omega)) ?_
            refine W.skip ?_
            refine W.seq ?_
            refine W.block ?_
            refine W.seq ?_
            refine W.region ?_
            refine WL.vS hS hE (runs_plain rfl) (Gives.p hE rfl) rfl ?_; clear hE a; intro a hE
            obtain ⟨cs71, hl72, hR73, hat74⟩ := h2.at hx61
            subst hR73
            refine WL.vS hS hE (runs_plain rfl) (Gives.idx hE k56 rfl rfl sl22 rfl hlt60 (h2.aok hlt60)) rfl ?_; clear hE a; intro a hE
            refine WL.vS hS hE (runs_plain rfl) (Gives.loadA hE rfl (fun w h => hat74 w _ h) ty37) rfl ?_; clear hE a; intro a hE
            refine WL.alloc hE hS (runs_plain rfl) zr37 rfl ?_; clear hE hS a w; intro b75 a w hE hS
            refine WL.vS hS hE (runs_plain rfl) (Gives.p hE rfl) rfl ?_; clear hE a; intro a hE
            refine WL.storeI hE hS 0 rfl (PlanRule.cells x57) (runs_plain rfl) rfl rfl rfl ty37 rfl rfl rfl rfl ?_; clear hE hS a w; intro a w hE hS
            refine WL.nil ?_
            refine W.seq ?_
            refine W.region ?_
            replace hS := hS.vecNil 87 1
            refine WL.vS hS hE (runs_plain rfl) (Gives.p hE rfl) rfl ?_; clear hE a; intro a hE
            refine WL.nil ?_
            refine W.seq ?_
            refine W.seq ?_
            refine W.region ?_
            refine WL.vS hS hE (runs_plain rfl) (Gives.p hE rfl) rfl ?_; clear hE a; intro a hE
            refine WL.nil ?_
            obtain ⟨q78, hq77, hq54⟩ := bindS hq54
            refine W.cut (fun a w => ∃ (q83 : List (List (List Int))), ∃ (q90 : Int), ∃ (a84 : Option Addr), ∃ (c85 : Nat), ∃ (n87 : Nat), ∃ (cs88 : List Value), ∃ (s81 : Sg), s63.Le s81 ∧ (q83, q90) = q78 ∧ Ev 1 (RL 1 (RL 1 (RI .i64))) s81 cs88 q83 ∧ q83.length = n87 ∧ Rep a 127 [(1, .slice a1 x1.length c1), (2, .slice a2 x2.length c2), (3, .func (.func 57) #[] #[]), (4, .func (.func 57) #[] #[]), (5, .pointer (some ⟨b51, 0, none⟩)), (11, .int .i64 q65), (12, .slice a67 q66.length c68), (13, .int .i64 ((k56 : Nat) : Int)), (15, .slice a84 n87 c85), (32, .slice a2 x2.length c2), (33, .int .i64 ((x2).length : Int)), (34, .int .i64 ((k56 : Nat) : Int))] ∧ St w s81 (vecC 87 1 a84 c85 n87 cs88 :: pt b75 (.cells (PlanRule.cells x57).toArray 37 (0, 0)) :: pt b51 (.cells #[.int .i64 x0.Period, .int .i64 x0.Events, .slice a0_0 x0.Rules.length c0_0] 24 (0, 0)) :: R)) ?_ ?_
            · refine W.block ?_
              refine W.loop (fun m a w => ∃ (n79 : Nat), ∃ (q83 : List (List (List Int))), ∃ (q90 : Int), ∃ (a84 : Option Addr), ∃ (c85 : Nat), ∃ (n87 : Nat), ∃ (cs88 : List Value), ∃ (s81 : Sg), n79 = m ∧ s63.Le s81 ∧ Fishref2shifts_v1.loop2 x0 x1 x57 n79 q83 q90 = some q78 ∧ Ev 1 (RL 1 (RL 1 (RI .i64))) s81 cs88 q83 ∧ q83.length = n87 ∧ Rep a 127 [(1, .slice a1 x1.length c1), (2, .slice a2 x2.length c2), (3, .func (.func 57) #[] #[]), (4, .func (.func 57) #[] #[]), (5, .pointer (some ⟨b51, 0, none⟩)), (11, .int .i64 q65), (12, .slice a67 q66.length c68), (13, .int .i64 ((k56 : Nat) : Int)), (14, .pointer (some ⟨b75, 0, none⟩)), (15, .slice a84 n87 c85), (16, .int .i64 q90), (32, .slice a2 x2.length c2), (33, .int .i64 ((x2).length : Int)), (34, .int .i64 ((k56 : Nat) : Int))] ∧ St w s81 (vecC 87 1 a84 c85 n87 cs88 :: pt b75 (.cells (PlanRule.cells x57).toArray 37 (0, 0)) :: pt b51 (.cells #[.int .i64 x0.Period, .int .i64 x0.Events, .slice a0_0 x0.Rules.length c0_0] 24 (0, 0)) :: R)) (m := fu) ⟨fu, [], (-1), none, 0, 0, [], s63, rfl, (Sg.Le.refl _), hq77, (Ev.nil), (rfl), hE.pick _ ⟨rfl, rfl, rfl, rfl, rfl, rfl, rfl, rfl, rfl, rfl, rfl, rfl, rfl, rfl, trivial⟩, hS⟩ ?_
              clear hE hS a w hq77; rintro m80 a w ⟨n79, q83, q90, a84, c85, n87, cs88, s81, rfl, hle82, hq77, h86, rfl, hE, hS⟩
              refine W.gen fun K91 hK91 => ?_
              replace h1 := Sl.mono (RL.mono RI.mono) hle82 h1
              replace h2 := Sl.mono RPlanRule.mono hle82 h2
              replace h69 := Sl.mono (RL.mono (RL.mono RI.mono)) hle82 h69
              replace h0_0 := Sl.mono RPlanRule.mono hle82 h0_0
              rcases n79 with _ | n79
              · rw [Fishref2shifts_v1.loop2] at hq77; exact absurd hq77 (by simp)
              rw [Fishref2shifts_v1.loop2] at hq77
              refine W.seq ?_
              refine W.seq ?_
              refine W.region ?_
              refine WL.vS hS hE (runs_plain rfl) (Gives.p hE rfl) rfl ?_; clear hE a; intro a hE
              refine WL.vS hS hE (runs_plain rfl) (Gives.fld hE rfl fl37_3) rfl ?_; clear hE a; intro a hE
              refine WL.vS hS hE (runs_plain rfl) (Gives.loadB hE 1 rfl rfl rfl ty3) rfl ?_; clear hE a; intro a hE
              refine WL.vS hS hE (runs_plain rfl) (Gives.fld hE rfl fl24_0) rfl ?_; clear hE a; intro a hE
              refine WL.vS hS hE (runs_plain rfl) (Gives.loadB hE 2 rfl rfl rfl ty3) rfl ?_; clear hE a; intro a hE
              refine WL.vS hS hE (runs_plain rfl) (Gives.p hE rfl) rfl ?_; clear hE a; intro a hE
              refine WL.vS hS hE (runs_plain rfl) (Gives.fld hE rfl fl24_0) rfl ?_; clear hE a; intro a hE
              refine WL.vS hS hE (runs_plain rfl) (Gives.loadB hE 2 rfl rfl rfl ty3) rfl ?_; clear hE a; intro a hE
              obtain ⟨x92, hx93, hq77⟩ := bindS hq77
              refine WL.vS hS hE (runs_plain rfl) (Gives.dv hE rfl rfl hx93) rfl ?_; clear hE a; intro a hE
              refine WL.vS hS hE (runs_plain rfl) (Gives.p hE rfl) rfl ?_; clear hE a; intro a hE
              refine WL.vS hS hE (runs_plain rfl) (Gives.p hE rfl) rfl ?_; clear hE a; intro a hE
              refine WL.nil ?_
              refine W.cond hE rfl (fun hc94 => ?_) (fun hc94 => ?_)
              · replace hq77 := iteT hc94 hq77
                refine W.skip ?_
                refine W.seq ?_
                refine W.block ?_
                refine W.seq ?_
                refine W.region ?_
                refine WL.vS hS hE (runs_plain rfl) (Gives.p hE rfl) rfl ?_; clear hE a; intro a hE
                refine WL.vS hS hE (runs_plain rfl) (Gives.fld hE rfl fl37_0) rfl ?_; clear hE a; intro a hE
                refine WL.vS hS hE (runs_plain rfl) (Gives.loadB hE 1 rfl rfl rfl ty3) rfl ?_; clear hE a; intro a hE
                refine WL.vS hS hE (runs_plain rfl) (Gives.fld hE rfl fl37_1) rfl ?_; clear hE a; intro a hE
                refine WL.vS hS hE (runs_plain rfl) (Gives.loadB hE 1 rfl rfl rfl ty3) rfl ?_; clear hE a; intro a hE
                refine WL.vS hS hE (runs_plain rfl) (Gives.fld hE rfl fl37_3) rfl ?_; clear hE a; intro a hE
                refine WL.vS hS hE (runs_plain rfl) (Gives.loadB hE 1 rfl rfl rfl ty3) rfl ?_; clear hE a; intro a hE
                refine WL.vS hS hE (runs_plain rfl) (Gives.p hE rfl) rfl ?_; clear hE a; intro a hE
                refine WL.vS hS hE (runs_plain rfl) (Gives.fld hE rfl fl24_0) rfl ?_; clear hE a; intro a hE
                refine WL.vS hS hE (runs_plain rfl) (Gives.loadB hE 2 rfl rfl rfl ty3) rfl ?_; clear hE a; intro a hE
                refine WL.vS hS hE (runs_plain rfl) (Gives.p hE rfl) rfl ?_; clear hE a; intro a hE
                refine WL.vS hS hE (runs_plain rfl) (Gives.p hE rfl) rfl ?_; clear hE a; intro a hE
                obtain ⟨q95, hq96, hq77⟩ := bindS hq77
                have hc_ := Fishref2Boundstighter_ok hS h1 hq96
                refine WL.fnq hE (hc_) (runs_plain rfl) bd56 rfl rfl rfl ?_
                clear hE hS hc_; rintro e w ⟨a97, c98, s100, rfl, hle101, h99, hS⟩; refine ⟨_, rfl, ?_⟩; clear a; intro a hE
                replace h1 := Sl.mono (RL.mono RI.mono) hle101 h1
                replace h2 := Sl.mono RPlanRule.mono hle101 h2
                replace h69 := Sl.mono (RL.mono (RL.mono RI.mono)) hle101 h69
                replace h86 := Ev.mono (RL.mono (RL.mono RI.mono)) hle101 h86
                replace h0_0 := Sl.mono RPlanRule.mono hle101 h0_0
                refine WL.vS hS hE (runs_plain rfl) (Gives.p hE rfl) rfl ?_; clear hE a; intro a hE
                refine WL.vS hS hE (runs_plain rfl) (Gives.p hE rfl) rfl ?_; clear hE a; intro a hE
                refine WL.vS hS hE (runs_plain rfl) (Gives.p hE rfl) rfl ?_; clear hE a; intro a hE
                refine WL.vS hS hE (runs_plain rfl) (Gives.p hE rfl) rfl ?_; clear hE a; intro a hE
                refine WL.vS hS hE (runs_plain rfl) (Gives.p hE rfl) rfl ?_; clear hE a; intro a hE
                refine WL.nil ?_
                refine W.seq ?_
                refine W.seq ?_
                refine W.region ?_
                refine WL.vS hS hE (runs_plain rfl) (Gives.p hE rfl) rfl ?_; clear hE a; intro a hE
                refine WL.nil ?_
                obtain ⟨q103, hq102, hq77⟩ := bindS hq77
                refine W.cut (fun a w => ∃ (q106 : List (List Int)), ∃ (q110 : Bool), ∃ (a107 : Option Addr), ∃ (c108 : Nat), ∃ (s104 : Sg), s100.Le s104 ∧ (q106, q110) = q103 ∧ Sl 1 (RL 1 (RI .i64)) s104 a107 c108 q106 ∧ Rep a 127 [(1, .slice a1 x1.length c1), (2, .slice a2 x2.length c2), (3, .func (.func 57) #[] #[]), (4, .func (.func 57) #[] #[]), (5, .pointer (some ⟨b51, 0, none⟩)), (11, .int .i64 q65), (12, .slice a67 q66.length c68), (13, .int .i64 ((k56 : Nat) : Int)), (14, .pointer (some ⟨b75, 0, none⟩)), (15, .slice a84 q83.length c85), (16, .int .i64 q90), (17, .slice a107 q106.length c108), (18, .bool q110), (32, .slice a2 x2.length c2), (33, .int .i64 ((x2).length : Int)), (34, .int .i64 ((k56 : Nat) : Int))] ∧ St w s104 (vecC 87 1 a84 c85 q83.length cs88 :: pt b75 (.cells (PlanRule.cells x57).toArray 37 (0, 0)) :: pt b51 (.cells #[.int .i64 x0.Period, .int .i64 x0.Events, .slice a0_0 x0.Rules.length c0_0] 24 (0, 0)) :: R)) ?_ ?_
                · refine W.gen fun K111 hK111 => ?_
                  refine W.cond hE rfl (fun hc112 => ?_) (fun hc112 => ?_)
                  · replace hq102 := iteT hc112 hq102
                    refine W.region ?_
                    refine WL.vS hS hE (runs_plain rfl) (Gives.p hE rfl) rfl ?_; clear hE a; intro a hE
                    refine WL.vS hS hE (runs_plain rfl) (Gives.fld hE rfl fl37_1) rfl ?_; clear hE a; intro a hE
                    refine WL.vS hS hE (runs_plain rfl) (Gives.loadB hE 1 rfl rfl rfl ty3) rfl ?_; clear hE a; intro a hE
                    refine WL.vS hS hE (runs_plain rfl) (Gives.fld hE rfl fl37_0) rfl ?_; clear hE a; intro a hE
                    refine WL.vS hS hE (runs_plain rfl) (Gives.loadB hE 1 rfl rfl rfl ty3) rfl ?_; clear hE a; intro a hE
                    refine WL.vS hS hE (runs_plain rfl) (Gives.p hE rfl) rfl ?_; clear hE a; intro a hE
                    refine WL.vS hS hE (runs_plain rfl) (Gives.fld hE rfl fl24_0) rfl ?_; clear hE a; intro a hE
                    refine WL.vS hS hE (runs_plain rfl) (Gives.loadB hE 2 rfl rfl rfl ty3) rfl ?_; clear hE a; intro a hE
                    refine WL.vS hS hE (runs_plain rfl) (Gives.p hE rfl) rfl ?_; clear hE a; intro a hE
                    refine WL.vS hS hE (runs_plain rfl) (Gives.fld hE rfl fl37_2) rfl ?_; clear hE a; intro a hE
                    refine WL.vS hS hE (runs_plain rfl) (Gives.loadB hE 1 rfl rfl rfl ty3) rfl ?_; clear hE a; intro a hE
                    refine WL.vS hS hE (runs_plain rfl) (Gives.p hE rfl) rfl ?_; clear hE a; intro a hE
                    obtain ⟨q113, hq114, hq102⟩ := bindS hq102
                    have hc_ := Fishref2Boundstighter_ok hS h99 hq114
                    refine WL.fnq hE (hc_) (runs_plain rfl) bd56 rfl rfl rfl ?_
                    clear hE hS hc_; rintro e w ⟨a115, c116, s118, rfl, hle119, h117, hS⟩; refine ⟨_, rfl, ?_⟩; clear a; intro a hE
                    replace h1 := Sl.mono (RL.mono RI.mono) hle119 h1
                    replace h2 := Sl.mono RPlanRule.mono hle119 h2
                    replace h69 := Sl.mono (RL.mono (RL.mono RI.mono)) hle119 h69
                    replace h99 := Sl.mono (RL.mono RI.mono) hle119 h99
                    replace h86 := Ev.mono (RL.mono (RL.mono RI.mono)) hle119 h86
                    replace h0_0 := Sl.mono RPlanRule.mono hle119 h0_0
                    refine WL.vS hS hE (runs_plain rfl) (Gives.p hE rfl) rfl ?_; clear hE a; intro a hE
                    refine WL.vS hS hE (runs_plain rfl) (Gives.p hE rfl) rfl ?_; clear hE a; intro a hE
                    refine WL.vS hS hE (runs_plain rfl) (Gives.p hE rfl) rfl ?_; clear hE a; intro a hE
                    refine WL.vS hS hE (runs_plain rfl) (Gives.p hE rfl) rfl ?_; clear hE a; intro a hE
                    refine WL.vS hS hE (runs_plain rfl) (Gives.p hE rfl) rfl ?_; clear hE a; intro a hE
                    refine WL.nil ?_
                    subst hK111
                    exact ⟨q113.1, q113.2, a115, c116, s118, hle119, Option.some.inj hq102, h117, hE.pick _ ⟨rfl, rfl, rfl, rfl, rfl, rfl, rfl, rfl, rfl, rfl, rfl, rfl, rfl, rfl, rfl, rfl, trivial⟩, hS⟩
                  · replace hq102 := iteF hc112 hq102
                    refine W.skip ?_
                    subst hK111
                    exact ⟨q95.1, q95.2, a97, c98, s100, (Sg.Le.refl _), Option.some.inj hq102, h99, hE.pick _ ⟨rfl, rfl, rfl, rfl, rfl, rfl, rfl, rfl, rfl, rfl, rfl, rfl, rfl, rfl, rfl, rfl, trivial⟩, hS⟩
                · clear hE hS a w; rintro a w ⟨q106, q110, a107, c108, s104, hle105, rfl, h109, hE, hS⟩
                  dsimp only at hq77
                  replace h1 := Sl.mono (RL.mono RI.mono) hle105 h1
                  replace h2 := Sl.mono RPlanRule.mono hle105 h2
                  replace h69 := Sl.mono (RL.mono (RL.mono RI.mono)) hle105 h69
                  replace h99 := Sl.mono (RL.mono RI.mono) hle105 h99
                  replace h86 := Ev.mono (RL.mono (RL.mono RI.mono)) hle105 h86
                  replace h0_0 := Sl.mono RPlanRule.mono hle105 h0_0
                  refine W.seq ?_
                  refine W.region ?_
                  refine WL.vS hS hE (runs_plain rfl) (Gives.p hE rfl) rfl ?_; clear hE a; intro a hE
                  refine WL.nil ?_
                  obtain ⟨q121, hq120, hq77⟩ := bindS hq77
                  refine W.cut (fun a w => ∃ (q124 : List (List (List Int))), ∃ (a125 : Option Addr), ∃ (c126 : Nat), ∃ (n128 : Nat), ∃ (cs129 : List Value), q124 = q121 ∧ Ev 1 (RL 1 (RL 1 (RI .i64))) s104 cs129 q124 ∧ q124.length = n128 ∧ Rep a 127 [(1, .slice a1 x1.length c1), (2, .slice a2 x2.length c2), (3, .func (.func 57) #[] #[]), (4, .func (.func 57) #[] #[]), (5, .pointer (some ⟨b51, 0, none⟩)), (11, .int .i64 q65), (12, .slice a67 q66.length c68), (13, .int .i64 ((k56 : Nat) : Int)), (14, .pointer (some ⟨b75, 0, none⟩)), (15, .slice a125 n128 c126), (16, .int .i64 q90), (32, .slice a2 x2.length c2), (33, .int .i64 ((x2).length : Int)), (34, .int .i64 ((k56 : Nat) : Int))] ∧ St w s104 (vecC 87 1 a125 c126 n128 cs129 :: pt b75 (.cells (PlanRule.cells x57).toArray 37 (0, 0)) :: pt b51 (.cells #[.int .i64 x0.Period, .int .i64 x0.Events, .slice a0_0 x0.Rules.length c0_0] 24 (0, 0)) :: R)) ?_ ?_
                  · refine W.gen fun K131 hK131 => ?_
                    refine W.cond hE rfl (fun hc132 => ?_) (fun hc132 => ?_)
                    · replace hq120 := iteT hc132 hq120
                      refine W.region ?_
                      refine WL.vS hS hE (runs_plain rfl) (Gives.p hE rfl) rfl ?_; clear hE a; intro a hE
                      refine WL.vS hS hE (runs_plain rfl) (Gives.p hE rfl) rfl ?_; clear hE a; intro a hE
                      refine WL.lit hE hS (e := 87) (es := 1) (vs := [(0, .slice a107 q106.length c108)]) (cs := [.slice a107 q106.length c108]) (runs_plain rfl) rfl (by kernel_rfl) rfl ?_; clear hE hS a w; intro b133 a w hE hS
                      obtain ⟨x134, hx135, hq120⟩ := bindS hq120
                      refine WL.appD hE hS 0 (m := 1) (runs_plain rfl) rfl rfl rfl ap118 rfl h86 rfl (xs := [q106]) (Ev.cons (c1 := [.slice a107 q106.length c108]) ⟨_, _, rfl, h109⟩ rfl (Ev.nil)) rfl rfl hx135 rfl ?_; clear hE hS a w; intro a136 c137 cs138 a w h139 hE hS
                      refine WL.vS hS hE (runs_plain rfl) (Gives.p hE rfl) rfl ?_; clear hE a; intro a hE
                      refine WL.nil ?_
                      subst hK131
                      exact ⟨x134, a136, c137, x134.length, cs138, Option.some.inj hq120, h139, (rfl), hE.pick _ ⟨rfl, rfl, rfl, rfl, rfl, rfl, rfl, rfl, rfl, rfl, rfl, rfl, rfl, rfl, trivial⟩, hS⟩
                    · replace hq120 := iteF hc132 hq120
                      refine W.skip ?_
                      subst hK131
                      exact ⟨q83, a84, c85, q83.length, cs88, Option.some.inj hq120, h86, rfl, hE.pick _ ⟨rfl, rfl, rfl, rfl, rfl, rfl, rfl, rfl, rfl, rfl, rfl, rfl, rfl, rfl, trivial⟩, hS⟩
                  · clear hE hS a w; rintro a w ⟨q124, a125, c126, n128, cs129, rfl, h127, rfl, hE, hS⟩
                    refine W.region ?_
                    refine WL.vS hS hE (runs_plain rfl) (Gives.p hE rfl) rfl ?_; clear hE a; intro a hE
                    refine WL.vS hS hE (runs_plain rfl) (Gives.p hE rfl) rfl ?_; clear hE a; intro a hE
                    refine WL.vS hS hE (runs_plain rfl) (Gives.p hE rfl) rfl ?_; clear hE a; intro a hE
                    refine WL.nil ?_
                    subst hK91
                    exact ⟨n79, Nat.lt_succ_self _, n79, q124, (w64 (q90 + 1)), a125, c126, q124.length, cs129, s104, rfl, (Sg.Le.trans (Sg.Le.trans hle82 hle101) hle105), hq77, h127, rfl, hE.pick _ ⟨rfl, rfl, rfl, rfl, rfl, rfl, rfl, rfl, rfl, rfl, rfl, rfl, rfl, rfl, trivial⟩, hS⟩
              · replace hq77 := iteF hc94 hq77
                subst hK91
                refine W.exit rfl ?_
                exact ⟨q83, q90, a84, c85, q83.length, cs88, s81, hle82, Option.some.inj hq77, h86, rfl, hE.pick _ ⟨rfl, rfl, rfl, rfl, rfl, rfl, rfl, rfl, rfl, rfl, rfl, rfl, trivial⟩, hS⟩
            · clear hE hS a w; rintro a w ⟨q83, q90, a84, c85, n87, cs88, s81, hle82, rfl, h86, rfl, hE, hS⟩
              dsimp only at hq54
              replace h1 := Sl.mono (RL.mono RI.mono) hle82 h1
              replace h2 := Sl.mono RPlanRule.mono hle82 h2
              replace h69 := Sl.mono (RL.mono (RL.mono RI.mono)) hle82 h69
              replace h0_0 := Sl.mono RPlanRule.mono hle82 h0_0
              refine W.seq ?_
              refine W.seq ?_
              refine W.region ?_
              refine WL.vS hS hE (runs_plain rfl) (Gives.p hE rfl) rfl ?_; clear hE a; intro a hE
              refine WL.vS hS hE (runs_plain rfl) (Gives.len hE rfl sl118) rfl ?_; clear hE a; intro a hE
              refine WL.vS hS hE (runs_plain rfl) (Gives.p hE rfl) rfl ?_; clear hE a; intro a hE
              refine WL.nil ?_
              refine W.cond hE rfl (fun hc140 => ?_) (fun hc140 => ?_)
              · replace hq54 := iteT hc140 hq54
                refine W.seq ?_
                refine W.region ?_
                refine WL.vS hS hE (runs_plain rfl) (Gives.p hE rfl) rfl ?_; clear hE a; intro a hE
                refine WL.nil ?_
                refine W.ret ?_
                subst hK70
                rw [← Option.some.inj hq54] at hr
                dsimp only at hr
                refine finG (fn := Try.f58) (rs := [.tmp 10]) (vs := [_]) hE rfl ⟨rfl, trivial⟩ ?_
                obtain rfl := Option.some.inj hr
                replace hS := hS.tail
                replace hS := hS.tail
                replace hS := hS.tail
                exact ⟨rfl, (hS.down (Sg.Le.trans hle64 hle82))⟩
              · replace hq54 := iteF hc140 hq54
                refine W.skip ?_
                refine W.seq ?_
                refine W.seq ?_
                obtain ⟨q142, hq141, hq54⟩ := bndS hq54
                refine W.cut (fun a w => ∃ (q145 : Bool), q145 = q142 ∧ Rep a 127 [(1, .slice a1 x1.length c1), (2, .slice a2 x2.length c2), (3, .func (.func 57) #[] #[]), (4, .func (.func 57) #[] #[]), (5, .pointer (some ⟨b51, 0, none⟩)), (11, .int .i64 q65), (12, .slice a67 q66.length c68), (13, .int .i64 ((k56 : Nat) : Int)), (15, .slice a84 q83.length c85), (32, .slice a2 x2.length c2), (33, .int .i64 ((x2).length : Int)), (34, .int .i64 ((k56 : Nat) : Int)), (101, .bool q145)] ∧ St w s81 (vecC 87 1 a84 c85 q83.length cs88 :: pt b75 (.cells (PlanRule.cells x57).toArray 37 (0, 0)) :: pt b51 (.cells #[.int .i64 x0.Period, .int .i64 x0.Events, .slice a0_0 x0.Rules.length c0_0] 24 (0, 0)) :: R)) ?_ ?_
                · refine W.gen fun K146 hK146 => ?_
                  refine W.region ?_
                  refine WL.vS hS hE (runs_plain rfl) (Gives.p hE rfl) rfl ?_; clear hE a; intro a hE
                  refine WL.vS hS hE (runs_plain rfl) (Gives.p hE rfl) rfl ?_; clear hE a; intro a hE
                  refine WL.vS hS hE (runs_plain rfl) (Gives.p hE rfl) rfl ?_; clear hE a; intro a hE
                  rcases Bool.eq_false_or_eq_true (decide (q65 < 0)) with hg147 | hg147
                  · replace hq141 := iteT hg147 hq141
                    refine WL.no hE (runs_not hE rfl rfl rfl (by rw [hg147]; decide)) rfl ?_; clear hE a; intro a hE
                    refine WL.no hE (runs_not hE rfl rfl rfl (by rw [hg147]; decide)) rfl ?_; clear hE a; intro a hE
                    refine WL.no hE (runs_not hE rfl rfl rfl (by rw [hg147]; decide)) rfl ?_; clear hE a; intro a hE
                    refine WL.no hE (runs_not hE rfl rfl rfl (by rw [hg147]; decide)) rfl ?_; clear hE a; intro a hE
                    refine WL.no hE (runs_not hE rfl rfl rfl (by rw [hg147]; decide)) rfl ?_; clear hE a; intro a hE
                    refine WL.vS hS hE (runs_plain rfl) (Gives.pickT hE rfl hg147 rfl) rfl ?_; clear hE a; intro a hE
                    refine WL.nil ?_
                    subst hK146
                    exact ⟨true, hq141, hE.pick _ ⟨rfl, rfl, rfl, rfl, rfl, rfl, rfl, rfl, rfl, rfl, rfl, rfl, rfl, trivial⟩, hS⟩
                  · replace hq141 := iteF hg147 hq141
                    refine WL.vS hS hE (runs_if hE rfl rfl rfl hg147) (Gives.p hE rfl) rfl ?_; clear hE a; intro a hE
                    refine WL.vS hS hE (runs_if hE rfl rfl rfl hg147) (Gives.len hE rfl sl118) rfl ?_; clear hE a; intro a hE
                    refine WL.vS hS hE (runs_if hE rfl rfl rfl hg147) (Gives.p hE rfl) rfl ?_; clear hE a; intro a hE
                    refine WL.vS hS hE (runs_if hE rfl rfl rfl hg147) (Gives.len hE rfl sl118) rfl ?_; clear hE a; intro a hE
                    refine WL.vS hS hE (runs_if hE rfl rfl rfl hg147) (Gives.p hE rfl) rfl ?_; clear hE a; intro a hE
                    refine WL.vS hS hE (runs_plain rfl) (Gives.pickF hE rfl hg147 rfl) rfl ?_; clear hE a; intro a hE
                    refine WL.nil ?_
                    subst hK146
                    exact ⟨decide (((q83.length : Nat) : Int) < ((q66).length : Int)), hq141, hE.pick _ ⟨rfl, rfl, rfl, rfl, rfl, rfl, rfl, rfl, rfl, rfl, rfl, rfl, rfl, trivial⟩, hS⟩
                · clear hE hS a w; rintro a w ⟨q145, rfl, hE, hS⟩
                  have hF := hS.fixD (RL.mono (RL.mono RI.mono)) 0 rfl h86 rfl; clear hS; obtain ⟨s148, hle149, hS, h150⟩ := hF
                  replace h1 := Sl.mono (RL.mono RI.mono) hle149 h1
                  replace h2 := Sl.mono RPlanRule.mono hle149 h2
                  replace h69 := Sl.mono (RL.mono (RL.mono RI.mono)) hle149 h69
                  replace h0_0 := Sl.mono RPlanRule.mono hle149 h0_0
                  obtain ⟨q152, hq151, hq54⟩ := bndS hq54
                  refine W.cut (fun a w => ∃ (q155 : Int), ∃ (q156 : List (List (List Int))), ∃ (a157 : Option Addr), ∃ (c158 : Nat), (q155, q156) = q152 ∧ Sl 1 (RL 1 (RL 1 (RI .i64))) s148 a157 c158 q156 ∧ Rep a 127 [(1, .slice a1 x1.length c1), (2, .slice a2 x2.length c2), (3, .func (.func 57) #[] #[]), (4, .func (.func 57) #[] #[]), (5, .pointer (some ⟨b51, 0, none⟩)), (11, .int .i64 q155), (12, .slice a157 q156.length c158), (15, .slice a84 q83.length c85), (32, .slice a2 x2.length c2), (33, .int .i64 ((x2).length : Int)), (34, .int .i64 ((k56 : Nat) : Int))] ∧ St w s148 (pt b75 (.cells (PlanRule.cells x57).toArray 37 (0, 0)) :: pt b51 (.cells #[.int .i64 x0.Period, .int .i64 x0.Events, .slice a0_0 x0.Rules.length c0_0] 24 (0, 0)) :: R)) ?_ ?_
                  · refine W.gen fun K160 hK160 => ?_
                    refine W.cond hE rfl (fun hc161 => ?_) (fun hc161 => ?_)
                    · replace hq151 := iteT hc161 hq151
                      refine W.region ?_
                      refine WL.vS hS hE (runs_plain rfl) (Gives.p hE rfl) rfl ?_; clear hE a; intro a hE
                      refine WL.vS hS hE (runs_plain rfl) (Gives.p hE rfl) rfl ?_; clear hE a; intro a hE
                      refine WL.vS hS hE (runs_plain rfl) (Gives.p hE rfl) rfl ?_; clear hE a; intro a hE
                      refine WL.vS hS hE (runs_plain rfl) (Gives.p hE rfl) rfl ?_; clear hE a; intro a hE
                      refine WL.nil ?_
                      subst hK160
                      exact ⟨((k56 : Nat) : Int), q83, a84, c85, hq151, h150, hE.pick _ ⟨rfl, rfl, rfl, rfl, rfl, rfl, rfl, rfl, rfl, rfl, rfl, trivial⟩, hS⟩
                    · replace hq151 := iteF hc161 hq151
                      refine W.skip ?_
                      subst hK160
                      exact ⟨q65, q66, a67, c68, hq151, h69, hE.pick _ ⟨rfl, rfl, rfl, rfl, rfl, rfl, rfl, rfl, rfl, rfl, rfl, trivial⟩, hS⟩
                  · clear hE hS a w; rintro a w ⟨q155, q156, a157, c158, rfl, h159, hE, hS⟩
                    dsimp only at hq54
                    refine W.seq ?_
                    refine W.region ?_
                    refine WL.vS hS hE (runs_plain rfl) (Gives.p hE rfl) rfl ?_; clear hE a; intro a hE
                    refine WL.vS hS hE (runs_plain rfl) (Gives.len hE rfl sl118) rfl ?_; clear hE a; intro a hE
                    refine WL.vS hS hE (runs_plain rfl) (Gives.p hE rfl) rfl ?_; clear hE a; intro a hE
                    refine WL.nil ?_
                    refine W.cond hE rfl (fun hc162 => ?_) (fun hc162 => ?_)
                    · replace hq54 := iteT hc162 hq54
                      subst hK70
                      refine W.exit rfl ?_
                      replace hS := hS.tail
                      exact ⟨q155, q156, a157, c158, s148, (Sg.Le.trans (Sg.Le.trans hle64 hle82) hle149), Option.some.inj hq54, h159, hE.pick _ ⟨rfl, rfl, rfl, rfl, rfl, rfl, trivial⟩, hS⟩
                    · replace hq54 := iteF hc162 hq54
                      refine W.skip ?_
                      refine W.region ?_
                      refine WL.vS hS hE (runs_plain rfl) (Gives.inc hE rfl (by have := h2.small; omega)) rfl ?_; clear hE a; intro a hE
                      refine WL.vS hS hE (runs_plain rfl) (Gives.p hE rfl) rfl ?_; clear hE a; intro a hE
                      refine WL.nil ?_
                      replace hS := hS.tail
                      subst hK70
                      exact ⟨rest58.length, Nat.lt_succ_self _, rest58, k56 + 1, q155, q156, a157, c158, s148, rfl, hd59, (Sg.Le.trans (Sg.Le.trans hle64 hle82) hle149), hq54, h159, hE.pick _ ⟨rfl, rfl, rfl, rfl, rfl, rfl, rfl, rfl, rfl, rfl, trivial⟩, hS⟩
        · clear hE hS a w; rintro a w ⟨q65, q66, a67, c68, s63, hle64, rfl, h69, hE, hS⟩
          dsimp only at hr
          replace h0_0 := Sl.mono RPlanRule.mono hle64 h0_0
          replace h1 := Sl.mono (RL.mono RI.mono) hle64 h1
          replace h2 := Sl.mono RPlanRule.mono hle64 h2
          refine W.seq ?_
          refine W.region ?_
          refine WL.vS hS hE (runs_plain rfl) (Gives.p hE rfl) rfl ?_; clear hE a; intro a hE
          obtain ⟨q163, hq164, hr⟩ := bindS hr
          have hc_ := SlicesCloneLplanRule_ok hS h2 hq164
          refine WL.fnq hE (hc_) (runs_plain rfl) bd84 rfl rfl rfl ?_
          clear hE hS hc_; rintro e w ⟨a165, c166, n167, cs168, rfl, h169, rfl, hS⟩; refine ⟨_, rfl, ?_⟩; clear a; intro a hE
          refine WL.vS hS hE (runs_plain rfl) (Gives.p hE rfl) rfl ?_; clear hE a; intro a hE
          refine WL.vS hS hE (runs_plain rfl) (Gives.p hE rfl) rfl ?_; clear hE a; intro a hE
          refine WL.vS hS hE (runs_plain rfl) (Gives.p hE rfl) rfl ?_; clear hE a; intro a hE
          obtain ⟨q171, hq172, hr⟩ := bindS hr
          have hc_ := SlicesDeleteLplanRule_v1_ok hS h169 rfl hq172
          refine WL.fnq hE (hc_) (runs_plain rfl) bd83 rfl rfl rfl ?_
          clear hE hS hc_; rintro e w ⟨a173, c174, n175, cs176, rfl, h177, rfl, hS⟩; refine ⟨_, rfl, ?_⟩; clear a; intro a hE
          refine WL.vS hS hE (runs_plain rfl) (Gives.p hE rfl) rfl ?_; clear hE a; intro a hE
          refine WL.nil ?_
          refine W.seq ?_
          refine W.seq ?_
          refine W.region ?_
          refine WL.vS hS hE (runs_plain rfl) (Gives.p hE rfl) rfl ?_; clear hE a; intro a hE
          refine WL.vS hS hE (runs_plain rfl) (Gives.len hE rfl sl118) rfl ?_; clear hE a; intro a hE
          refine WL.vS hS hE (runs_plain rfl) (Gives.p hE rfl) rfl ?_; clear hE a; intro a hE
          refine WL.nil ?_
          obtain ⟨q180, hq179, hr⟩ := bindS hr
          refine W.cut (fun a w => (.next ()) = q180 ∧ Rep a 127 [] ∧ St w s63 (vecC 37 5 a173 c174 q171.length cs176 :: pt b51 (.cells #[.int .i64 x0.Period, .int .i64 x0.Events, .slice a0_0 x0.Rules.length c0_0] 24 (0, 0)) :: R)) ?_ ?_
          · refine W.block ?_
            refine W.loop (fun m a w => ∃ (rest183 : List (List (List Int))) (k181 : Nat), rest183.length = m ∧ q66.drop k181 = rest183 ∧ Fishref2shifts_v1.loop3 x0 self_Fishref2shifts_v1 q171 rest183 = some q180 ∧ Rep a 127 [(3, .func (.func 57) #[] #[]), (4, .func (.func 57) #[] #[]), (5, .pointer (some ⟨b51, 0, none⟩)), (19, .slice a173 q171.length c174), (114, .slice a67 q66.length c68), (115, .int .i64 ((q66).length : Int)), (116, .int .i64 ((k181 : Nat) : Int))] ∧ St w s63 (vecC 37 5 a173 c174 q171.length cs176 :: pt b51 (.cells #[.int .i64 x0.Period, .int .i64 x0.Events, .slice a0_0 x0.Rules.length c0_0] 24 (0, 0)) :: R)) (m := q66.length) ⟨q66, 0, rfl, rfl, hq179, hE.pick _ ⟨rfl, rfl, rfl, rfl, rfl, rfl, rfl, trivial⟩, hS⟩ ?_
            clear hE hS a w hq179; rintro m187 a w ⟨rest183, k181, rfl, hd184, hq179, hE, hS⟩
            refine W.gen fun K190 hK190 => ?_
            rcases rest183 with _ | ⟨x182, rest183⟩
            · have hlt185 := drop_nil hd184
              refine W.seq ?_
              refine W.region ?_
              refine WL.vS hS hE (runs_plain rfl) (Gives.p hE rfl) rfl ?_; clear hE a; intro a hE
              refine WL.nil ?_
              refine W.seq ?_
              refine W.condF hE rfl (decide_eq_false (by omega)) ?_
              subst hK190
              refine W.exit rfl ?_
              exact ⟨Option.some.inj hq179, hE.pick _ trivial, hS⟩
            · obtain ⟨hlt185, hx186, hd184⟩ := drop_cons hd184
              rw [Fishref2shifts_v1.loop3] at hq179
              refine W.seq ?_
              refine W.region ?_
              refine WL.vS hS hE (runs_plain rfl) (Gives.p hE rfl) rfl ?_; clear hE a; intro a hE
              refine WL.nil ?_
              refine W.seq ?_
              refine W.condT hE rfl (decide_eq_true (by omega)) ?_
              refine W.skip ?_
              refine W.seq ?_
              refine W.block ?_
              refine W.seq ?_
              refine W.region ?_
              obtain ⟨cs191, hl192, hR193, hat194⟩ := h69.at hx186
              obtain ⟨a195, c196, rfl, h197⟩ := hR193
              refine WL.vS hS hE (runs_plain rfl) (Gives.idx hE k181 rfl rfl sl118 rfl hlt185 (h69.aok hlt185)) rfl ?_; clear hE a; intro a hE
              refine WL.vS hS hE (runs_plain rfl) (Gives.load1 hE rfl (fun w h => hat194 w _ h) ty87) rfl ?_; clear hE a; intro a hE
              refine WL.vS hS hE (runs_plain rfl) (Gives.p hE rfl) rfl ?_; clear hE a; intro a hE
              refine WL.nil ?_
              refine W.seq ?_
              refine W.region ?_
              refine WL.vS hS hE (runs_plain rfl) (Gives.loadBA hE 1 rfl rfl ty24) rfl ?_; clear hE a; intro a hE
              refine WL.vS hS hE (runs_plain rfl) (Gives.p hE rfl) rfl ?_; clear hE a; intro a hE
              refine WL.vS hS hE (runs_plain rfl) (Gives.p hE rfl) rfl ?_; clear hE a; intro a hE
              refine WL.vS hS hE (runs_plain rfl) (Gives.p hE rfl) rfl ?_; clear hE a; intro a hE
              refine WL.vS hS hE (runs_plain rfl) (Gives.p hE rfl) rfl ?_; clear hE a; intro a hE
              obtain ⟨q198, hq199, hq179⟩ := bindS hq179
              have hF := hS.lendV RPlanRule.mono 0 rfl h177 rfl; clear hS; obtain ⟨t200, hle201, hS, hs202, bk203⟩ := hF
              have hc_ := ih_Fishref2shifts_v1 hS (Sl.mono RPlanRule.mono hle201 h0_0) (Sl.mono (RL.mono RI.mono) hle201 h197) hs202 hq199
              refine WL.fnq hE (hc_) (runs_plain rfl) bd58 rfl rfl rfl ?_
              clear hE hS hc_; rintro e w ⟨rfl, hS⟩; refine ⟨_, rfl, ?_⟩; clear a; intro a hE
              replace hS := bk203 _ _ hS
              refine WL.nil ?_
              refine W.cond hE rfl (fun hc204 => ?_) (fun hc204 => ?_)
              · replace hq179 := iteT hc204 hq179
                refine W.seq ?_
                refine W.region ?_
                refine WL.vS hS hE (runs_plain rfl) (Gives.p hE rfl) rfl ?_; clear hE a; intro a hE
                refine WL.nil ?_
                refine W.ret ?_
                subst hK190
                rw [← Option.some.inj hq179] at hr
                dsimp only at hr
                refine finG (fn := Try.f58) (rs := [.tmp 10]) (vs := [_]) hE rfl ⟨rfl, trivial⟩ ?_
                obtain rfl := Option.some.inj hr
                replace hS := hS.tail
                replace hS := hS.tail
                exact ⟨rfl, (hS.down hle64)⟩
              · replace hq179 := iteF hc204 hq179
                refine W.skip ?_
                refine W.region ?_
                refine WL.vS hS hE (runs_plain rfl) (Gives.inc hE rfl (by have := h69.small; omega)) rfl ?_; clear hE a; intro a hE
                refine WL.vS hS hE (runs_plain rfl) (Gives.p hE rfl) rfl ?_; clear hE a; intro a hE
                refine WL.nil ?_
                subst hK190
                exact ⟨rest183.length, Nat.lt_succ_self _, rest183, k181 + 1, rfl, hd184, hq179, hE.pick _ ⟨rfl, rfl, rfl, rfl, rfl, rfl, rfl, trivial⟩, hS⟩
          · clear hE hS a w; rintro a w ⟨rfl, hE, hS⟩
            dsimp only at hr
            refine W.seq ?_
            refine W.region ?_
            refine WL.vS hS hE (runs_plain rfl) (Gives.p hE rfl) rfl ?_; clear hE a; intro a hE
            refine WL.nil ?_
            refine W.ret ?_
            refine finG (fn := Try.f58) (rs := [.tmp 10]) (vs := [_]) hE rfl ⟨rfl, trivial⟩ ?_
            obtain rfl := Option.some.inj hr
            replace hS := hS.tail
            replace hS := hS.tail
            exact ⟨rfl, (hS.down hle64)⟩
set_option maxHeartbeats 8000000 in
theorem Fishref2Solvable_ok {fu : Nat}  {w : World} {s : Sg} {R : List HP} {x0 : PlanPeriodic} {a0_0 : Option Addr} {c0_0 : Nat} {x1 : List PlanRule} {a1 : Option Addr} {c1 : Nat} {x2 : List Int} {a2 : Option Addr} {c2 : Nat} (hS : St w s (R)) (h0_0 : Sl 5 RPlanRule s a0_0 c0_0 x0.Rules) (h1 : Sl 5 RPlanRule s a1 c1 x1) (h2 : Sl 1 (RI .i64) s a2 c2 x2) {r : Bool} (hr : Fishref2Solvable fu x0 x1 x2 = some r) :
    Calls Try.prog 25 [.agg [.int .i64 x0.Period, .int .i64 x0.Events, .slice a0_0 x0.Rules.length c0_0].toArray, .slice a1 x1.length c1, .slice a2 x2.length c2].toArray w (fun e w => e = .returned (.bool r) ∧ St w s (R)) := by
  refine enter Try.func25 rfl rfl rfl fun a hE => ?_
  rw [Fishref2Solvable] at hr
  refine W.seq ?_
  refine W.region ?_
  refine WL.box hE hS (runs_plain rfl) rfl rfl rfl ?_; clear hE hS a w; intro b51 a w hE hS
  refine WL.vS hS hE (runs_plain rfl) (Gives.p hE rfl) rfl ?_; clear hE a; intro a hE
  refine WL.nil ?_
  refine W.seq ?_
  refine W.region ?_
  refine WL.vS hS hE (runs_plain rfl) (Gives.loadBA hE 0 rfl rfl ty24) rfl ?_; clear hE a; intro a hE
  obtain ⟨q52, hq53, hr⟩ := bindS hr
  have hc_ := Fishref2free_ok hS h0_0 hq53
  refine WL.fnq hE (hc_) (runs_plain rfl) bd55 rfl rfl rfl ?_
  clear hE hS hc_; rintro e w ⟨a54, c55, s57, rfl, hle58, h56, hS⟩; refine ⟨_, rfl, ?_⟩; clear a; intro a hE
  replace h0_0 := Sl.mono RPlanRule.mono hle58 h0_0
  replace h1 := Sl.mono RPlanRule.mono hle58 h1
  replace h2 := Sl.mono RI.mono hle58 h2
  refine WL.vS hS hE (runs_plain rfl) (Gives.p hE rfl) rfl ?_; clear hE a; intro a hE
  refine WL.vS hS hE (runs_plain rfl) (Gives.p hE rfl) rfl ?_; clear hE a; intro a hE
  refine WL.nil ?_
  refine W.seq ?_
  refine W.seq ?_
  refine W.region ?_
  refine WL.vS hS hE (runs_plain rfl) (Gives.p hE rfl) rfl ?_; clear hE a; intro a hE
  refine WL.vS hS hE (runs_plain rfl) (Gives.len hE rfl sl29) rfl ?_; clear hE a; intro a hE
  refine WL.vS hS hE (runs_plain rfl) (Gives.p hE rfl) rfl ?_; clear hE a; intro a hE
  refine WL.nil ?_
  obtain ⟨q60, hq59, hr⟩ := bindS hr
  refine W.cut (fun a w => ∃ (q70 : List (List Int)), ∃ (a71 : Option Addr), ∃ (c72 : Nat), ∃ (s68 : Sg), s57.Le s68 ∧ (.next q70) = q60 ∧ Sl 1 (RL 1 (RI .i64)) s68 a71 c72 q70 ∧ Rep a 69 [(1, .slice a1 x1.length c1), (3, .pointer (some ⟨b51, 0, none⟩)), (7, .slice a71 q70.length c72)] ∧ St w s68 (pt b51 (.cells #[.int .i64 x0.Period, .int .i64 x0.Events, .slice a0_0 x0.Rules.length c0_0] 24 (0, 0)) :: R)) ?_ ?_
  · refine W.block ?_
    refine W.loop (fun m a w => ∃ (rest63 : List Int) (k61 : Nat), ∃ (q70 : List (List Int)), ∃ (a71 : Option Addr), ∃ (c72 : Nat), ∃ (s68 : Sg), rest63.length = m ∧ x2.drop k61 = rest63 ∧ s57.Le s68 ∧ Fishref2Solvable.loop1 x2 rest63 k61 q70 = some q60 ∧ Sl 1 (RL 1 (RI .i64)) s68 a71 c72 q70 ∧ Rep a 69 [(1, .slice a1 x1.length c1), (2, .slice a2 x2.length c2), (3, .pointer (some ⟨b51, 0, none⟩)), (7, .slice a71 q70.length c72), (15, .slice a2 x2.length c2), (16, .int .i64 ((x2).length : Int)), (17, .int .i64 ((k61 : Nat) : Int))] ∧ St w s68 (pt b51 (.cells #[.int .i64 x0.Period, .int .i64 x0.Events, .slice a0_0 x0.Rules.length c0_0] 24 (0, 0)) :: R)) (m := x2.length) ⟨x2, 0, q52, a54, c55, s57, rfl, rfl, (Sg.Le.refl _), hq59, h56, hE.pick _ ⟨rfl, rfl, rfl, rfl, rfl, rfl, rfl, trivial⟩, hS⟩ ?_
    clear hE hS a w hq59; rintro m67 a w ⟨rest63, k61, q70, a71, c72, s68, rfl, hd64, hle69, hq59, h73, hE, hS⟩
    refine W.gen fun K74 hK74 => ?_
    replace h0_0 := Sl.mono RPlanRule.mono hle69 h0_0
    replace h1 := Sl.mono RPlanRule.mono hle69 h1
    replace h2 := Sl.mono RI.mono hle69 h2
    replace h56 := Sl.mono (RL.mono RI.mono) hle69 h56
    rcases rest63 with _ | ⟨x62, rest63⟩
    · have hlt65 := drop_nil hd64
      refine W.seq ?_
      refine W.region ?_
      refine WL.vS hS hE (runs_plain rfl) (Gives.p hE rfl) rfl ?_; clear hE a; intro a hE
      refine WL.nil ?_
      refine W.seq ?_
      refine W.condF hE rfl (decide_eq_false (by omega)) ?_
      subst hK74
      refine W.exit rfl ?_
      exact ⟨q70, a71, c72, s68, hle69, Option.some.inj hq59, h73, hE.pick _ ⟨rfl, rfl, rfl, trivial⟩, hS⟩
    · obtain ⟨hlt65, hx66, hd64⟩ := drop_cons hd64
      rw [Fishref2Solvable.loop1] at hq59
      refine W.seq ?_
      refine W.region ?_
      refine WL.vS hS hE (runs_plain rfl) (Gives.p hE rfl) rfl ?_; clear hE a; intro a hE
      refine WL.nil ?_
      refine W.seq ?_
      refine W.condT hE rfl (decide_eq_true (by omega)) ?_
      refine W.skip ?_
      refine W.seq ?_
      refine W.block ?_
      refine W.seq ?_
      refine W.region ?_
      refine WL.vS hS hE (runs_plain rfl) (Gives.p hE rfl) rfl ?_; clear hE a; intro a hE
      obtain ⟨cs75, hl76, hR77, hat78⟩ := h2.at hx66
      subst hR77
      refine WL.vS hS hE (runs_plain rfl) (Gives.idx hE k61 rfl rfl sl29 rfl hlt65 (h2.aok hlt65)) rfl ?_; clear hE a; intro a hE
      refine WL.vS hS hE (runs_plain rfl) (Gives.load1 hE rfl (fun w h => hat78 w _ h) ty3) rfl ?_; clear hE a; intro a hE
      refine WL.vS hS hE (runs_plain rfl) (Gives.p hE rfl) rfl ?_; clear hE a; intro a hE
      refine WL.vS hS hE (runs_plain rfl) (Gives.p hE rfl) rfl ?_; clear hE a; intro a hE
      refine WL.nil ?_
      refine W.seq ?_
      refine W.seq ?_
      refine W.region ?_
      refine WL.vS hS hE (runs_plain rfl) (Gives.p hE rfl) rfl ?_; clear hE a; intro a hE
      refine WL.vS hS hE (runs_plain rfl) (Gives.p hE rfl) rfl ?_; clear hE a; intro a hE
      refine WL.vS hS hE (runs_plain rfl) (Gives.p hE rfl) rfl ?_; clear hE a; intro a hE
      refine WL.vS hS hE (runs_plain rfl) (Gives.p hE rfl) rfl ?_; clear hE a; intro a hE
      obtain ⟨x79, hx80, hq59⟩ := bindS hq59
      obtain ⟨hi81, hlt82, hy83⟩ := gx_some hx80
      obtain ⟨cs84, hl85, hR86, hat87⟩ := h2.at hy83
      subst hR86
      refine WL.vS hS hE (runs_plain rfl) (Gives.idx hE ((0 : Int)).toNat rfl rfl sl29 hi81 hlt82 (h2.aok hlt82)) rfl ?_; clear hE a; intro a hE
      refine WL.vS hS hE (runs_plain rfl) (Gives.load1 hE rfl (fun w h => hat87 w _ h) ty3) rfl ?_; clear hE a; intro a hE
      refine WL.vS hS hE (runs_plain rfl) (Gives.p hE rfl) rfl ?_; clear hE a; intro a hE
      obtain ⟨q88, hq89, hq59⟩ := bindS hq59
      have hc_ := Fishref2Boundstighter_ok hS h73 hq89
      refine WL.fnq hE (hc_) (runs_plain rfl) bd56 rfl rfl rfl ?_
      clear hE hS hc_; rintro e w ⟨a90, c91, s93, rfl, hle94, h92, hS⟩; refine ⟨_, rfl, ?_⟩; clear a; intro a hE
      replace h1 := Sl.mono RPlanRule.mono hle94 h1
      replace h2 := Sl.mono RI.mono hle94 h2
      replace h73 := Sl.mono (RL.mono RI.mono) hle94 h73
      replace h0_0 := Sl.mono RPlanRule.mono hle94 h0_0
      refine WL.vS hS hE (runs_plain rfl) (Gives.p hE rfl) rfl ?_; clear hE a; intro a hE
      refine WL.vS hS hE (runs_plain rfl) (Gives.p hE rfl) rfl ?_; clear hE a; intro a hE
      refine WL.vS hS hE (runs_plain rfl) (Gives.p hE rfl) rfl ?_; clear hE a; intro a hE
      refine WL.vS hS hE (runs_plain rfl) (Gives.p hE rfl) rfl ?_; clear hE a; intro a hE
      refine WL.vS hS hE (runs_plain rfl) (Gives.p hE rfl) rfl ?_; clear hE a; intro a hE
      refine WL.nil ?_
      refine W.seq ?_
      refine W.region ?_
      refine WL.vS hS hE (runs_plain rfl) (Gives.p hE rfl) rfl ?_; clear hE a; intro a hE
      refine WL.vS hS hE (runs_plain rfl) (Gives.p hE rfl) rfl ?_; clear hE a; intro a hE
      refine WL.nil ?_
      refine W.cond hE rfl (fun hc95 => ?_) (fun hc95 => ?_)
      · replace hq59 := iteT hc95 hq59
        refine W.seq ?_
        refine W.region ?_
        refine WL.vS hS hE (runs_plain rfl) (Gives.p hE rfl) rfl ?_; clear hE a; intro a hE
        refine WL.nil ?_
        refine W.ret ?_
        subst hK74
        rw [← Option.some.inj hq59] at hr
        dsimp only at hr
        refine finG (fn := Try.f25) (rs := [.tmp 6]) (vs := [_]) hE rfl ⟨rfl, trivial⟩ ?_
        obtain rfl := Option.some.inj hr
        replace hS := hS.tail
        exact ⟨rfl, (hS.down (Sg.Le.trans (Sg.Le.trans hle58 hle69) hle94))⟩
      · replace hq59 := iteF hc95 hq59
        refine W.skip ?_
        refine W.seq ?_
        refine W.region ?_
        refine WL.vS hS hE (runs_plain rfl) (Gives.p hE rfl) rfl ?_; clear hE a; intro a hE
        refine WL.vS hS hE (runs_plain rfl) (Gives.p hE rfl) rfl ?_; clear hE a; intro a hE
        refine WL.vS hS hE (runs_plain rfl) (Gives.p hE rfl) rfl ?_; clear hE a; intro a hE
        obtain ⟨x96, hx97, hq59⟩ := bindS hq59
        obtain ⟨hi98, hlt99, hy100⟩ := gx_some hx97
        obtain ⟨cs101, hl102, hR103, hat104⟩ := h2.at hy100
        subst hR103
        refine WL.vS hS hE (runs_plain rfl) (Gives.idx hE ((0 : Int)).toNat rfl rfl sl29 hi98 hlt99 (h2.aok hlt99)) rfl ?_; clear hE a; intro a hE
        refine WL.vS hS hE (runs_plain rfl) (Gives.load1 hE rfl (fun w h => hat104 w _ h) ty3) rfl ?_; clear hE a; intro a hE
        refine WL.vS hS hE (runs_plain rfl) (Gives.p hE rfl) rfl ?_; clear hE a; intro a hE
        refine WL.vS hS hE (runs_plain rfl) (Gives.p hE rfl) rfl ?_; clear hE a; intro a hE
        obtain ⟨q105, hq106, hq59⟩ := bindS hq59
        have hc_ := Fishref2Boundstighter_ok hS h92 hq106
        refine WL.fnq hE (hc_) (runs_plain rfl) bd56 rfl rfl rfl ?_
        clear hE hS hc_; rintro e w ⟨a107, c108, s110, rfl, hle111, h109, hS⟩; refine ⟨_, rfl, ?_⟩; clear a; intro a hE
        replace h1 := Sl.mono RPlanRule.mono hle111 h1
        replace h2 := Sl.mono RI.mono hle111 h2
        replace h92 := Sl.mono (RL.mono RI.mono) hle111 h92
        replace h73 := Sl.mono (RL.mono RI.mono) hle111 h73
        replace h0_0 := Sl.mono RPlanRule.mono hle111 h0_0
        refine WL.vS hS hE (runs_plain rfl) (Gives.p hE rfl) rfl ?_; clear hE a; intro a hE
        refine WL.vS hS hE (runs_plain rfl) (Gives.p hE rfl) rfl ?_; clear hE a; intro a hE
        refine WL.vS hS hE (runs_plain rfl) (Gives.p hE rfl) rfl ?_; clear hE a; intro a hE
        refine WL.vS hS hE (runs_plain rfl) (Gives.p hE rfl) rfl ?_; clear hE a; intro a hE
        refine WL.vS hS hE (runs_plain rfl) (Gives.p hE rfl) rfl ?_; clear hE a; intro a hE
        refine WL.nil ?_
        refine W.seq ?_
        refine W.region ?_
        refine WL.vS hS hE (runs_plain rfl) (Gives.p hE rfl) rfl ?_; clear hE a; intro a hE
        refine WL.vS hS hE (runs_plain rfl) (Gives.p hE rfl) rfl ?_; clear hE a; intro a hE
        refine WL.nil ?_
        refine W.cond hE rfl (fun hc112 => ?_) (fun hc112 => ?_)
        · replace hq59 := iteT hc112 hq59
          refine W.seq ?_
          refine W.region ?_
          refine WL.vS hS hE (runs_plain rfl) (Gives.p hE rfl) rfl ?_; clear hE a; intro a hE
          refine WL.nil ?_
          refine W.ret ?_
          subst hK74
          rw [← Option.some.inj hq59] at hr
          dsimp only at hr
          refine finG (fn := Try.f25) (rs := [.tmp 6]) (vs := [_]) hE rfl ⟨rfl, trivial⟩ ?_
          obtain rfl := Option.some.inj hr
          replace hS := hS.tail
          exact ⟨rfl, (hS.down (Sg.Le.trans (Sg.Le.trans (Sg.Le.trans hle58 hle69) hle94) hle111))⟩
        · replace hq59 := iteF hc112 hq59
          refine W.skip ?_
          refine W.region ?_
          refine WL.vS hS hE (runs_plain rfl) (Gives.inc hE rfl (by have := h2.small; omega)) rfl ?_; clear hE a; intro a hE
          refine WL.vS hS hE (runs_plain rfl) (Gives.p hE rfl) rfl ?_; clear hE a; intro a hE
          refine WL.nil ?_
          subst hK74
          exact ⟨rest63.length, Nat.lt_succ_self _, rest63, k61 + 1, q105.1, a107, c108, s110, rfl, hd64, (Sg.Le.trans (Sg.Le.trans hle69 hle94) hle111), hq59, h109, hE.pick _ ⟨rfl, rfl, rfl, rfl, rfl, rfl, rfl, trivial⟩, hS⟩
  · clear hE hS a w; rintro a w ⟨q70, a71, c72, s68, hle69, rfl, h73, hE, hS⟩
    dsimp only at hr
    replace h0_0 := Sl.mono RPlanRule.mono hle69 h0_0
    replace h1 := Sl.mono RPlanRule.mono hle69 h1
    replace h2 := Sl.mono RI.mono hle69 h2
    replace h56 := Sl.mono (RL.mono RI.mono) hle69 h56
    refine W.seq ?_
    refine W.seq ?_
    refine W.region ?_
    refine WL.vS hS hE (runs_plain rfl) (Gives.fld hE rfl fl24_1) rfl ?_; clear hE a; intro a hE
    refine WL.vS hS hE (runs_plain rfl) (Gives.loadB hE 0 rfl rfl rfl ty3) rfl ?_; clear hE a; intro a hE
    refine WL.vS hS hE (runs_plain rfl) (Gives.p hE rfl) rfl ?_; clear hE a; intro a hE
    refine WL.nil ?_
    obtain ⟨q125, hq124, hr⟩ := bindS hr
    refine W.cut (fun a w => ∃ (q130 : List (List Int)), ∃ (q134 : Int), ∃ (a131 : Option Addr), ∃ (c132 : Nat), ∃ (s128 : Sg), s68.Le s128 ∧ (.next (q130, q134)) = q125 ∧ Sl 1 (RL 1 (RI .i64)) s128 a131 c132 q130 ∧ Rep a 69 [(1, .slice a1 x1.length c1), (3, .pointer (some ⟨b51, 0, none⟩)), (7, .slice a131 q130.length c132)] ∧ St w s128 (pt b51 (.cells #[.int .i64 x0.Period, .int .i64 x0.Events, .slice a0_0 x0.Rules.length c0_0] 24 (0, 0)) :: R)) ?_ ?_
    · refine W.block ?_
      refine W.loop (fun m a w => ∃ (n126 : Nat), ∃ (q130 : List (List Int)), ∃ (q134 : Int), ∃ (a131 : Option Addr), ∃ (c132 : Nat), ∃ (s128 : Sg), n126 = m ∧ s68.Le s128 ∧ Fishref2Solvable.loop3 x0 n126 q130 q134 = some q125 ∧ Sl 1 (RL 1 (RI .i64)) s128 a131 c132 q130 ∧ Rep a 69 [(1, .slice a1 x1.length c1), (3, .pointer (some ⟨b51, 0, none⟩)), (7, .slice a131 q130.length c132), (50, .int .i64 x0.Events), (51, .int .i64 q134)] ∧ St w s128 (pt b51 (.cells #[.int .i64 x0.Period, .int .i64 x0.Events, .slice a0_0 x0.Rules.length c0_0] 24 (0, 0)) :: R)) (m := fu) ⟨fu, q70, 0, a71, c72, s68, rfl, (Sg.Le.refl _), hq124, h73, hE.pick _ ⟨rfl, rfl, rfl, rfl, rfl, trivial⟩, hS⟩ ?_
      clear hE hS a w hq124; rintro m127 a w ⟨n126, q130, q134, a131, c132, s128, rfl, hle129, hq124, h133, hE, hS⟩
      refine W.gen fun K135 hK135 => ?_
      replace h1 := Sl.mono RPlanRule.mono hle129 h1
      replace h73 := Sl.mono (RL.mono RI.mono) hle129 h73
      replace h0_0 := Sl.mono RPlanRule.mono hle129 h0_0
      rcases n126 with _ | n126
      · rw [Fishref2Solvable.loop3] at hq124; exact absurd hq124 (by simp)
      rw [Fishref2Solvable.loop3] at hq124
      refine W.seq ?_
      refine W.region ?_
      refine WL.vS hS hE (runs_plain rfl) (Gives.p hE rfl) rfl ?_; clear hE a; intro a hE
      refine WL.nil ?_
      refine W.seq ?_
      refine W.cond hE rfl (fun hc136 => ?_) (fun hc136 => ?_)
      · replace hq124 := iteT hc136 hq124
        refine W.skip ?_
        refine W.seq ?_
        refine W.block ?_
        refine W.seq ?_
        refine W.region ?_
        refine WL.vS hS hE (runs_plain rfl) (Gives.p hE rfl) rfl ?_; clear hE a; intro a hE
        refine WL.vS hS hE (runs_plain rfl) (Gives.p hE rfl) rfl ?_; clear hE a; intro a hE
        refine WL.nil ?_
        refine W.seq ?_
        refine W.region ?_
        refine WL.vS hS hE (runs_plain rfl) (Gives.p hE rfl) rfl ?_; clear hE a; intro a hE
        refine WL.vS hS hE (runs_plain rfl) (Gives.p hE rfl) rfl ?_; clear hE a; intro a hE
        obtain ⟨q137, hq138, hq124⟩ := bindS hq124
        have hc_ := Fishref2Boundstighter_ok hS h133 hq138
        refine WL.fnq hE (hc_) (runs_plain rfl) bd56 rfl rfl rfl ?_
        clear hE hS hc_; rintro e w ⟨a139, c140, s142, rfl, hle143, h141, hS⟩; refine ⟨_, rfl, ?_⟩; clear a; intro a hE
        replace h1 := Sl.mono RPlanRule.mono hle143 h1
        replace h133 := Sl.mono (RL.mono RI.mono) hle143 h133
        replace h0_0 := Sl.mono RPlanRule.mono hle143 h0_0
        refine WL.vS hS hE (runs_plain rfl) (Gives.p hE rfl) rfl ?_; clear hE a; intro a hE
        refine WL.vS hS hE (runs_plain rfl) (Gives.p hE rfl) rfl ?_; clear hE a; intro a hE
        refine WL.vS hS hE (runs_plain rfl) (Gives.p hE rfl) rfl ?_; clear hE a; intro a hE
        refine WL.vS hS hE (runs_plain rfl) (Gives.p hE rfl) rfl ?_; clear hE a; intro a hE
        refine WL.vS hS hE (runs_plain rfl) (Gives.p hE rfl) rfl ?_; clear hE a; intro a hE
        refine WL.nil ?_
        refine W.seq ?_
        refine W.region ?_
        refine WL.vS hS hE (runs_plain rfl) (Gives.p hE rfl) rfl ?_; clear hE a; intro a hE
        refine WL.vS hS hE (runs_plain rfl) (Gives.p hE rfl) rfl ?_; clear hE a; intro a hE
        refine WL.nil ?_
        refine W.cond hE rfl (fun hc144 => ?_) (fun hc144 => ?_)
        · replace hq124 := iteT hc144 hq124
          refine W.seq ?_
          refine W.region ?_
          refine WL.vS hS hE (runs_plain rfl) (Gives.p hE rfl) rfl ?_; clear hE a; intro a hE
          refine WL.nil ?_
          refine W.ret ?_
          subst hK135
          rw [← Option.some.inj hq124] at hr
          dsimp only at hr
          refine finG (fn := Try.f25) (rs := [.tmp 6]) (vs := [_]) hE rfl ⟨rfl, trivial⟩ ?_
          obtain rfl := Option.some.inj hr
          replace hS := hS.tail
          exact ⟨rfl, (hS.down (Sg.Le.trans (Sg.Le.trans (Sg.Le.trans hle58 hle69) hle129) hle143))⟩
        · replace hq124 := iteF hc144 hq124
          refine W.skip ?_
          refine W.region ?_
          refine WL.vS hS hE (runs_plain rfl) (Gives.p hE rfl) rfl ?_; clear hE a; intro a hE
          refine WL.vS hS hE (runs_plain rfl) (Gives.p hE rfl) rfl ?_; clear hE a; intro a hE
          refine WL.nil ?_
          subst hK135
          exact ⟨n126, Nat.lt_succ_self _, n126, q137.1, (w64 (q134 + 1)), a139, c140, s142, rfl, (Sg.Le.trans hle129 hle143), hq124, h141, hE.pick _ ⟨rfl, rfl, rfl, rfl, rfl, trivial⟩, hS⟩
      · replace hq124 := iteF hc136 hq124
        subst hK135
        refine W.exit rfl ?_
        exact ⟨q130, q134, a131, c132, s128, hle129, Option.some.inj hq124, h133, hE.pick _ ⟨rfl, rfl, rfl, trivial⟩, hS⟩
    · clear hE hS a w; rintro a w ⟨q130, q134, a131, c132, s128, hle129, rfl, h133, hE, hS⟩
      dsimp only at hr
      replace h1 := Sl.mono RPlanRule.mono hle129 h1
      replace h73 := Sl.mono (RL.mono RI.mono) hle129 h73
      replace h0_0 := Sl.mono RPlanRule.mono hle129 h0_0
      refine W.seq ?_
      refine W.region ?_
      refine WL.vS hS hE (runs_plain rfl) (Gives.p hE rfl) rfl ?_; clear hE a; intro a hE
      refine WL.nil ?_
      refine W.seq ?_
      refine W.region ?_
      refine WL.vS hS hE (runs_plain rfl) (Gives.loadBA hE 0 rfl rfl ty24) rfl ?_; clear hE a; intro a hE
      refine WL.vS hS hE (runs_plain rfl) (Gives.p hE rfl) rfl ?_; clear hE a; intro a hE
      refine WL.vS hS hE (runs_plain rfl) (Gives.p hE rfl) rfl ?_; clear hE a; intro a hE
      refine WL.vS hS hE (runs_plain rfl) (Gives.p hE rfl) rfl ?_; clear hE a; intro a hE
      refine WL.vS hS hE (runs_plain rfl) (Gives.p hE rfl) rfl ?_; clear hE a; intro a hE
      obtain ⟨q145, hq146, hr⟩ := bindS hr
      have hc_ := Fishref2shifts_v1_ok hS h0_0 h133 h1 hq146
      refine WL.fnq hE (hc_) (runs_plain rfl) bd58 rfl rfl rfl ?_
      clear hE hS hc_; rintro e w ⟨rfl, hS⟩; refine ⟨_, rfl, ?_⟩; clear a; intro a hE
      refine WL.vS hS hE (runs_plain rfl) (Gives.p hE rfl) rfl ?_; clear hE a; intro a hE
      refine WL.nil ?_
      refine W.ret ?_
      refine finG (fn := Try.f25) (rs := [.tmp 6]) (vs := [_]) hE rfl ⟨rfl, trivial⟩ ?_
      obtain rfl := Option.some.inj hr
      replace hS := hS.tail
      exact ⟨rfl, (hS.down (Sg.Le.trans (Sg.Le.trans hle58 hle69) hle129))⟩
set_option maxHeartbeats 8000000 in
theorem Fishref2CoreOf_1_v1_ok  {w : World} {s : Sg} {R : List HP} {pb0 : Nat} {pb1 : Nat} {y0 : PlanPeriodic} {a_y0_2 : Option Addr} {c_y0_2 : Nat} {y1 : List Bool} {a_v0 : Option Addr} {c_v0 n_v0 : Nat} {cs_v0 : List Value} (hS : St w s (pt pb0 (.cells #[.int .i64 y0.Period, .int .i64 y0.Events, .slice a_y0_2 y0.Rules.length c_y0_2] 24 (0, 0)) :: pt pb1 (.cells #[.slice a_v0 n_v0 c_v0] 71 (0, 0)) :: vecC 4 1 a_v0 c_v0 n_v0 cs_v0 :: R)) (h_y0_2 : Sl 5 RPlanRule s a_y0_2 c_y0_2 y0.Rules) (h_v0 : Ev 1 RB s cs_v0 y1) (hn_v0 : y1.length = n_v0) {r : (List PlanRule)} (hr : Fishref2CoreOf_1_v1 y0 y1 = some r) :
    Calls Try.prog 47 [.pointer (some ⟨pb0, 0, none⟩), .pointer (some ⟨pb1, 0, none⟩)].toArray w (fun e w => ∃ (a0 : Option Addr) (c0 n0 : Nat) (cs0 : List Value), e = .returned (.slice a0 n0 c0) ∧ Ev 5 RPlanRule s cs0 r ∧ r.length = n0 ∧ St w s (vecC 37 5 a0 c0 n0 cs0 :: pt pb0 (.cells #[.int .i64 y0.Period, .int .i64 y0.Events, .slice a_y0_2 y0.Rules.length c_y0_2] 24 (0, 0)) :: pt pb1 (.cells #[.slice a_v0 n_v0 c_v0] 71 (0, 0)) :: vecC 4 1 a_v0 c_v0 n_v0 cs_v0 :: R)) := by
  refine enter Try.func47 rfl rfl rfl fun a hE => ?_
  rw [Fishref2CoreOf_1_v1] at hr
  subst hn_v0
  refine W.seq ?_
  refine W.region ?_
  refine WL.vS hS hE (runs_plain rfl) (Gives.p hE rfl) rfl ?_; clear hE a; intro a hE
  refine WL.nil ?_
  refine W.seq ?_
  refine W.region ?_
  replace hS := hS.vecNil 37 5
  refine WL.vS hS hE (runs_plain rfl) (Gives.p hE rfl) rfl ?_; clear hE a; intro a hE
  refine WL.nil ?_
  refine W.seq ?_
  refine W.seq ?_
  refine W.region ?_
  refine WL.vS hS hE (runs_plain rfl) (Gives.fld hE rfl fl24_2) rfl ?_; clear hE a; intro a hE
  refine WL.vS hS hE (runs_plain rfl) (Gives.loadB hE 1 rfl rfl rfl ty22) rfl ?_; clear hE a; intro a hE
  refine WL.vS hS hE (runs_plain rfl) (Gives.len hE rfl sl22) rfl ?_; clear hE a; intro a hE
  refine WL.vS hS hE (runs_plain rfl) (Gives.p hE rfl) rfl ?_; clear hE a; intro a hE
  refine WL.nil ?_
  obtain ⟨q53, hq52, hr⟩ := bindS hr
  refine W.cut (fun a w => ∃ (q63 : List PlanRule), ∃ (a64 : Option Addr), ∃ (c65 : Nat), ∃ (n67 : Nat), ∃ (cs68 : List Value), q63 = q53 ∧ Ev 5 RPlanRule s cs68 q63 ∧ q63.length = n67 ∧ Rep a 24 [(3, .slice a64 n67 c65)] ∧ St w s (vecC 37 5 a64 c65 n67 cs68 :: pt pb0 (.cells #[.int .i64 y0.Period, .int .i64 y0.Events, .slice a_y0_2 y0.Rules.length c_y0_2] 24 (0, 0)) :: pt pb1 (.cells #[.slice a_v0 y1.length c_v0] 71 (0, 0)) :: vecC 4 1 a_v0 c_v0 y1.length cs_v0 :: R)) ?_ ?_
  · refine W.block ?_
    refine W.loop (fun m a w => ∃ (rest56 : List PlanRule) (k54 : Nat), ∃ (q63 : List PlanRule), ∃ (a64 : Option Addr), ∃ (c65 : Nat), ∃ (n67 : Nat), ∃ (cs68 : List Value), rest56.length = m ∧ y0.Rules.drop k54 = rest56 ∧ Fishref2CoreOf_1_v1.loop1 y1 rest56 k54 q63 = some q53 ∧ Ev 5 RPlanRule s cs68 q63 ∧ q63.length = n67 ∧ Rep a 24 [(1, .pointer (some ⟨pb1, 0, none⟩)), (3, .slice a64 n67 c65), (7, .slice a_y0_2 y0.Rules.length c_y0_2), (8, .int .i64 ((y0.Rules).length : Int)), (9, .int .i64 ((k54 : Nat) : Int))] ∧ St w s (vecC 37 5 a64 c65 n67 cs68 :: pt pb0 (.cells #[.int .i64 y0.Period, .int .i64 y0.Events, .slice a_y0_2 y0.Rules.length c_y0_2] 24 (0, 0)) :: pt pb1 (.cells #[.slice a_v0 y1.length c_v0] 71 (0, 0)) :: vecC 4 1 a_v0 c_v0 y1.length cs_v0 :: R)) (m := y0.Rules.length) ⟨y0.Rules, 0, [], none, 0, 0, [], rfl, rfl, hq52, (Ev.nil), (rfl), hE.pick _ ⟨rfl, rfl, rfl, rfl, rfl, trivial⟩, hS⟩ ?_
    clear hE hS a w hq52; rintro m60 a w ⟨rest56, k54, q63, a64, c65, n67, cs68, rfl, hd57, hq52, h66, rfl, hE, hS⟩
    refine W.gen fun K70 hK70 => ?_
    rcases rest56 with _ | ⟨x55, rest56⟩
    · have hlt58 := drop_nil hd57
      refine W.seq ?_
      refine W.region ?_
      refine WL.vS hS hE (runs_plain rfl) (Gives.p hE rfl) rfl ?_; clear hE a; intro a hE
      refine WL.nil ?_
      refine W.seq ?_
      refine W.condF hE rfl (decide_eq_false (by omega)) ?_
      subst hK70
      refine W.exit rfl ?_
      exact ⟨q63, a64, c65, q63.length, cs68, Option.some.inj hq52, h66, rfl, hE.pick _ ⟨rfl, trivial⟩, hS⟩
    · obtain ⟨hlt58, hx59, hd57⟩ := drop_cons hd57
      rw [Fishref2CoreOf_1_v1.loop1] at hq52
      refine W.seq ?_
      refine W.region ?_
      refine WL.vS hS hE (runs_plain rfl) (Gives.p hE rfl) rfl ?_; clear hE a; intro a hE
      refine WL.nil ?_
      refine W.seq ?_
      refine W.condT hE rfl (decide_eq_true (by omega)) ?_
      refine W.skip ?_
      refine W.seq ?_
      refine W.block ?_
      refine W.seq ?_
      refine W.region ?_
      refine WL.vS hS hE (runs_plain rfl) (Gives.p hE rfl) rfl ?_; clear hE a; intro a hE
      obtain ⟨cs71, hl72, hR73, hat74⟩ := h_y0_2.at hx59
      subst hR73
      refine WL.vS hS hE (runs_plain rfl) (Gives.idx hE k54 rfl rfl sl22 rfl hlt58 (h_y0_2.aok hlt58)) rfl ?_; clear hE a; intro a hE
      refine WL.vS hS hE (runs_plain rfl) (Gives.loadA hE rfl (fun w h => hat74 w _ h) ty37) rfl ?_; clear hE a; intro a hE
      refine WL.alloc hE hS (runs_plain rfl) zr37 rfl ?_; clear hE hS a w; intro b75 a w hE hS
      refine WL.vS hS hE (runs_plain rfl) (Gives.p hE rfl) rfl ?_; clear hE a; intro a hE
      refine WL.storeI hE hS 0 rfl (PlanRule.cells x55) (runs_plain rfl) rfl rfl rfl ty37 rfl rfl rfl rfl ?_; clear hE hS a w; intro a w hE hS
      refine WL.nil ?_
      refine W.seq ?_
      refine W.region ?_
      refine WL.vS hS hE (runs_plain rfl) (Gives.loadB hE 3 rfl rfl rfl ty71) rfl ?_; clear hE a; intro a hE
      refine WL.vS hS hE (runs_plain rfl) (Gives.p hE rfl) rfl ?_; clear hE a; intro a hE
      obtain ⟨x76, hx77, hq52⟩ := bindS hq52
      obtain ⟨hi78, hlt79, hy80⟩ := gx_some hx77
      obtain ⟨vs81, hl82, hR83, hd84, hget85⟩ := h_v0.at hy80
      subst hR83
      refine WL.vS hS hE (runs_plain rfl) (Gives.idx hE ((((k54 : Nat) : Int)).toNat) rfl rfl sl71 hi78 (by omega) (hS.vecAok 4 rfl (by omega : (((k54 : Nat) : Int)).toNat < y1.length))) rfl ?_; clear hE a; intro a hE
      refine WL.vS hS hE (runs_plain rfl) (Gives.load1 hE rfl (fun w h => St.vecSees h 4 rfl ((((k54 : Nat) : Int)).toNat * 1) _ hget85) ty4) rfl ?_; clear hE a; intro a hE
      refine WL.nil ?_
      obtain ⟨q87, hq86, hq52⟩ := bindS hq52
      refine W.cut (fun a w => ∃ (q90 : List PlanRule), ∃ (a91 : Option Addr), ∃ (c92 : Nat), ∃ (n94 : Nat), ∃ (cs95 : List Value), q90 = q87 ∧ Ev 5 RPlanRule s cs95 q90 ∧ q90.length = n94 ∧ Rep a 24 [(1, .pointer (some ⟨pb1, 0, none⟩)), (3, .slice a91 n94 c92), (7, .slice a_y0_2 y0.Rules.length c_y0_2), (8, .int .i64 ((y0.Rules).length : Int)), (9, .int .i64 ((k54 : Nat) : Int))] ∧ St w s (pt b75 (.cells (PlanRule.cells x55).toArray 37 (0, 0)) :: vecC 37 5 a91 c92 n94 cs95 :: pt pb0 (.cells #[.int .i64 y0.Period, .int .i64 y0.Events, .slice a_y0_2 y0.Rules.length c_y0_2] 24 (0, 0)) :: pt pb1 (.cells #[.slice a_v0 y1.length c_v0] 71 (0, 0)) :: vecC 4 1 a_v0 c_v0 y1.length cs_v0 :: R)) ?_ ?_
      · refine W.gen fun K97 hK97 => ?_
        refine W.cond hE rfl (fun hc98 => ?_) (fun hc98 => ?_)
        · replace hq86 := iteT hc98 hq86
          refine W.region ?_
          refine WL.vS hS hE (runs_plain rfl) (Gives.p hE rfl) rfl ?_; clear hE a; intro a hE
          refine WL.vS hS hE (runs_plain rfl) (Gives.loadBA hE 0 rfl rfl ty37) rfl ?_; clear hE a; intro a hE
          refine WL.lit hE hS (e := 37) (es := 5) (vs := [(0, .agg (PlanRule.cells x55).toArray)]) (cs := [.int .i64 x55.From, .int .i64 x55.To, .int .i64 x55.Min, .int .i64 x55.Max, .int .i64 x55.Weight]) (runs_plain rfl) rfl (by kernel_rfl) rfl ?_; clear hE hS a w; intro b99 a w hE hS
          obtain ⟨x100, hx101, hq86⟩ := bindS hq86
          refine WL.appD hE hS 1 (m := 1) (runs_plain rfl) rfl rfl rfl ap22 rfl h66 rfl (xs := [x55]) (Ev.cons (c1 := [.int .i64 x55.From, .int .i64 x55.To, .int .i64 x55.Min, .int .i64 x55.Max, .int .i64 x55.Weight]) rfl rfl (Ev.nil)) rfl rfl hx101 rfl ?_; clear hE hS a w; intro a102 c103 cs104 a w h105 hE hS
          refine WL.vS hS hE (runs_plain rfl) (Gives.p hE rfl) rfl ?_; clear hE a; intro a hE
          refine WL.nil ?_
          subst hK97
          exact ⟨x100, a102, c103, x100.length, cs104, Option.some.inj hq86, h105, (rfl), hE.pick _ ⟨rfl, rfl, rfl, rfl, rfl, trivial⟩, hS⟩
        · replace hq86 := iteF hc98 hq86
          refine W.skip ?_
          subst hK97
          exact ⟨q63, a64, c65, q63.length, cs68, Option.some.inj hq86, h66, rfl, hE.pick _ ⟨rfl, rfl, rfl, rfl, rfl, trivial⟩, hS⟩
      · clear hE hS a w; rintro a w ⟨q90, a91, c92, n94, cs95, rfl, h93, rfl, hE, hS⟩
        refine W.region ?_
        refine WL.vS hS hE (runs_plain rfl) (Gives.inc hE rfl (by have := h_y0_2.small; omega)) rfl ?_; clear hE a; intro a hE
        refine WL.vS hS hE (runs_plain rfl) (Gives.p hE rfl) rfl ?_; clear hE a; intro a hE
        refine WL.nil ?_
        replace hS := hS.tail
        subst hK70
        exact ⟨rest56.length, Nat.lt_succ_self _, rest56, k54 + 1, q90, a91, c92, q90.length, cs95, rfl, hd57, hq52, h93, rfl, hE.pick _ ⟨rfl, rfl, rfl, rfl, rfl, trivial⟩, hS⟩
  · clear hE hS a w; rintro a w ⟨q63, a64, c65, n67, cs68, rfl, h66, rfl, hE, hS⟩
    refine W.seq ?_
    refine W.region ?_
    refine WL.vS hS hE (runs_plain rfl) (Gives.p hE rfl) rfl ?_; clear hE a; intro a hE
    refine WL.vS hS hE (runs_plain rfl) (Gives.p hE rfl) rfl ?_; clear hE a; intro a hE
    refine WL.nil ?_
    refine W.ret ?_
    refine finG (fn := Try.f47) (rs := [.tmp 2]) (vs := [_]) hE rfl ⟨rfl, trivial⟩ ?_
    obtain rfl := Option.some.inj hr
    exact ⟨a64, c65, q63.length, cs68, rfl, h66, rfl, hS⟩
set_option maxHeartbeats 8000000 in
theorem Fishref2CoreOf_ok {fu : Nat}  {w : World} {s : Sg} {R : List HP} {x0 : PlanPeriodic} {a0_0 : Option Addr} {c0_0 : Nat} (hS : St w s (R)) (h0_0 : Sl 5 RPlanRule s a0_0 c0_0 x0.Rules) {r : (List Int) × Bool} (hr : Fishref2CoreOf fu x0 = some r) :
    Calls Try.prog 23 [.agg [.int .i64 x0.Period, .int .i64 x0.Events, .slice a0_0 x0.Rules.length c0_0].toArray].toArray w (fun e w => ∃ (a0 : Option Addr) (c0 n0 : Nat) (cs0 : List Value) (t : Sg), e = .returned (.tuple #[.slice a0 n0 c0, .bool r.2]) ∧ s.Le t ∧ Ev 1 (RI .i64) t cs0 r.1 ∧ r.1.length = n0 ∧ St w t (vecC 3 1 a0 c0 n0 cs0 :: R)) := by
  refine enter Try.func23 rfl rfl rfl fun a hE => ?_
  rw [Fishref2CoreOf] at hr
  refine W.seq ?_
  refine W.region ?_
  refine WL.box hE hS (runs_plain rfl) rfl rfl rfl ?_; clear hE hS a w; intro b51 a w hE hS
  refine WL.vS hS hE (runs_plain rfl) (Gives.p hE rfl) rfl ?_; clear hE a; intro a hE
  refine WL.vS hS hE (runs_plain rfl) (Gives.p hE rfl) rfl ?_; clear hE a; intro a hE
  refine WL.nil ?_
  refine W.seq ?_
  refine W.seq ?_
  refine W.region ?_
  refine WL.vS hS hE (runs_plain rfl) (Gives.loadBA hE 0 rfl rfl ty24) rfl ?_; clear hE a; intro a hE
  refine WL.vS hS hE (runs_plain rfl) (Gives.fld hE rfl fl24_2) rfl ?_; clear hE a; intro a hE
  refine WL.vS hS hE (runs_plain rfl) (Gives.loadB hE 0 rfl rfl rfl ty22) rfl ?_; clear hE a; intro a hE
  refine WL.lit hE hS (e := 3) (es := 1) (vs := [(0, .int .i64 0)]) (cs := [.int .i64 0]) (runs_plain rfl) rfl (by kernel_rfl) rfl ?_; clear hE hS a w; intro b52 a w hE hS
  replace hS := hS.ptVec (es := 1) (m := 1) rfl (by decide)
  have h54 : Ev 1 (RI .i64) s [.int .i64 0] [0] := (Ev.cons (c1 := [.int .i64 0]) rfl rfl (Ev.nil))
  have hF := hS.fixD RI.mono 0 rfl h54 (rfl); clear hS; obtain ⟨s55, hle56, hS, h57⟩ := hF
  replace h0_0 := Sl.mono RPlanRule.mono hle56 h0_0
  obtain ⟨q58, hq59, hr⟩ := bindS hr
  have hc_ := Fishref2Solvable_ok hS h0_0 h0_0 h57 hq59
  refine WL.fnq hE (hc_) (runs_plain rfl) bd25 rfl rfl rfl ?_
  clear hE hS hc_; rintro e w ⟨rfl, hS⟩; refine ⟨_, rfl, ?_⟩; clear a; intro a hE
  refine WL.nil ?_
  refine W.cond hE rfl (fun hc60 => ?_) (fun hc60 => ?_)
  · replace hr := iteT hc60 hr
    refine W.seq ?_
    refine W.region ?_
    refine WL.vS hS hE (runs_plain rfl) (Gives.p hE rfl) rfl ?_; clear hE a; intro a hE
    refine WL.vS hS hE (runs_plain rfl) (Gives.p hE rfl) rfl ?_; clear hE a; intro a hE
    refine WL.nil ?_
    refine W.ret ?_
    replace hS := hS.vecNil 3 1
    refine finG (fn := Try.f23) (rs := [.tmp 2, .tmp 3]) (vs := [_, _]) hE rfl ⟨rfl, rfl, trivial⟩ ?_
    obtain rfl := Option.some.inj hr
    replace hS := hS.dropAt 1
    exact ⟨none, 0, 0, [], s55, rfl, hle56, (Ev.nil), (rfl), hS⟩
  · replace hr := iteF hc60 hr
    refine W.skip ?_
    refine W.seq ?_
    refine W.region ?_
    refine WL.lit hE hS (e := 4) (es := 1) (vs := [(0, .bool true)]) (cs := [.bool true]) (runs_plain rfl) rfl (by kernel_rfl) rfl ?_; clear hE hS a w; intro b62 a w hE hS
    replace hS := hS.ptVec (es := 1) (m := 1) rfl (by decide)
    have h64 : Ev 1 RB s55 [.bool true] [true] := (Ev.cons (c1 := [.bool true]) rfl rfl (Ev.nil))
    have hF := hS.fixD RB.mono 0 rfl h64 (rfl); clear hS; obtain ⟨s65, hle66, hS, h67⟩ := hF
    replace h0_0 := Sl.mono RPlanRule.mono hle66 h0_0
    replace h57 := Sl.mono RI.mono hle66 h57
    refine WL.vS hS hE (runs_plain rfl) (Gives.fld hE rfl fl24_2) rfl ?_; clear hE a; intro a hE
    refine WL.vS hS hE (runs_plain rfl) (Gives.loadB hE 0 rfl rfl rfl ty22) rfl ?_; clear hE a; intro a hE
    refine WL.vS hS hE (runs_plain rfl) (Gives.len hE rfl sl22) rfl ?_; clear hE a; intro a hE
    obtain ⟨q68, hq69, hr⟩ := bindS hr
    have hc_ := SlicesRepeatLbool_ok hS h67 hq69
    refine WL.fnq hE (hc_) (runs_plain rfl) bd46 rfl rfl rfl ?_
    clear hE hS hc_; rintro e w ⟨a70, c71, n72, cs73, rfl, h74, rfl, hS⟩; refine ⟨_, rfl, ?_⟩; clear a; intro a hE
    refine WL.alloc hE hS (runs_plain rfl) zr71 rfl ?_; clear hE hS a w; intro b76 a w hE hS
    refine WL.storeI hE hS 0 rfl [.slice a70 q68.length c71] (runs_plain rfl) rfl rfl rfl ty71 rfl rfl rfl rfl ?_; clear hE hS a w; intro a w hE hS
    refine WL.nil ?_
    refine W.seq ?_
    refine W.region ?_
    refine WL.vS hS hE (runs_plain rfl) (Gives.mkfn hE (vs := [.pointer (some ⟨b51, 0, none⟩), .pointer (some ⟨b76, 0, none⟩)]) rfl) rfl ?_; clear hE a; intro a hE
    refine WL.vS hS hE (runs_plain rfl) (Gives.p hE rfl) rfl ?_; clear hE a; intro a hE
    refine WL.nil ?_
    refine W.seq ?_
    refine W.seq ?_
    refine W.region ?_
    refine WL.vS hS hE (runs_plain rfl) (Gives.loadB hE 0 rfl rfl rfl ty71) rfl ?_; clear hE a; intro a hE
    refine WL.vS hS hE (runs_plain rfl) (Gives.len hE rfl sl71) rfl ?_; clear hE a; intro a hE
    refine WL.vS hS hE (runs_plain rfl) (Gives.p hE rfl) rfl ?_; clear hE a; intro a hE
    refine WL.nil ?_
    have hb88 : q68.length ≤ 9223372036854775807 := by have := hS.vecCap 1 rfl; unfold maxLen at this; omega
    obtain ⟨q78, hq77, hr⟩ := bindS hr
    refine W.cut (fun a w => ∃ (q89 : List Bool), ∃ (cs93 : List Value), ∃ (s86 : Sg), s65.Le s86 ∧ q89 = q78 ∧ Ev 1 RB s86 cs93 q89 ∧ q89.length = q68.length ∧ Rep a 52 [(4, .pointer (some ⟨b76, 0, none⟩))] ∧ St w s86 (pt b76 (.cells #[.slice a70 q68.length c71] 71 (0, 0)) :: vecC 4 1 a70 c71 q68.length cs93 :: pt b51 (.cells #[.int .i64 x0.Period, .int .i64 x0.Events, .slice a0_0 x0.Rules.length c0_0] 24 (0, 0)) :: R)) ?_ ?_
    · refine W.block ?_
      refine W.loop (fun m a w => ∃ (rest81 : Nat) (k79 : Nat), ∃ (q89 : List Bool), ∃ (cs93 : List Value), ∃ (s86 : Sg), rest81 = m ∧ k79 + rest81 = q68.length ∧ s65.Le s86 ∧ Fishref2CoreOf.loop1 x0 fu rest81 k79 q89 = some q78 ∧ Ev 1 RB s86 cs93 q89 ∧ q89.length = q68.length ∧ Rep a 52 [(1, .pointer (some ⟨b51, 0, none⟩)), (4, .pointer (some ⟨b76, 0, none⟩)), (5, .func (.func 47) #[] #[.pointer (some ⟨b51, 0, none⟩), .pointer (some ⟨b76, 0, none⟩)]), (22, .int .i64 ((q68.length : Nat) : Int)), (23, .int .i64 ((k79 : Nat) : Int))] ∧ St w s86 (pt b76 (.cells #[.slice a70 q68.length c71] 71 (0, 0)) :: vecC 4 1 a70 c71 q68.length cs93 :: pt b51 (.cells #[.int .i64 x0.Period, .int .i64 x0.Events, .slice a0_0 x0.Rules.length c0_0] 24 (0, 0)) :: R)) (m := q68.length) ⟨q68.length, 0, q68, cs73, s65, rfl, by omega, (Sg.Le.refl _), hq77, h74, rfl, hE.pick _ ⟨rfl, rfl, rfl, rfl, rfl, trivial⟩, hS⟩ ?_
      clear hE hS a w hq77; rintro m85 a w ⟨rest81, k79, q89, cs93, s86, rfl, hd82, hle87, hq77, h92, hn94, hE, hS⟩
      refine W.gen fun K95 hK95 => ?_
      replace h0_0 := Sl.mono RPlanRule.mono hle87 h0_0
      replace h57 := Sl.mono RI.mono hle87 h57
      replace h67 := Sl.mono RB.mono hle87 h67
      replace h74 := Ev.mono RB.mono hle87 h74
      rcases rest81 with _ | rest81
      · skip
        refine W.seq ?_
        refine W.region ?_
        refine WL.vS hS hE (runs_plain rfl) (Gives.p hE rfl) rfl ?_; clear hE a; intro a hE
        refine WL.nil ?_
        refine W.seq ?_
        refine W.condF hE rfl (decide_eq_false (by omega)) ?_
        subst hK95
        refine W.exit rfl ?_
        exact ⟨q89, cs93, s86, hle87, Option.some.inj hq77, h92, hn94, hE.pick _ ⟨rfl, trivial⟩, hS⟩
      · have hlt83 : k79 < q68.length := by omega
        rw [Fishref2CoreOf.loop1] at hq77
        refine W.seq ?_
        refine W.region ?_
        refine WL.vS hS hE (runs_plain rfl) (Gives.p hE rfl) rfl ?_; clear hE a; intro a hE
        refine WL.nil ?_
        refine W.seq ?_
        refine W.condT hE rfl (decide_eq_true (by omega)) ?_
        refine W.skip ?_
        refine W.seq ?_
        refine W.block ?_
        refine W.seq ?_
        refine W.region ?_
        refine WL.vS hS hE (runs_plain rfl) (Gives.p hE rfl) rfl ?_; clear hE a; intro a hE
        refine WL.vS hS hE (runs_plain rfl) (Gives.p hE rfl) rfl ?_; clear hE a; intro a hE
        refine WL.nil ?_
        refine W.seq ?_
        refine W.region ?_
        refine WL.vS hS hE (runs_plain rfl) (Gives.loadB hE 0 rfl rfl rfl ty71) rfl ?_; clear hE a; intro a hE
        refine WL.vS hS hE (runs_plain rfl) (Gives.p hE rfl) rfl ?_; clear hE a; intro a hE
        obtain ⟨_, hx97, hq77⟩ := bindS hq77
        obtain ⟨h98, h99⟩ := ix_some hx97
        refine WL.vS hS hE (runs_plain rfl) (Gives.idx hE ((((k79 : Nat) : Int)).toNat) rfl rfl sl71 h98 (by have := hn94; omega) (hS.vecAok 1 rfl (by have := hn94; omega : (((k79 : Nat) : Int)).toNat < q68.length))) rfl ?_; clear hE a; intro a hE
        obtain ⟨x101, hx102, hq77⟩ := bindS hq77
        refine WL.setD hE hS 1 rfl (runs_plain rfl) rfl rfl (vs := [.bool false]) rfl ty4 rfl rfl rfl h92 hn94 (sx_some hx102).1 hx102 rfl rfl ?_; clear hE hS a w; intro cs103 a w h104 hn105 hE hS
        refine WL.nil ?_
        refine W.seq ?_
        refine W.gen fun K106 hK106 => ?_
        refine W.regionE (sel (fun w => St w s86 (pt b76 (.cells #[.slice a70 q68.length c71] 71 (0, 0)) :: vecC 4 1 a70 c71 q68.length cs103 :: pt b51 (.cells #[.int .i64 x0.Period, .int .i64 x0.Events, .slice a0_0 x0.Rules.length c0_0] 24 (0, 0)) :: R)) (fun w => St w s86 (pt b76 (.cells #[.slice a70 q68.length c71] 71 (0, 0)) :: vecC 4 1 a70 c71 q68.length cs103 :: pt b51 (.cells #[.int .i64 x0.Period, .int .i64 x0.Events, .slice a0_0 x0.Rules.length c0_0] 24 (0, 0)) :: R))) (fun b i => cond b ([0, 1, 2, 3, 4].contains i) ([0, 1, 2, 3, 4].contains i)) mixed ?_
        replace hS := hS.drew
        have hT := tw_sel (A := fun w => St w s86 (pt b76 (.cells #[.slice a70 q68.length c71] 71 (0, 0)) :: vecC 4 1 a70 c71 q68.length cs103 :: pt b51 (.cells #[.int .i64 x0.Period, .int .i64 x0.Events, .slice a0_0 x0.Rules.length c0_0] 24 (0, 0)) :: R)) (B := fun w => St w s86 (pt b76 (.cells #[.slice a70 q68.length c71] 71 (0, 0)) :: vecC 4 1 a70 c71 q68.length cs103 :: pt b51 (.cells #[.int .i64 x0.Period, .int .i64 x0.Events, .slice a0_0 x0.Rules.length c0_0] 24 (0, 0)) :: R)) (w := _) (x := true) (y := true) (fun _ => hS) (fun _ => hS)
        have hF := hS; replace hS := hS
        refine Rg.take (i := 0) true rfl hE rfl (by kernel_rfl) (runs_plain rfl) (Gives.loadBA hE 2 rfl rfl ty24) rfl hT ?_; clear hE a; intro a hE
        replace hS := hF; clear hF hT
        refine Rg.takeP (i := 1) hE rfl (by kernel_rfl) (runs_plain rfl) (Gives.p hE rfl) rfl (tw_sel (fun _ => hS) (fun _ => hS)) ?_; clear hE a; intro a hE
        obtain ⟨q107, hq108, hq77⟩ := bindS hq77
        obtain ⟨q121, hq122, hq77⟩ := bindS hq77
        suffices key : ∀ s118 cs112 a109 c110 (a : Act) (w : World), s86.Le s118 → Ev 5 RPlanRule s118 cs112 q107 → Sl 5 RPlanRule s118 a0_0 c0_0 x0.Rules → Ev 1 RB s118 cs103 x101 → (x101).length = q68.length → Rep a 52 [(1, .pointer (some ⟨b51, 0, none⟩)), (4, .pointer (some ⟨b76, 0, none⟩)), (5, .func (.func 47) #[] #[.pointer (some ⟨b51, 0, none⟩), .pointer (some ⟨b76, 0, none⟩)]), (6, .int .i64 ((k79 : Nat) : Int)), (22, .int .i64 ((q68.length : Nat) : Int)), (23, .int .i64 ((k79 : Nat) : Int)), (33, .bool q121)] → St w s118 (vecC 37 5 a109 c110 q107.length cs112 :: pt b51 (.cells #[.int .i64 x0.Period, .int .i64 x0.Events, .slice a0_0 x0.Rules.length c0_0] 24 (0, 0)) :: pt b76 (.cells #[.slice a70 q68.length c71] 71 (0, 0)) :: vecC 4 1 a70 c71 q68.length cs103 :: R) → K106.nor a w by
          refine Rg.many 2 [3] (by kernel_rfl) ⟨?_, ?_, trivial⟩
          · refine Br.mk (i := 2) true true rfl (by kernel_rfl) (by kernel_rfl) ?_
            replace hS := hS.front 1 rfl
            replace hS := hS.front 1 rfl
            replace hS := hS.front 2 rfl
            have hc_ := Fishref2CoreOf_1_v1_ok (y0 := x0) hS h0_0 h104 hn105 hq108
            refine WL.fnw hE (hc_) rfl (runs_plain rfl) bd47 rfl rfl rfl ?_
            clear hE hS hc_; rintro e w ⟨a109, c110, n111, cs112, rfl, h113, rfl, hS⟩; refine ⟨_, rfl, ?_⟩; clear a; intro a hE
            refine WL.nil ?_
            refine ⟨⟨fun _ => (St.front (St.front (hS.tail) 2 rfl) 2 rfl), fun _ => (St.front (St.front (hS.tail) 2 rfl) 2 rfl)⟩, ?_⟩
            refine Rg.one (i := 3) true true rfl (by kernel_rfl) (by kernel_rfl) (by kernel_rfl) ?_
            refine WL.lit hE hS (e := 3) (es := 1) (vs := [(0, .int .i64 0)]) (cs := [.int .i64 0]) (runs_plain rfl) rfl (by kernel_rfl) rfl ?_; clear hE hS a w; intro b115 a w hE hS
            replace hS := hS.ptVec (es := 1) (m := 1) rfl (by decide)
            have h117 : Ev 1 (RI .i64) s86 [.int .i64 0] [0] := (Ev.cons (c1 := [.int .i64 0]) rfl rfl (Ev.nil))
            have hF := hS.fixD RI.mono 0 rfl h117 (rfl); clear hS; obtain ⟨s118, hle119, hS, h120⟩ := hF
            replace h0_0 := Sl.mono RPlanRule.mono hle119 h0_0
            replace h113 := Ev.mono RPlanRule.mono hle119 h113
            replace h104 := Ev.mono RB.mono hle119 h104
            refine WL.nil ?_
            refine ⟨⟨fun _ => (St.down hle119 (St.front (St.front (hS.tail) 2 rfl) 2 rfl)), fun _ => (St.down hle119 (St.front (St.front (hS.tail) 2 rfl) 2 rfl))⟩, ?_⟩
            refine Rg.one (i := 4) true true rfl (by kernel_rfl) (by kernel_rfl) (by kernel_rfl) ?_
            have hF := hS.lendV RPlanRule.mono 0 rfl h113 rfl; clear hS; obtain ⟨t123, hle124, hS, hs125, bk126⟩ := hF
            have hc_ := Fishref2Solvable_ok hS (Sl.mono RPlanRule.mono hle124 h0_0) hs125 (Sl.mono RI.mono hle124 h120) hq122
            refine WL.fnq hE (hc_) (runs_plain rfl) bd25 rfl rfl rfl ?_
            clear hE hS hc_; rintro e w ⟨rfl, hS⟩; refine ⟨_, rfl, ?_⟩; clear a; intro a hE
            replace hS := bk126 _ _ hS
            refine WL.nil ?_
            refine ⟨⟨fun _ => (St.down hle119 (St.front (St.front (hS.tail) 2 rfl) 2 rfl)), fun _ => (St.down hle119 (St.front (St.front (hS.tail) 2 rfl) 2 rfl))⟩, ?_⟩
            refine Rg.done (by kernel_rfl) ?_
            exact key _ _ _ _ _ _ hle119 h113 h0_0 h104 hn105 (hE.pick _ ⟨rfl, rfl, rfl, rfl, rfl, rfl, rfl, trivial⟩) hS
          · refine Br.mk (i := 3) true true rfl (by kernel_rfl) (by kernel_rfl) ?_
            refine WL.lit hE hS (e := 3) (es := 1) (vs := [(0, .int .i64 0)]) (cs := [.int .i64 0]) (runs_plain rfl) rfl (by kernel_rfl) rfl ?_; clear hE hS a w; intro b115 a w hE hS
            replace hS := hS.ptVec (es := 1) (m := 1) rfl (by decide)
            have h117 : Ev 1 (RI .i64) s86 [.int .i64 0] [0] := (Ev.cons (c1 := [.int .i64 0]) rfl rfl (Ev.nil))
            have hF := hS.fixD RI.mono 0 rfl h117 (rfl); clear hS; obtain ⟨s118, hle119, hS, h120⟩ := hF
            replace h0_0 := Sl.mono RPlanRule.mono hle119 h0_0
            replace h104 := Ev.mono RB.mono hle119 h104
            refine WL.nil ?_
            refine ⟨⟨fun _ => (St.down hle119 hS), fun _ => (St.down hle119 hS)⟩, ?_⟩
            refine Rg.one (i := 2) true true rfl (by kernel_rfl) (by kernel_rfl) (by kernel_rfl) ?_
            replace hS := hS.front 1 rfl
            replace hS := hS.front 1 rfl
            replace hS := hS.front 2 rfl
            have hc_ := Fishref2CoreOf_1_v1_ok (y0 := x0) hS h0_0 h104 hn105 hq108
            refine WL.fnw hE (hc_) rfl (runs_plain rfl) bd47 rfl rfl rfl ?_
            clear hE hS hc_; rintro e w ⟨a109, c110, n111, cs112, rfl, h113, rfl, hS⟩; refine ⟨_, rfl, ?_⟩; clear a; intro a hE
            refine WL.nil ?_
            refine ⟨⟨fun _ => (St.down hle119 (St.front (St.front (hS.tail) 2 rfl) 2 rfl)), fun _ => (St.down hle119 (St.front (St.front (hS.tail) 2 rfl) 2 rfl))⟩, ?_⟩
            refine Rg.one (i := 4) true true rfl (by kernel_rfl) (by kernel_rfl) (by kernel_rfl) ?_
            have hF := hS.lendV RPlanRule.mono 0 rfl h113 rfl; clear hS; obtain ⟨t123, hle124, hS, hs125, bk126⟩ := hF
            have hc_ := Fishref2Solvable_ok hS (Sl.mono RPlanRule.mono hle124 h0_0) hs125 (Sl.mono RI.mono hle124 h120) hq122
            refine WL.fnq hE (hc_) (runs_plain rfl) bd25 rfl rfl rfl ?_
            clear hE hS hc_; rintro e w ⟨rfl, hS⟩; refine ⟨_, rfl, ?_⟩; clear a; intro a hE
            replace hS := bk126 _ _ hS
            refine WL.nil ?_
            refine ⟨⟨fun _ => (St.down hle119 (St.front (St.front (hS.tail) 2 rfl) 2 rfl)), fun _ => (St.down hle119 (St.front (St.front (hS.tail) 2 rfl) 2 rfl))⟩, ?_⟩
            refine Rg.done (by kernel_rfl) ?_
            exact key _ _ _ _ _ _ hle119 h113 h0_0 h104 hn105 (hE.pick _ ⟨rfl, rfl, rfl, rfl, rfl, rfl, rfl, trivial⟩) hS
        clear hE hS a w; intro s118 cs112 a109 c110 a w hle127 h113 h0_0 h104 hn105 hE hS
        subst hK106
        obtain ⟨q129, hq128, hq77⟩ := bindS hq77
        refine W.cut (fun a w => ∃ (q132 : List Bool), ∃ (cs136 : List Value), q132 = q129 ∧ Ev 1 RB s118 cs136 q132 ∧ q132.length = q68.length ∧ Rep a 52 [(1, .pointer (some ⟨b51, 0, none⟩)), (4, .pointer (some ⟨b76, 0, none⟩)), (5, .func (.func 47) #[] #[.pointer (some ⟨b51, 0, none⟩), .pointer (some ⟨b76, 0, none⟩)]), (22, .int .i64 ((q68.length : Nat) : Int)), (23, .int .i64 ((k79 : Nat) : Int))] ∧ St w s118 (pt b51 (.cells #[.int .i64 x0.Period, .int .i64 x0.Events, .slice a0_0 x0.Rules.length c0_0] 24 (0, 0)) :: pt b76 (.cells #[.slice a70 q68.length c71] 71 (0, 0)) :: vecC 4 1 a70 c71 q68.length cs136 :: R)) ?_ ?_
        · refine W.gen fun K138 hK138 => ?_
          refine W.cond hE rfl (fun hc139 => ?_) (fun hc139 => ?_)
          · replace hq128 := iteT hc139 hq128
            refine W.region ?_
            refine WL.vS hS hE (runs_plain rfl) (Gives.loadB hE 2 rfl rfl rfl ty71) rfl ?_; clear hE a; intro a hE
            refine WL.vS hS hE (runs_plain rfl) (Gives.p hE rfl) rfl ?_; clear hE a; intro a hE
            obtain ⟨_, hx141, hq128⟩ := bindS hq128
            obtain ⟨h142, h143⟩ := ix_some hx141
            refine WL.vS hS hE (runs_plain rfl) (Gives.idx hE ((((k79 : Nat) : Int)).toNat) rfl rfl sl71 h142 (by have := hn105; omega) (hS.vecAok 3 rfl (by have := hn105; omega : (((k79 : Nat) : Int)).toNat < q68.length))) rfl ?_; clear hE a; intro a hE
            obtain ⟨x145, hx146, hq128⟩ := bindS hq128
            refine WL.setD hE hS 3 rfl (runs_plain rfl) rfl rfl (vs := [.bool true]) rfl ty4 rfl rfl rfl h104 hn105 (sx_some hx146).1 hx146 rfl rfl ?_; clear hE hS a w; intro cs147 a w h148 hn149 hE hS
            refine WL.nil ?_
            replace hS := hS.tail
            subst hK138
            exact ⟨x145, cs147, Option.some.inj hq128, h148, hn149, hE.pick _ ⟨rfl, rfl, rfl, rfl, rfl, trivial⟩, hS⟩
          · replace hq128 := iteF hc139 hq128
            refine W.skip ?_
            replace hS := hS.tail
            subst hK138
            exact ⟨x101, cs103, Option.some.inj hq128, h104, hn105, hE.pick _ ⟨rfl, rfl, rfl, rfl, rfl, trivial⟩, hS⟩
        · clear hE hS a w; rintro a w ⟨q132, cs136, rfl, h135, hn137, hE, hS⟩
          refine W.region ?_
          refine WL.vS hS hE (runs_plain rfl) (Gives.inc hE rfl (by omega)) rfl ?_; clear hE a; intro a hE
          refine WL.vS hS hE (runs_plain rfl) (Gives.p hE rfl) rfl ?_; clear hE a; intro a hE
          refine WL.nil ?_
          replace hS := hS.front 2 rfl
          replace hS := hS.front 2 rfl
          subst hK95
          exact ⟨rest81, Nat.lt_succ_self _, rest81, k79 + 1, q132, cs136, s118, rfl, (by omega), (Sg.Le.trans hle87 hle127), hq77, h135, hn137, hE.pick _ ⟨rfl, rfl, rfl, rfl, rfl, trivial⟩, hS⟩
    · clear hE hS a w; rintro a w ⟨q89, cs93, s86, hle87, rfl, h92, hn94, hE, hS⟩
      replace h0_0 := Sl.mono RPlanRule.mono hle87 h0_0
      replace h57 := Sl.mono RI.mono hle87 h57
      replace h67 := Sl.mono RB.mono hle87 h67
      replace h74 := Ev.mono RB.mono hle87 h74
      refine W.seq ?_
      refine W.region ?_
      replace hS := hS.vecNil 3 1
      refine WL.vS hS hE (runs_plain rfl) (Gives.p hE rfl) rfl ?_; clear hE a; intro a hE
      refine WL.nil ?_
      refine W.seq ?_
      refine W.seq ?_
      refine W.region ?_
      refine WL.vS hS hE (runs_plain rfl) (Gives.loadB hE 1 rfl rfl rfl ty71) rfl ?_; clear hE a; intro a hE
      refine WL.vS hS hE (runs_plain rfl) (Gives.len hE rfl sl71) rfl ?_; clear hE a; intro a hE
      refine WL.vS hS hE (runs_plain rfl) (Gives.p hE rfl) rfl ?_; clear hE a; intro a hE
      refine WL.nil ?_
      have hb162 : q68.length ≤ 9223372036854775807 := by have := hS.vecCap 2 rfl; unfold maxLen at this; omega
      obtain ⟨q152, hq151, hr⟩ := bindS hr
      refine W.cut (fun a w => ∃ (q163 : List Int), ∃ (a164 : Option Addr), ∃ (c165 : Nat), ∃ (n167 : Nat), ∃ (cs168 : List Value), q163 = q152 ∧ Ev 1 (RI .i64) s86 cs168 q163 ∧ q163.length = n167 ∧ Rep a 52 [(7, .slice a164 n167 c165)] ∧ St w s86 (vecC 3 1 a164 c165 n167 cs168 :: pt b76 (.cells #[.slice a70 q68.length c71] 71 (0, 0)) :: vecC 4 1 a70 c71 q68.length cs93 :: pt b51 (.cells #[.int .i64 x0.Period, .int .i64 x0.Events, .slice a0_0 x0.Rules.length c0_0] 24 (0, 0)) :: R)) ?_ ?_
      · refine W.block ?_
        refine W.loop (fun m a w => ∃ (rest155 : Nat) (k153 : Nat), ∃ (q163 : List Int), ∃ (a164 : Option Addr), ∃ (c165 : Nat), ∃ (n167 : Nat), ∃ (cs168 : List Value), rest155 = m ∧ k153 + rest155 = q68.length ∧ Fishref2CoreOf.loop2 q89 rest155 k153 q163 = some q152 ∧ Ev 1 (RI .i64) s86 cs168 q163 ∧ q163.length = n167 ∧ Rep a 52 [(7, .slice a164 n167 c165), (38, .slice a70 q68.length c71), (39, .int .i64 ((q68.length : Nat) : Int)), (40, .int .i64 ((k153 : Nat) : Int))] ∧ St w s86 (vecC 3 1 a164 c165 n167 cs168 :: pt b76 (.cells #[.slice a70 q68.length c71] 71 (0, 0)) :: vecC 4 1 a70 c71 q68.length cs93 :: pt b51 (.cells #[.int .i64 x0.Period, .int .i64 x0.Events, .slice a0_0 x0.Rules.length c0_0] 24 (0, 0)) :: R)) (m := q68.length) ⟨q68.length, 0, [], none, 0, 0, [], rfl, by omega, hq151, (Ev.nil), (rfl), hE.pick _ ⟨rfl, rfl, rfl, rfl, trivial⟩, hS⟩ ?_
        clear hE hS a w hq151; rintro m159 a w ⟨rest155, k153, q163, a164, c165, n167, cs168, rfl, hd156, hq151, h166, rfl, hE, hS⟩
        refine W.gen fun K170 hK170 => ?_
        rcases rest155 with _ | rest155
        · skip
          refine W.seq ?_
          refine W.region ?_
          refine WL.vS hS hE (runs_plain rfl) (Gives.p hE rfl) rfl ?_; clear hE a; intro a hE
          refine WL.nil ?_
          refine W.seq ?_
          refine W.condF hE rfl (decide_eq_false (by omega)) ?_
          subst hK170
          refine W.exit rfl ?_
          exact ⟨q163, a164, c165, q163.length, cs168, Option.some.inj hq151, h166, rfl, hE.pick _ ⟨rfl, trivial⟩, hS⟩
        · have hlt157 : k153 < q68.length := by omega
          rw [Fishref2CoreOf.loop2] at hq151
          refine W.seq ?_
          refine W.region ?_
          refine WL.vS hS hE (runs_plain rfl) (Gives.p hE rfl) rfl ?_; clear hE a; intro a hE
          refine WL.nil ?_
          refine W.seq ?_
          refine W.condT hE rfl (decide_eq_true (by omega)) ?_
          refine W.skip ?_
          refine W.seq ?_
          refine W.block ?_
          refine W.seq ?_
          refine W.region ?_
          refine WL.vS hS hE (runs_plain rfl) (Gives.p hE rfl) rfl ?_; clear hE a; intro a hE
          obtain ⟨x171, hx172, hq151⟩ := bindS hq151
          obtain ⟨hi173, hlt174, hy175⟩ := gx_some hx172
          obtain ⟨vs176, hl177, hR178, hd179, hget180⟩ := h92.at hy175
          subst hR178
          refine WL.vS hS hE (runs_plain rfl) (Gives.idx hE ((((k153 : Nat) : Int)).toNat) rfl rfl sl71 hi173 (by have := hn94; omega) (hS.vecAok 2 rfl (by have := hn94; omega : (((k153 : Nat) : Int)).toNat < q68.length))) rfl ?_; clear hE a; intro a hE
          refine WL.vS hS hE (runs_plain rfl) (Gives.load1 hE rfl (fun w h => St.vecSees h 2 rfl ((((k153 : Nat) : Int)).toNat * 1) _ hget180) ty4) rfl ?_; clear hE a; intro a hE
          refine WL.vS hS hE (runs_plain rfl) (Gives.p hE rfl) rfl ?_; clear hE a; intro a hE
          refine WL.vS hS hE (runs_plain rfl) (Gives.p hE rfl) rfl ?_; clear hE a; intro a hE
          refine WL.nil ?_
          refine W.seq ?_
          refine W.region ?_
          refine WL.vS hS hE (runs_plain rfl) (Gives.p hE rfl) rfl ?_; clear hE a; intro a hE
          refine WL.nil ?_
          obtain ⟨q182, hq181, hq151⟩ := bindS hq151
          refine W.cut (fun a w => ∃ (q185 : List Int), ∃ (a186 : Option Addr), ∃ (c187 : Nat), ∃ (n189 : Nat), ∃ (cs190 : List Value), q185 = q182 ∧ Ev 1 (RI .i64) s86 cs190 q185 ∧ q185.length = n189 ∧ Rep a 52 [(7, .slice a186 n189 c187), (38, .slice a70 q68.length c71), (39, .int .i64 ((q68.length : Nat) : Int)), (40, .int .i64 ((k153 : Nat) : Int))] ∧ St w s86 (vecC 3 1 a186 c187 n189 cs190 :: pt b76 (.cells #[.slice a70 q68.length c71] 71 (0, 0)) :: vecC 4 1 a70 c71 q68.length cs93 :: pt b51 (.cells #[.int .i64 x0.Period, .int .i64 x0.Events, .slice a0_0 x0.Rules.length c0_0] 24 (0, 0)) :: R)) ?_ ?_
          · refine W.gen fun K192 hK192 => ?_
            refine W.cond hE rfl (fun hc193 => ?_) (fun hc193 => ?_)
            · replace hq181 := iteT hc193 hq181
              refine W.region ?_
              refine WL.vS hS hE (runs_plain rfl) (Gives.p hE rfl) rfl ?_; clear hE a; intro a hE
              refine WL.vS hS hE (runs_plain rfl) (Gives.p hE rfl) rfl ?_; clear hE a; intro a hE
              refine WL.lit hE hS (e := 3) (es := 1) (vs := [(0, .int .i64 ((k153 : Nat) : Int))]) (cs := [.int .i64 ((k153 : Nat) : Int)]) (runs_plain rfl) rfl (by kernel_rfl) rfl ?_; clear hE hS a w; intro b194 a w hE hS
              obtain ⟨x195, hx196, hq181⟩ := bindS hq181
              refine WL.appD hE hS 0 (m := 1) (runs_plain rfl) rfl rfl rfl ap29 rfl h166 rfl (xs := [((k153 : Nat) : Int)]) (Ev.cons (c1 := [.int .i64 ((k153 : Nat) : Int)]) rfl rfl (Ev.nil)) rfl rfl hx196 rfl ?_; clear hE hS a w; intro a197 c198 cs199 a w h200 hE hS
              refine WL.vS hS hE (runs_plain rfl) (Gives.p hE rfl) rfl ?_; clear hE a; intro a hE
              refine WL.nil ?_
              subst hK192
              exact ⟨x195, a197, c198, x195.length, cs199, Option.some.inj hq181, h200, (rfl), hE.pick _ ⟨rfl, rfl, rfl, rfl, trivial⟩, hS⟩
            · replace hq181 := iteF hc193 hq181
              refine W.skip ?_
              subst hK192
              exact ⟨q163, a164, c165, q163.length, cs168, Option.some.inj hq181, h166, rfl, hE.pick _ ⟨rfl, rfl, rfl, rfl, trivial⟩, hS⟩
          · clear hE hS a w; rintro a w ⟨q185, a186, c187, n189, cs190, rfl, h188, rfl, hE, hS⟩
            refine W.region ?_
            refine WL.vS hS hE (runs_plain rfl) (Gives.inc hE rfl (by omega)) rfl ?_; clear hE a; intro a hE
            refine WL.vS hS hE (runs_plain rfl) (Gives.p hE rfl) rfl ?_; clear hE a; intro a hE
            refine WL.nil ?_
            subst hK170
            exact ⟨rest155, Nat.lt_succ_self _, rest155, k153 + 1, q185, a186, c187, q185.length, cs190, rfl, (by omega), hq151, h188, rfl, hE.pick _ ⟨rfl, rfl, rfl, rfl, trivial⟩, hS⟩
      · clear hE hS a w; rintro a w ⟨q163, a164, c165, n167, cs168, rfl, h166, rfl, hE, hS⟩
        refine W.seq ?_
        refine W.region ?_
        refine WL.vS hS hE (runs_plain rfl) (Gives.p hE rfl) rfl ?_; clear hE a; intro a hE
        refine WL.vS hS hE (runs_plain rfl) (Gives.p hE rfl) rfl ?_; clear hE a; intro a hE
        refine WL.vS hS hE (runs_plain rfl) (Gives.p hE rfl) rfl ?_; clear hE a; intro a hE
        refine WL.nil ?_
        refine W.ret ?_
        refine finG (fn := Try.f23) (rs := [.tmp 2, .tmp 3]) (vs := [_, _]) hE rfl ⟨rfl, rfl, trivial⟩ ?_
        obtain rfl := Option.some.inj hr
        replace hS := hS.dropAt 1
        replace hS := hS.dropAt 1
        replace hS := hS.dropAt 1
        exact ⟨a164, c165, q163.length, cs168, s86, rfl, (Sg.Le.trans (Sg.Le.trans hle56 hle66) hle87), h166, rfl, hS⟩
set_option maxHeartbeats 8000000 in
theorem Fishlaw2PlanCores_ok {fu : Nat}  {w : World} {s : Sg} {R : List HP} {x0 : PlanPeriodic} {a0_0 : Option Addr} {c0_0 : Nat} (hS : St w s (R)) (h0_0 : Sl 5 RPlanRule s a0_0 c0_0 x0.Rules) {r : Bool} (hr : Fishlaw2PlanCores fu x0 = some r) :
    Calls Try.prog 6 [.agg [.int .i64 x0.Period, .int .i64 x0.Events, .slice a0_0 x0.Rules.length c0_0].toArray].toArray w (fun e w => e = .returned (.bool r) ∧ St w s (R)) := by
  refine enter Try.func6 rfl rfl rfl fun a hE => ?_
  rw [Fishlaw2PlanCores] at hr
  refine W.seq ?_
  refine W.region ?_
  refine WL.box hE hS (runs_plain rfl) rfl rfl rfl ?_; clear hE hS a w; intro b51 a w hE hS
  refine WL.vS hS hE (runs_plain rfl) (Gives.p hE rfl) rfl ?_; clear hE a; intro a hE
  refine WL.nil ?_
  refine W.seq ?_
  refine W.region ?_
  refine WL.vS hS hE (runs_plain rfl) (Gives.loadBA hE 0 rfl rfl ty24) rfl ?_; clear hE a; intro a hE
  obtain ⟨q52, hq53, hr⟩ := bindS hr
  have hc_ := PlanCore_ok hS h0_0 hq53
  refine WL.fnq hE (hc_) (runs_plain rfl) bd22 rfl rfl rfl ?_
  clear hE hS hc_; rintro e w ⟨a54, c55, n56, cs57, s60, rfl, hle61, h58, rfl, hS⟩; refine ⟨_, rfl, ?_⟩; clear a; intro a hE
  replace h0_0 := Sl.mono RPlanRule.mono hle61 h0_0
  refine WL.vS hS hE (runs_plain rfl) (Gives.p hE rfl) rfl ?_; clear hE a; intro a hE
  refine WL.vS hS hE (runs_plain rfl) (Gives.p hE rfl) rfl ?_; clear hE a; intro a hE
  refine WL.vS hS hE (runs_plain rfl) (Gives.p hE rfl) rfl ?_; clear hE a; intro a hE
  refine WL.vS hS hE (runs_plain rfl) (Gives.p hE rfl) rfl ?_; clear hE a; intro a hE
  refine WL.vS hS hE (runs_plain rfl) (Gives.p hE rfl) rfl ?_; clear hE a; intro a hE
  refine WL.nil ?_
  refine W.seq ?_
  refine W.seq ?_
  refine W.region ?_
  refine WL.vS hS hE (runs_plain rfl) (Gives.loadBA hE 1 rfl rfl ty24) rfl ?_; clear hE a; intro a hE
  refine WL.fnq hE (Fishref2PeriodicFault_ok hS h0_0 rfl (r := Fishref2PeriodicFault x0)) (runs_plain rfl) bd11 rfl rfl rfl ?_
  clear hE hS; rintro e w ⟨rfl, hS⟩; refine ⟨_, rfl, ?_⟩; clear a; intro a hE
  refine WL.vS hS hE (runs_plain rfl) (Gives.p hE rfl) rfl ?_; clear hE a; intro a hE
  refine WL.nil ?_
  refine W.seq ?_
  refine W.region ?_
  refine WL.vS hS hE (runs_plain rfl) (Gives.p hE rfl) rfl ?_; clear hE a; intro a hE
  refine WL.vS hS hE (runs_plain rfl) (Gives.p hE rfl) rfl ?_; clear hE a; intro a hE
  refine WL.nil ?_
  refine W.cond hE rfl (fun hc62 => ?_) (fun hc62 => ?_)
  · replace hr := iteT hc62 hr
    refine W.seq ?_
    obtain ⟨q64, hq63, hr⟩ := bindS hr
    refine W.cut (fun a w => ∃ (q67 : Bool), q67 = q64 ∧ Rep a 55 [(2, .bool q67)] ∧ St w s60 (pt b51 (.cells #[.int .i64 x0.Period, .int .i64 x0.Events, .slice a0_0 x0.Rules.length c0_0] 24 (0, 0)) :: R)) ?_ ?_
    · refine W.gen fun K68 hK68 => ?_
      refine W.region ?_
      obtain ⟨q69, hq70, hq63⟩ := bindS hq63
      have hc_ := Fishlaw2periods_ok hS  hq70
      refine WL.fnq hE (hc_) (runs_plain rfl) bd9 rfl rfl rfl ?_
      clear hE hS hc_; rintro e w ⟨rfl, hS⟩; refine ⟨_, rfl, ?_⟩; clear a; intro a hE
      refine WL.vS hS hE (runs_plain rfl) (Gives.p hE rfl) rfl ?_; clear hE a; intro a hE
      rcases Bool.eq_false_or_eq_true q69 with hg71 | hg71
      · replace hq63 := iteT hg71 hq63
        refine WL.vS hS hE (runs_if hE rfl rfl rfl hg71) (Gives.p hE rfl) rfl ?_; clear hE a; intro a hE
        refine WL.vS hS hE (runs_if hE rfl rfl rfl hg71) (Gives.p hE rfl) rfl ?_; clear hE a; intro a hE
        refine WL.vS hS hE (runs_if hE rfl rfl rfl hg71) (Gives.p hE rfl) rfl ?_; clear hE a; intro a hE
        refine WL.vS hS hE (runs_plain rfl) (Gives.pickT hE rfl hg71 rfl) rfl ?_; clear hE a; intro a hE
        refine WL.vS hS hE (runs_plain rfl) (Gives.p hE rfl) rfl ?_; clear hE a; intro a hE
        rcases Bool.eq_false_or_eq_true (q52.2 == (Fishref2PeriodicFault x0)) with hg72 | hg72
        · replace hq63 := iteT hg72 hq63
          refine WL.vS hS hE (runs_if hE rfl rfl rfl hg72) (Gives.p hE rfl) rfl ?_; clear hE a; intro a hE
          refine WL.vS hS hE (runs_if hE rfl rfl rfl hg72) (Gives.len hE rfl sl29) rfl ?_; clear hE a; intro a hE
          refine WL.vS hS hE (runs_if hE rfl rfl rfl hg72) (Gives.p hE rfl) rfl ?_; clear hE a; intro a hE
          refine WL.vS hS hE (runs_plain rfl) (Gives.pickT hE rfl hg72 rfl) rfl ?_; clear hE a; intro a hE
          refine WL.vS hS hE (runs_plain rfl) (Gives.p hE rfl) rfl ?_; clear hE a; intro a hE
          refine WL.nil ?_
          replace hS := hS.tail
          subst hK68
          exact ⟨(((q52.1.length : Nat) : Int) == 0), Option.some.inj hq63, hE.pick _ ⟨rfl, trivial⟩, hS⟩
        · replace hq63 := iteF hg72 hq63
          refine WL.no hE (runs_not hE rfl rfl rfl (by rw [hg72]; decide)) rfl ?_; clear hE a; intro a hE
          refine WL.no hE (runs_not hE rfl rfl rfl (by rw [hg72]; decide)) rfl ?_; clear hE a; intro a hE
          refine WL.no hE (runs_not hE rfl rfl rfl (by rw [hg72]; decide)) rfl ?_; clear hE a; intro a hE
          refine WL.vS hS hE (runs_plain rfl) (Gives.pickF hE rfl hg72 rfl) rfl ?_; clear hE a; intro a hE
          refine WL.vS hS hE (runs_plain rfl) (Gives.p hE rfl) rfl ?_; clear hE a; intro a hE
          refine WL.nil ?_
          replace hS := hS.tail
          subst hK68
          exact ⟨false, Option.some.inj hq63, hE.pick _ ⟨rfl, trivial⟩, hS⟩
      · replace hq63 := iteF hg71 hq63
        refine WL.no hE (runs_not hE rfl rfl rfl (by rw [hg71]; decide)) rfl ?_; clear hE a; intro a hE
        refine WL.no hE (runs_not hE rfl rfl rfl (by rw [hg71]; decide)) rfl ?_; clear hE a; intro a hE
        refine WL.no hE (runs_not hE rfl rfl rfl (by rw [hg71]; decide)) rfl ?_; clear hE a; intro a hE
        refine WL.vS hS hE (runs_plain rfl) (Gives.pickF hE rfl hg71 rfl) rfl ?_; clear hE a; intro a hE
        refine WL.vS hS hE (runs_plain rfl) (Gives.p hE rfl) rfl ?_; clear hE a; intro a hE
        refine WL.no hE (runs_not hE rfl rfl rfl (by decide)) rfl ?_; clear hE a; intro a hE
        refine WL.no hE (runs_not hE rfl rfl rfl (by decide)) rfl ?_; clear hE a; intro a hE
        refine WL.no hE (runs_not hE rfl rfl rfl (by decide)) rfl ?_; clear hE a; intro a hE
        refine WL.vS hS hE (runs_plain rfl) (Gives.pickF hE rfl rfl rfl) rfl ?_; clear hE a; intro a hE
        refine WL.vS hS hE (runs_plain rfl) (Gives.p hE rfl) rfl ?_; clear hE a; intro a hE
        refine WL.nil ?_
        replace hS := hS.tail
        subst hK68
        exact ⟨false, Option.some.inj hq63, hE.pick _ ⟨rfl, trivial⟩, hS⟩
    · clear hE hS a w; rintro a w ⟨q67, rfl, hE, hS⟩
      refine W.ret ?_
      refine finG (fn := Try.f6) (rs := [.tmp 2]) (vs := [_]) hE rfl ⟨rfl, trivial⟩ ?_
      obtain rfl := Option.some.inj hr
      replace hS := hS.tail
      exact ⟨rfl, (hS.down hle61)⟩
  · replace hr := iteF hc62 hr
    refine W.skip ?_
    refine W.seq ?_
    refine W.region ?_
    refine WL.vS hS hE (runs_plain rfl) (Gives.loadBA hE 1 rfl rfl ty24) rfl ?_; clear hE a; intro a hE
    obtain ⟨q73, hq74, hr⟩ := bindS hr
    have hc_ := Fishref2CoreOf_ok hS h0_0 hq74
    refine WL.fnq hE (hc_) (runs_plain rfl) bd23 rfl rfl rfl ?_
    clear hE hS hc_; rintro e w ⟨a75, c76, n77, cs78, s81, rfl, hle82, h79, rfl, hS⟩; refine ⟨_, rfl, ?_⟩; clear a; intro a hE
    replace h0_0 := Sl.mono RPlanRule.mono hle82 h0_0
    replace h58 := Ev.mono RI.mono hle82 h58
    refine WL.vS hS hE (runs_plain rfl) (Gives.p hE rfl) rfl ?_; clear hE a; intro a hE
    refine WL.vS hS hE (runs_plain rfl) (Gives.p hE rfl) rfl ?_; clear hE a; intro a hE
    refine WL.vS hS hE (runs_plain rfl) (Gives.p hE rfl) rfl ?_; clear hE a; intro a hE
    refine WL.vS hS hE (runs_plain rfl) (Gives.p hE rfl) rfl ?_; clear hE a; intro a hE
    refine WL.vS hS hE (runs_plain rfl) (Gives.p hE rfl) rfl ?_; clear hE a; intro a hE
    refine WL.nil ?_
    refine W.seq ?_
    refine W.seq ?_
    refine W.region ?_
    refine WL.vS hS hE (runs_plain rfl) (Gives.p hE rfl) rfl ?_; clear hE a; intro a hE
    refine WL.vS hS hE (runs_plain rfl) (Gives.p hE rfl) rfl ?_; clear hE a; intro a hE
    refine WL.nil ?_
    refine W.cond hE rfl (fun hc83 => ?_) (fun hc83 => ?_)
    · replace hr := iteT hc83 hr
      refine W.seq ?_
      obtain ⟨q85, hq84, hr⟩ := bindS hr
      refine W.cut (fun a w => ∃ (q88 : Bool), q88 = q85 ∧ Rep a 55 [(2, .bool q88)] ∧ St w s81 (pt b51 (.cells #[.int .i64 x0.Period, .int .i64 x0.Events, .slice a0_0 x0.Rules.length c0_0] 24 (0, 0)) :: R)) ?_ ?_
      · refine W.gen fun K89 hK89 => ?_
        refine W.region ?_
        obtain ⟨q90, hq91, hq84⟩ := bindS hq84
        have hc_ := Fishlaw2periods_ok hS  hq91
        refine WL.fnq hE (hc_) (runs_plain rfl) bd9 rfl rfl rfl ?_
        clear hE hS hc_; rintro e w ⟨rfl, hS⟩; refine ⟨_, rfl, ?_⟩; clear a; intro a hE
        refine WL.vS hS hE (runs_plain rfl) (Gives.p hE rfl) rfl ?_; clear hE a; intro a hE
        rcases Bool.eq_false_or_eq_true q90 with hg92 | hg92
        · replace hq84 := iteT hg92 hq84
          refine WL.vS hS hE (runs_if hE rfl rfl rfl hg92) (Gives.p hE rfl) rfl ?_; clear hE a; intro a hE
          refine WL.vS hS hE (runs_if hE rfl rfl rfl hg92) (Gives.p hE rfl) rfl ?_; clear hE a; intro a hE
          refine WL.vS hS hE (runs_plain rfl) (Gives.pickT hE rfl hg92 rfl) rfl ?_; clear hE a; intro a hE
          refine WL.vS hS hE (runs_plain rfl) (Gives.p hE rfl) rfl ?_; clear hE a; intro a hE
          rcases Bool.eq_false_or_eq_true (q52.2 == 9) with hg93 | hg93
          · replace hq84 := iteT hg93 hq84
            refine WL.vS hS hE (runs_if hE rfl rfl rfl hg93) (Gives.p hE rfl) rfl ?_; clear hE a; intro a hE
            refine WL.vS hS hE (runs_if hE rfl rfl rfl hg93) (Gives.len hE rfl sl29) rfl ?_; clear hE a; intro a hE
            refine WL.vS hS hE (runs_if hE rfl rfl rfl hg93) (Gives.p hE rfl) rfl ?_; clear hE a; intro a hE
            refine WL.vS hS hE (runs_plain rfl) (Gives.pickT hE rfl hg93 rfl) rfl ?_; clear hE a; intro a hE
            refine WL.vS hS hE (runs_plain rfl) (Gives.p hE rfl) rfl ?_; clear hE a; intro a hE
            refine WL.nil ?_
            replace hS := hS.tail
            replace hS := hS.tail
            subst hK89
            exact ⟨(((q52.1.length : Nat) : Int) == 0), Option.some.inj hq84, hE.pick _ ⟨rfl, trivial⟩, hS⟩
          · replace hq84 := iteF hg93 hq84
            refine WL.no hE (runs_not hE rfl rfl rfl (by rw [hg93]; decide)) rfl ?_; clear hE a; intro a hE
            refine WL.no hE (runs_not hE rfl rfl rfl (by rw [hg93]; decide)) rfl ?_; clear hE a; intro a hE
            refine WL.no hE (runs_not hE rfl rfl rfl (by rw [hg93]; decide)) rfl ?_; clear hE a; intro a hE
            refine WL.vS hS hE (runs_plain rfl) (Gives.pickF hE rfl hg93 rfl) rfl ?_; clear hE a; intro a hE
            refine WL.vS hS hE (runs_plain rfl) (Gives.p hE rfl) rfl ?_; clear hE a; intro a hE
            refine WL.nil ?_
            replace hS := hS.tail
            replace hS := hS.tail
            subst hK89
            exact ⟨false, Option.some.inj hq84, hE.pick _ ⟨rfl, trivial⟩, hS⟩
        · replace hq84 := iteF hg92 hq84
          refine WL.no hE (runs_not hE rfl rfl rfl (by rw [hg92]; decide)) rfl ?_; clear hE a; intro a hE
          refine WL.no hE (runs_not hE rfl rfl rfl (by rw [hg92]; decide)) rfl ?_; clear hE a; intro a hE
          refine WL.vS hS hE (runs_plain rfl) (Gives.pickF hE rfl hg92 rfl) rfl ?_; clear hE a; intro a hE
          refine WL.vS hS hE (runs_plain rfl) (Gives.p hE rfl) rfl ?_; clear hE a; intro a hE
          refine WL.no hE (runs_not hE rfl rfl rfl (by decide)) rfl ?_; clear hE a; intro a hE
          refine WL.no hE (runs_not hE rfl rfl rfl (by decide)) rfl ?_; clear hE a; intro a hE
          refine WL.no hE (runs_not hE rfl rfl rfl (by decide)) rfl ?_; clear hE a; intro a hE
          refine WL.vS hS hE (runs_plain rfl) (Gives.pickF hE rfl rfl rfl) rfl ?_; clear hE a; intro a hE
          refine WL.vS hS hE (runs_plain rfl) (Gives.p hE rfl) rfl ?_; clear hE a; intro a hE
          refine WL.nil ?_
          replace hS := hS.tail
          replace hS := hS.tail
          subst hK89
          exact ⟨false, Option.some.inj hq84, hE.pick _ ⟨rfl, trivial⟩, hS⟩
      · clear hE hS a w; rintro a w ⟨q88, rfl, hE, hS⟩
        refine W.ret ?_
        refine finG (fn := Try.f6) (rs := [.tmp 2]) (vs := [_]) hE rfl ⟨rfl, trivial⟩ ?_
        obtain rfl := Option.some.inj hr
        replace hS := hS.tail
        exact ⟨rfl, (hS.down (Sg.Le.trans hle61 hle82))⟩
    · replace hr := iteF hc83 hr
      refine W.skip ?_
      refine W.seq ?_
      obtain ⟨q95, hq94, hr⟩ := bindS hr
      refine W.cut (fun a w => ∃ (q98 : Bool), q98 = q95 ∧ Rep a 55 [(2, .bool q98)] ∧ St w s81 (pt b51 (.cells #[.int .i64 x0.Period, .int .i64 x0.Events, .slice a0_0 x0.Rules.length c0_0] 24 (0, 0)) :: R)) ?_ ?_
      · refine W.gen fun K99 hK99 => ?_
        refine W.region ?_
        obtain ⟨q100, hq101, hq94⟩ := bindS hq94
        have hc_ := Fishlaw2periods_ok hS  hq101
        refine WL.fnq hE (hc_) (runs_plain rfl) bd9 rfl rfl rfl ?_
        clear hE hS hc_; rintro e w ⟨rfl, hS⟩; refine ⟨_, rfl, ?_⟩; clear a; intro a hE
        refine WL.vS hS hE (runs_plain rfl) (Gives.p hE rfl) rfl ?_; clear hE a; intro a hE
        rcases Bool.eq_false_or_eq_true q100 with hg102 | hg102
        · replace hq94 := iteT hg102 hq94
          refine WL.vS hS hE (runs_if hE rfl rfl rfl hg102) (Gives.p hE rfl) rfl ?_; clear hE a; intro a hE
          refine WL.vS hS hE (runs_if hE rfl rfl rfl hg102) (Gives.p hE rfl) rfl ?_; clear hE a; intro a hE
          refine WL.vS hS hE (runs_plain rfl) (Gives.pickT hE rfl hg102 rfl) rfl ?_; clear hE a; intro a hE
          refine WL.vS hS hE (runs_plain rfl) (Gives.p hE rfl) rfl ?_; clear hE a; intro a hE
          rcases Bool.eq_false_or_eq_true (q52.2 == 0) with hg103 | hg103
          · replace hq94 := iteT hg103 hq94
            refine WL.vS hS hE (runs_if hE rfl rfl rfl hg103) (Gives.p hE rfl) rfl ?_; clear hE a; intro a hE
            refine WL.vS hS hE (runs_if hE rfl rfl rfl hg103) (Gives.p hE rfl) rfl ?_; clear hE a; intro a hE
            obtain ⟨q104, hq105, hq94⟩ := bindS hq94
            have hF := hS.lendV RI.mono 1 rfl h58 rfl; clear hS; obtain ⟨t106, hle107, hS, hs108, bk109⟩ := hF
            have hF := hS.lendV RI.mono 0 rfl (Ev.mono RI.mono hle107 h79) rfl; clear hS; obtain ⟨t110, hle111, hS, hs112, bk113⟩ := hF
            have hc_ := SlicesEqualLint_ok hS (Sl.mono RI.mono hle111 hs108) hs112 hq105
            refine WL.fnq hE (hc_) (runs_if hE rfl rfl rfl hg103) bd21 rfl rfl rfl ?_
            clear hE hS hc_; rintro e w ⟨rfl, hS⟩; refine ⟨_, rfl, ?_⟩; clear a; intro a hE
            replace hS := bk113 _ _ hS
            replace hS := bk109 _ _ hS
            refine WL.vS hS hE (runs_plain rfl) (Gives.pickT hE rfl hg103 rfl) rfl ?_; clear hE a; intro a hE
            refine WL.vS hS hE (runs_plain rfl) (Gives.p hE rfl) rfl ?_; clear hE a; intro a hE
            refine WL.nil ?_
            replace hS := hS.tail
            replace hS := hS.tail
            subst hK99
            exact ⟨q104, Option.some.inj hq94, hE.pick _ ⟨rfl, trivial⟩, hS⟩
          · replace hq94 := iteF hg103 hq94
            refine WL.no hE (runs_not hE rfl rfl rfl (by rw [hg103]; decide)) rfl ?_; clear hE a; intro a hE
            refine WL.no hE (runs_not hE rfl rfl rfl (by rw [hg103]; decide)) rfl ?_; clear hE a; intro a hE
            refine WL.no hE (runs_not hE rfl rfl rfl (by rw [hg103]; decide)) rfl ?_; clear hE a; intro a hE
            refine WL.vS hS hE (runs_plain rfl) (Gives.pickF hE rfl hg103 rfl) rfl ?_; clear hE a; intro a hE
            refine WL.vS hS hE (runs_plain rfl) (Gives.p hE rfl) rfl ?_; clear hE a; intro a hE
            refine WL.nil ?_
            replace hS := hS.tail
            replace hS := hS.tail
            subst hK99
            exact ⟨false, Option.some.inj hq94, hE.pick _ ⟨rfl, trivial⟩, hS⟩
        · replace hq94 := iteF hg102 hq94
          refine WL.no hE (runs_not hE rfl rfl rfl (by rw [hg102]; decide)) rfl ?_; clear hE a; intro a hE
          refine WL.no hE (runs_not hE rfl rfl rfl (by rw [hg102]; decide)) rfl ?_; clear hE a; intro a hE
          refine WL.vS hS hE (runs_plain rfl) (Gives.pickF hE rfl hg102 rfl) rfl ?_; clear hE a; intro a hE
          refine WL.vS hS hE (runs_plain rfl) (Gives.p hE rfl) rfl ?_; clear hE a; intro a hE
          refine WL.no hE (runs_not hE rfl rfl rfl (by decide)) rfl ?_; clear hE a; intro a hE
          refine WL.no hE (runs_not hE rfl rfl rfl (by decide)) rfl ?_; clear hE a; intro a hE
          refine WL.no hE (runs_not hE rfl rfl rfl (by decide)) rfl ?_; clear hE a; intro a hE
          refine WL.vS hS hE (runs_plain rfl) (Gives.pickF hE rfl rfl rfl) rfl ?_; clear hE a; intro a hE
          refine WL.vS hS hE (runs_plain rfl) (Gives.p hE rfl) rfl ?_; clear hE a; intro a hE
          refine WL.nil ?_
          replace hS := hS.tail
          replace hS := hS.tail
          subst hK99
          exact ⟨false, Option.some.inj hq94, hE.pick _ ⟨rfl, trivial⟩, hS⟩
      · clear hE hS a w; rintro a w ⟨q98, rfl, hE, hS⟩
        refine W.ret ?_
        refine finG (fn := Try.f6) (rs := [.tmp 2]) (vs := [_]) hE rfl ⟨rfl, trivial⟩ ?_
        obtain rfl := Option.some.inj hr
        replace hS := hS.tail
        exact ⟨rfl, (hS.down (Sg.Le.trans hle61 hle82))⟩
end Go.Proofs.Ytffleanbfkjfiaa
