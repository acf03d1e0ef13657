/- The walks of the functions that TopRounds reaches: each call comes to what its mirror says. The conditions are those of each contract. -/
import Derived.Test.YtffleanbfkjfiaaProg
import Derived.Test.YtffleanbfkjfiaaTopRoundsM
import Derived.Test.YtffleanbfkjfiaaFpMore
import Derived.Test.YtffleanbfkjfiaaTopRoundsW1
namespace Go.Proofs.Ytffleanbfkjfiaa
open Go Go.Fp
set_option maxHeartbeats 8000000 in
theorem MendSolverwith_v1_ok {fu : Nat}  {w : World} {s : Sg} {R : List HP} {pb0 : Nat} {x1 : List MendArc} {a1 : Option Addr} {c1 : Nat} {y0 : MendSolver} {a_v0 : Option Addr} {c_v0 n_v0 : Nat} {cs_v0 : List Value} {a_y0_1 : Option Addr} {c_y0_1 : Nat} {a_v1 : Option Addr} {c_v1 n_v1 : Nat} {cs_v1 : List Value} (hS : St w s (pt pb0 (.cells #[.slice a_v0 n_v0 c_v0, .slice a_y0_1 y0.last.length c_y0_1, .slice a_v1 n_v1 c_v1] 127 (0, 0)) :: vecC 3 1 a_v0 c_v0 n_v0 cs_v0 :: vecC 97 1 a_v1 c_v1 n_v1 cs_v1 :: R)) (h1 : Sl 3 RMendArc s a1 c1 x1) (h_v0 : Ev 1 (RI .i64) s cs_v0 y0.times) (hn_v0 : y0.times.length = n_v0) (h_y0_1 : Sl 1 (RI .i64) s a_y0_1 c_y0_1 y0.last) (h_v1 : Ev 1 (RL 3 RMendArc) s cs_v1 y0.outs) (hn_v1 : y0.outs.length = n_v1) {r : (Option MendSolver) × Bool} (hr : MendSolverwith_v1 fu x1 y0 = some r) :
  Calls Try.prog 94 [.pointer (some ⟨pb0, 0, none⟩), .slice a1 x1.length c1].toArray w (fun e w => ∃ (a0 : Option Addr) (t : Sg), e = .returned (.tuple #[.pointer a0, .bool r.2]) ∧ s.Le t ∧ Pt 3 RMendSolver t a0 r.1 ∧ St w t (pt pb0 (.cells #[.slice a_v0 n_v0 c_v0, .slice a_y0_1 y0.last.length c_y0_1, .slice a_v1 n_v1 c_v1] 127 (0, 0)) :: vecC 3 1 a_v0 c_v0 n_v0 cs_v0 :: vecC 97 1 a_v1 c_v1 n_v1 cs_v1 :: R)) := by
 refine enter Try.func94 rfl rfl rfl fun a hE => ?_
 rw [MendSolverwith_v1] at hr
 subst hn_v0
 subst hn_v1
 refine W.seq (W.region ?_)
 refine WL.vS hS hE (runs_plain rfl) (Gives.p hE rfl) rfl ?_; clear hE a; intro a hE
 refine WL.vS hS hE (runs_plain rfl) (Gives.p hE rfl) rfl ?_; clear hE a; intro a hE
 refine WL.nil ?_
 refine W.seq ?_
 refine W.gen fun K51 hK51 => ?_
 refine W.regionE (sel (fun w => St w s (pt pb0 (.cells #[.slice a_v0 y0.times.length c_v0, .slice a_y0_1 y0.last.length c_y0_1, .slice a_v1 y0.outs.length c_v1] 127 (0, 0)) :: vecC 3 1 a_v0 c_v0 y0.times.length cs_v0 :: vecC 97 1 a_v1 c_v1 y0.outs.length cs_v1 :: R)) (fun w => St w s (pt pb0 (.cells #[.slice a_v0 y0.times.length c_v0, .slice a_y0_1 y0.last.length c_y0_1, .slice a_v1 y0.outs.length c_v1] 127 (0, 0)) :: vecC 3 1 a_v0 c_v0 y0.times.length cs_v0 :: vecC 97 1 a_v1 c_v1 y0.outs.length cs_v1 :: R))) (fun b i => cond b ([0, 1, 2, 3, 4, 5, 6, 7, 8, 9, 10, 11, 12, 13, 14, 15, 16, 17].contains i) ([0, 1, 2, 3, 4, 5, 6, 7, 8, 9, 10, 11, 12, 13, 14, 15, 16, 17].contains i)) mixed ?_
 replace hS := hS.drew
 refine Rg.takeP (i := 0) hE rfl (by kernel_rfl) (runs_plain rfl) (Gives.p hE rfl) rfl (tw_sel (fun _ => hS) (fun _ => hS)) ?_; clear hE a; intro a hE
 have hT := tw_sel (A := fun w => St w s (pt pb0 (.cells #[.slice a_v0 y0.times.length c_v0, .slice a_y0_1 y0.last.length c_y0_1, .slice a_v1 y0.outs.length c_v1] 127 (0, 0)) :: vecC 3 1 a_v0 c_v0 y0.times.length cs_v0 :: vecC 97 1 a_v1 c_v1 y0.outs.length cs_v1 :: R)) (B := fun w => St w s (pt pb0 (.cells #[.slice a_v0 y0.times.length c_v0, .slice a_y0_1 y0.last.length c_y0_1, .slice a_v1 y0.outs.length c_v1] 127 (0, 0)) :: vecC 3 1 a_v0 c_v0 y0.times.length cs_v0 :: vecC 97 1 a_v1 c_v1 y0.outs.length cs_v1 :: R)) (w := _) (x := true) (y := true) (fun _ => hS) (fun _ => hS)
 have hF := hS; replace hS := hS
 refine Rg.take (i := 1) true rfl hE rfl (by kernel_rfl) (runs_plain rfl) (Gives.nilOk hE rfl) rfl hT ?_; clear hE a; intro a hE
 replace hS := hF; clear hF hT
 refine Rg.takeP (i := 2) hE rfl (by kernel_rfl) (runs_plain rfl) (Gives.fld hE rfl fl127_0) rfl (tw_sel (fun _ => hS) (fun _ => hS)) ?_; clear hE a; intro a hE
 have hT := tw_sel (A := fun w => St w s (pt pb0 (.cells #[.slice a_v0 y0.times.length c_v0, .slice a_y0_1 y0.last.length c_y0_1, .slice a_v1 y0.outs.length c_v1] 127 (0, 0)) :: vecC 3 1 a_v0 c_v0 y0.times.length cs_v0 :: vecC 97 1 a_v1 c_v1 y0.outs.length cs_v1 :: R)) (B := fun w => St w s (pt pb0 (.cells #[.slice a_v0 y0.times.length c_v0, .slice a_y0_1 y0.last.length c_y0_1, .slice a_v1 y0.outs.length c_v1] 127 (0, 0)) :: vecC 3 1 a_v0 c_v0 y0.times.length cs_v0 :: vecC 97 1 a_v1 c_v1 y0.outs.length cs_v1 :: R)) (w := _) (x := true) (y := true) (fun _ => hS) (fun _ => hS)
 have hF := hS; replace hS := hS
 refine Rg.take (i := 3) true rfl hE rfl (by kernel_rfl) (runs_plain rfl) (Gives.loadB hE 0 rfl rfl rfl ty29) rfl hT ?_; clear hE a; intro a hE
 replace hS := hF; clear hF hT
 refine Rg.takeP (i := 5) hE rfl (by kernel_rfl) (runs_plain rfl) (Gives.p hE rfl) rfl (tw_sel (fun _ => hS) (fun _ => hS)) ?_; clear hE a; intro a hE
 have hT := tw_sel (A := fun w => St w s (pt pb0 (.cells #[.slice a_v0 y0.times.length c_v0, .slice a_y0_1 y0.last.length c_y0_1, .slice a_v1 y0.outs.length c_v1] 127 (0, 0)) :: vecC 3 1 a_v0 c_v0 y0.times.length cs_v0 :: vecC 97 1 a_v1 c_v1 y0.outs.length cs_v1 :: R)) (B := fun w => St w s (pt pb0 (.cells #[.slice a_v0 y0.times.length c_v0, .slice a_y0_1 y0.last.length c_y0_1, .slice a_v1 y0.outs.length c_v1] 127 (0, 0)) :: vecC 3 1 a_v0 c_v0 y0.times.length cs_v0 :: vecC 97 1 a_v1 c_v1 y0.outs.length cs_v1 :: R)) (w := _) (x := true) (y := true) (fun _ => hS) (fun _ => hS)
 have hF := hS; replace hS := hS
 refine Rg.take (i := 6) true rfl hE rfl (by kernel_rfl) (runs_plain rfl) (Gives.nilOk hE rfl) rfl hT ?_; clear hE a; intro a hE
 replace hS := hF; clear hF hT
 refine Rg.takeP (i := 7) hE rfl (by kernel_rfl) (runs_plain rfl) (Gives.fld hE rfl fl127_1) rfl (tw_sel (fun _ => hS) (fun _ => hS)) ?_; clear hE a; intro a hE
 have hT := tw_sel (A := fun w => St w s (pt pb0 (.cells #[.slice a_v0 y0.times.length c_v0, .slice a_y0_1 y0.last.length c_y0_1, .slice a_v1 y0.outs.length c_v1] 127 (0, 0)) :: vecC 3 1 a_v0 c_v0 y0.times.length cs_v0 :: vecC 97 1 a_v1 c_v1 y0.outs.length cs_v1 :: R)) (B := fun w => St w s (pt pb0 (.cells #[.slice a_v0 y0.times.length c_v0, .slice a_y0_1 y0.last.length c_y0_1, .slice a_v1 y0.outs.length c_v1] 127 (0, 0)) :: vecC 3 1 a_v0 c_v0 y0.times.length cs_v0 :: vecC 97 1 a_v1 c_v1 y0.outs.length cs_v1 :: R)) (w := _) (x := true) (y := true) (fun _ => hS) (fun _ => hS)
 have hF := hS; replace hS := hS
 refine Rg.take (i := 8) true rfl hE rfl (by kernel_rfl) (runs_plain rfl) (Gives.loadB hE 0 rfl rfl rfl ty29) rfl hT ?_; clear hE a; intro a hE
 replace hS := hF; clear hF hT
 refine Rg.takeP (i := 9) hE rfl (by kernel_rfl) (runs_plain rfl) (Gives.p hE rfl) rfl (tw_sel (fun _ => hS) (fun _ => hS)) ?_; clear hE a; intro a hE
 have hT := tw_sel (A := fun w => St w s (pt pb0 (.cells #[.slice a_v0 y0.times.length c_v0, .slice a_y0_1 y0.last.length c_y0_1, .slice a_v1 y0.outs.length c_v1] 127 (0, 0)) :: vecC 3 1 a_v0 c_v0 y0.times.length cs_v0 :: vecC 97 1 a_v1 c_v1 y0.outs.length cs_v1 :: R)) (B := fun w => St w s (pt pb0 (.cells #[.slice a_v0 y0.times.length c_v0, .slice a_y0_1 y0.last.length c_y0_1, .slice a_v1 y0.outs.length c_v1] 127 (0, 0)) :: vecC 3 1 a_v0 c_v0 y0.times.length cs_v0 :: vecC 97 1 a_v1 c_v1 y0.outs.length cs_v1 :: R)) (w := _) (x := true) (y := true) (fun _ => hS) (fun _ => hS)
 have hF := hS; replace hS := hS
 refine Rg.take (i := 10) true rfl hE rfl (by kernel_rfl) (runs_plain rfl) (Gives.nilOk hE rfl) rfl hT ?_; clear hE a; intro a hE
 replace hS := hF; clear hF hT
 refine Rg.takeP (i := 11) hE rfl (by kernel_rfl) (runs_plain rfl) (Gives.fld hE rfl fl127_2) rfl (tw_sel (fun _ => hS) (fun _ => hS)) ?_; clear hE a; intro a hE
 have hT := tw_sel (A := fun w => St w s (pt pb0 (.cells #[.slice a_v0 y0.times.length c_v0, .slice a_y0_1 y0.last.length c_y0_1, .slice a_v1 y0.outs.length c_v1] 127 (0, 0)) :: vecC 3 1 a_v0 c_v0 y0.times.length cs_v0 :: vecC 97 1 a_v1 c_v1 y0.outs.length cs_v1 :: R)) (B := fun w => St w s (pt pb0 (.cells #[.slice a_v0 y0.times.length c_v0, .slice a_y0_1 y0.last.length c_y0_1, .slice a_v1 y0.outs.length c_v1] 127 (0, 0)) :: vecC 3 1 a_v0 c_v0 y0.times.length cs_v0 :: vecC 97 1 a_v1 c_v1 y0.outs.length cs_v1 :: R)) (w := _) (x := true) (y := true) (fun _ => hS) (fun _ => hS)
 have hF := hS; replace hS := hS
 refine Rg.take (i := 12) true rfl hE rfl (by kernel_rfl) (runs_plain rfl) (Gives.loadB hE 0 rfl rfl rfl ty125) rfl hT ?_; clear hE a; intro a hE
 replace hS := hF; clear hF hT
 obtain ⟨q52, hq53, hr⟩ := bindS hr
 obtain ⟨q64, hq65, hr⟩ := bindS hr
 suffices key : ∀ cs69 cs57 b73 b72 a54 c55 a66 c67 (a : Act) (w : World), Sl 3 RMendArc s a1 c1 x1 → Sl 1 (RI .i64) s a_y0_1 c_y0_1 y0.last → Ev 1 (RL 3 RMendArc) s cs69 q64 → Ev 1 (RL 3 RMendArc) s cs_v1 y0.outs → Ev 1 (RI .i64) s cs_v0 y0.times → Ev 1 (RI .i64) s cs57 q52 → Rep a 128 [(1, .slice a1 x1.length c1), (6, .pointer (some ⟨b73, 0, none⟩))] → St w s (pt b73 (.cells #[.pointer (some ⟨b72, 0, none⟩)] 122 (0, 0)) :: pt b72 (.cells #[.slice a54 q52.length c55, .slice a_y0_1 y0.last.length c_y0_1, .slice a66 q64.length c67] 127 (0, 0)) :: vecC 97 1 a66 c67 q64.length cs69 :: vecC 97 1 a_v1 c_v1 y0.outs.length cs_v1 :: vecC 3 1 a_v0 c_v0 y0.times.length cs_v0 :: vecC 3 1 a54 c55 q52.length cs57 :: pt pb0 (.cells #[.slice a_v0 y0.times.length c_v0, .slice a_y0_1 y0.last.length c_y0_1, .slice a_v1 y0.outs.length c_v1] 127 (0, 0)) :: R) → K51.nor a w by
  refine Rg.many 4 [16] (by kernel_rfl) ⟨?_, ?_, trivial⟩
  ·refine Br.mk (i := 4) true true rfl (by kernel_rfl) (by kernel_rfl) ?_
   have hF := hS.lendV RI.mono 1 rfl h_v0 (rfl); clear hS; obtain ⟨t60, hle61, hS, hs62, bk63⟩ := hF
   have hc_ := SlicesCloneLint_ok hS hs62 hq53
   refine WL.fnq hE (hc_) (runs_plain rfl) bd60 rfl rfl rfl ?_
   clear hE hS hc_; rintro e w ⟨a54, c55, n56, cs57, rfl, h58, rfl, hS⟩; refine ⟨_, rfl, ?_⟩; clear a; intro a hE
   replace hS := bk63 _ _ hS
   replace h58 := Ev.flat (s2 := s) (fun _ _ _ _ h => h) h58
   refine WL.nil ?_
   refine ⟨⟨fun _ => (St.front (St.front (St.front (hS.dropAt 1) 2 rfl) 1 rfl) 2 rfl), fun _ => (St.front (St.front (St.front (hS.dropAt 1) 2 rfl) 1 rfl) 2 rfl)⟩, ?_⟩
   refine Rg.many 13 [16] (by kernel_rfl) ⟨?_, ?_, trivial⟩
   ·refine Br.mk (i := 13) true true rfl (by kernel_rfl) (by kernel_rfl) ?_
    replace hS := hS.front 3 rfl
    have hc_ := SlicesCloneLLmendArc_v1_ok hS h_v1 (rfl) hq65
    refine WL.fnq hE (hc_) (runs_plain rfl) bd96 rfl rfl rfl ?_
    clear hE hS hc_; rintro e w ⟨a66, c67, n68, cs69, rfl, h70, rfl, hS⟩; refine ⟨_, rfl, ?_⟩; clear a; intro a hE
    refine WL.nil ?_
    refine ⟨⟨fun _ => (St.front (St.front ((hS.tail).dropAt 2) 1 rfl) 2 rfl), fun _ => (St.front (St.front ((hS.tail).dropAt 2) 1 rfl) 2 rfl)⟩, ?_⟩
    refine Rg.takeP (i := 14) hE rfl (by kernel_rfl) (runs_plain rfl) (Gives.build hE (vs := [(0, .slice a54 q52.length c55), (1, .slice a_y0_1 y0.last.length c_y0_1), (2, .slice a66 q64.length c67)]) [.slice a54 q52.length c55, .slice a_y0_1 y0.last.length c_y0_1, .slice a66 q64.length c67] rfl (by kernel_rfl)) rfl (tw_sel (fun _ => (St.front (St.front ((hS.tail).dropAt 2) 1 rfl) 2 rfl)) (fun _ => (St.front (St.front ((hS.tail).dropAt 2) 1 rfl) 2 rfl))) ?_; clear hE a; intro a hE
    refine Rg.many 15 [16] (by kernel_rfl) ⟨?_, ?_, trivial⟩
    ·refine Br.mk (i := 15) true true rfl (by kernel_rfl) (by kernel_rfl) ?_
     refine WL.box hE hS (runs_plain rfl) rfl rfl rfl ?_; clear hE hS a w; intro b72 a w hE hS
     refine WL.nil ?_
     refine ⟨⟨fun _ => (St.front (St.front (((hS.tail).tail).dropAt 2) 1 rfl) 2 rfl), fun _ => (St.front (St.front (((hS.tail).tail).dropAt 2) 1 rfl) 2 rfl)⟩, ?_⟩
     refine Rg.one (i := 16) true true rfl (by kernel_rfl) (by kernel_rfl) (by kernel_rfl) ?_
     refine WL.alloc hE hS (runs_plain rfl) zr122 rfl ?_; clear hE hS a w; intro b73 a w hE hS
     refine WL.nil ?_
     refine ⟨⟨fun _ => (St.front (St.front ((((hS.tail).tail).tail).dropAt 2) 1 rfl) 2 rfl), fun _ => (St.front (St.front ((((hS.tail).tail).tail).dropAt 2) 1 rfl) 2 rfl)⟩, ?_⟩
     refine Rg.one (i := 17) true true rfl (by kernel_rfl) (by kernel_rfl) (by kernel_rfl) ?_
     refine WL.storeI hE hS 0 rfl [.pointer (some ⟨b72, 0, none⟩)] (runs_plain rfl) rfl rfl rfl ty122 rfl rfl rfl rfl ?_; clear hE hS a w; intro a w hE hS
     refine WL.nil ?_
     refine ⟨⟨fun _ => (St.front (St.front ((((hS.tail).tail).tail).dropAt 2) 1 rfl) 2 rfl), fun _ => (St.front (St.front ((((hS.tail).tail).tail).dropAt 2) 1 rfl) 2 rfl)⟩, ?_⟩
     refine Rg.done (by kernel_rfl) ?_
     exact key _ _ _ _ _ _ _ _ _ _ h1 h_y0_1 h70 h_v1 h_v0 h58 (hE.pick _ ⟨rfl, rfl, trivial⟩) hS
    ·refine Br.mk (i := 16) true true rfl (by kernel_rfl) (by kernel_rfl) ?_
     refine WL.alloc hE hS (runs_plain rfl) zr122 rfl ?_; clear hE hS a w; intro b73 a w hE hS
     refine WL.nil ?_
     refine ⟨⟨fun _ => (St.front (St.front (((hS.tail).tail).dropAt 2) 1 rfl) 2 rfl), fun _ => (St.front (St.front (((hS.tail).tail).dropAt 2) 1 rfl) 2 rfl)⟩, ?_⟩
     refine Rg.one (i := 15) true true rfl (by kernel_rfl) (by kernel_rfl) (by kernel_rfl) ?_
     refine WL.box hE hS (runs_plain rfl) rfl rfl rfl ?_; clear hE hS a w; intro b72 a w hE hS
     refine WL.nil ?_
     refine ⟨⟨fun _ => (St.front (St.front ((((hS.tail).tail).tail).dropAt 2) 1 rfl) 2 rfl), fun _ => (St.front (St.front ((((hS.tail).tail).tail).dropAt 2) 1 rfl) 2 rfl)⟩, ?_⟩
     refine Rg.one (i := 17) true true rfl (by kernel_rfl) (by kernel_rfl) (by kernel_rfl) ?_
     refine WL.storeI hE hS 1 rfl [.pointer (some ⟨b72, 0, none⟩)] (runs_plain rfl) rfl rfl rfl ty122 rfl rfl rfl rfl ?_; clear hE hS a w; intro a w hE hS
     refine WL.nil ?_
     refine ⟨⟨fun _ => (St.front (St.front ((((hS.tail).tail).tail).dropAt 2) 1 rfl) 2 rfl), fun _ => (St.front (St.front ((((hS.tail).tail).tail).dropAt 2) 1 rfl) 2 rfl)⟩, ?_⟩
     refine Rg.done (by kernel_rfl) ?_
     replace hS := hS.front 6 rfl
     replace hS := hS.front 6 rfl
     replace hS := hS.front 6 rfl
     replace hS := hS.front 6 rfl
     replace hS := hS.front 6 rfl
     replace hS := hS.front 5 rfl
     replace hS := hS.front 6 rfl
     exact key _ _ _ _ _ _ _ _ _ _ h1 h_y0_1 h70 h_v1 h_v0 h58 (hE.pick _ ⟨rfl, rfl, trivial⟩) hS
   ·refine Br.mk (i := 16) true true rfl (by kernel_rfl) (by kernel_rfl) ?_
    refine WL.alloc hE hS (runs_plain rfl) zr122 rfl ?_; clear hE hS a w; intro b73 a w hE hS
    refine WL.nil ?_
    refine ⟨⟨fun _ => (St.front (St.front (St.front ((hS.tail).dropAt 1) 2 rfl) 1 rfl) 2 rfl), fun _ => (St.front (St.front (St.front ((hS.tail).dropAt 1) 2 rfl) 1 rfl) 2 rfl)⟩, ?_⟩
    refine Rg.one (i := 13) true true rfl (by kernel_rfl) (by kernel_rfl) (by kernel_rfl) ?_
    replace hS := hS.front 4 rfl
    have hc_ := SlicesCloneLLmendArc_v1_ok hS h_v1 (rfl) hq65
    refine WL.fnq hE (hc_) (runs_plain rfl) bd96 rfl rfl rfl ?_
    clear hE hS hc_; rintro e w ⟨a66, c67, n68, cs69, rfl, h70, rfl, hS⟩; refine ⟨_, rfl, ?_⟩; clear a; intro a hE
    refine WL.nil ?_
    refine ⟨⟨fun _ => (St.front (St.front (((hS.tail).dropAt 1).dropAt 2) 1 rfl) 2 rfl), fun _ => (St.front (St.front (((hS.tail).dropAt 1).dropAt 2) 1 rfl) 2 rfl)⟩, ?_⟩
    refine Rg.takeP (i := 14) hE rfl (by kernel_rfl) (runs_plain rfl) (Gives.build hE (vs := [(0, .slice a54 q52.length c55), (1, .slice a_y0_1 y0.last.length c_y0_1), (2, .slice a66 q64.length c67)]) [.slice a54 q52.length c55, .slice a_y0_1 y0.last.length c_y0_1, .slice a66 q64.length c67] rfl (by kernel_rfl)) rfl (tw_sel (fun _ => (St.front (St.front (((hS.tail).dropAt 1).dropAt 2) 1 rfl) 2 rfl)) (fun _ => (St.front (St.front (((hS.tail).dropAt 1).dropAt 2) 1 rfl) 2 rfl))) ?_; clear hE a; intro a hE
    refine Rg.one (i := 15) true true rfl (by kernel_rfl) (by kernel_rfl) (by kernel_rfl) ?_
    refine WL.box hE hS (runs_plain rfl) rfl rfl rfl ?_; clear hE hS a w; intro b72 a w hE hS
    refine WL.nil ?_
    refine ⟨⟨fun _ => (St.front (St.front ((((hS.tail).tail).dropAt 1).dropAt 2) 1 rfl) 2 rfl), fun _ => (St.front (St.front ((((hS.tail).tail).dropAt 1).dropAt 2) 1 rfl) 2 rfl)⟩, ?_⟩
    refine Rg.one (i := 17) true true rfl (by kernel_rfl) (by kernel_rfl) (by kernel_rfl) ?_
    refine WL.storeI hE hS 3 rfl [.pointer (some ⟨b72, 0, none⟩)] (runs_plain rfl) rfl rfl rfl ty122 rfl rfl rfl rfl ?_; clear hE hS a w; intro a w hE hS
    refine WL.nil ?_
    refine ⟨⟨fun _ => (St.front (St.front ((((hS.tail).tail).dropAt 1).dropAt 2) 1 rfl) 2 rfl), fun _ => (St.front (St.front ((((hS.tail).tail).dropAt 1).dropAt 2) 1 rfl) 2 rfl)⟩, ?_⟩
    refine Rg.done (by kernel_rfl) ?_
    replace hS := hS.front 6 rfl
    replace hS := hS.front 6 rfl
    replace hS := hS.front 6 rfl
    replace hS := hS.front 5 rfl
    replace hS := hS.front 5 rfl
    replace hS := hS.front 5 rfl
    replace hS := hS.front 6 rfl
    exact key _ _ _ _ _ _ _ _ _ _ h1 h_y0_1 h70 h_v1 h_v0 h58 (hE.pick _ ⟨rfl, rfl, trivial⟩) hS
  ·refine Br.mk (i := 16) true true rfl (by kernel_rfl) (by kernel_rfl) ?_
   refine WL.alloc hE hS (runs_plain rfl) zr122 rfl ?_; clear hE hS a w; intro b73 a w hE hS
   refine WL.nil ?_
   refine ⟨⟨fun _ => (hS.tail), fun _ => (hS.tail)⟩, ?_⟩
   refine Rg.one (i := 4) true true rfl (by kernel_rfl) (by kernel_rfl) (by kernel_rfl) ?_
   have hF := hS.lendV RI.mono 2 rfl h_v0 (rfl); clear hS; obtain ⟨t60, hle61, hS, hs62, bk63⟩ := hF
   have hc_ := SlicesCloneLint_ok hS hs62 hq53
   refine WL.fnq hE (hc_) (runs_plain rfl) bd60 rfl rfl rfl ?_
   clear hE hS hc_; rintro e w ⟨a54, c55, n56, cs57, rfl, h58, rfl, hS⟩; refine ⟨_, rfl, ?_⟩; clear a; intro a hE
   replace hS := bk63 _ _ hS
   replace h58 := Ev.flat (s2 := s) (fun _ _ _ _ h => h) h58
   refine WL.nil ?_
   refine ⟨⟨fun _ => (St.front (St.front (St.front ((hS.dropAt 1).dropAt 1) 2 rfl) 1 rfl) 2 rfl), fun _ => (St.front (St.front (St.front ((hS.dropAt 1).dropAt 1) 2 rfl) 1 rfl) 2 rfl)⟩, ?_⟩
   refine Rg.one (i := 13) true true rfl (by kernel_rfl) (by kernel_rfl) (by kernel_rfl) ?_
   replace hS := hS.front 4 rfl
   have hc_ := SlicesCloneLLmendArc_v1_ok hS h_v1 (rfl) hq65
   refine WL.fnq hE (hc_) (runs_plain rfl) bd96 rfl rfl rfl ?_
   clear hE hS hc_; rintro e w ⟨a66, c67, n68, cs69, rfl, h70, rfl, hS⟩; refine ⟨_, rfl, ?_⟩; clear a; intro a hE
   refine WL.nil ?_
   refine ⟨⟨fun _ => (St.front (St.front (((hS.tail).dropAt 2).dropAt 2) 1 rfl) 2 rfl), fun _ => (St.front (St.front (((hS.tail).dropAt 2).dropAt 2) 1 rfl) 2 rfl)⟩, ?_⟩
   refine Rg.takeP (i := 14) hE rfl (by kernel_rfl) (runs_plain rfl) (Gives.build hE (vs := [(0, .slice a54 q52.length c55), (1, .slice a_y0_1 y0.last.length c_y0_1), (2, .slice a66 q64.length c67)]) [.slice a54 q52.length c55, .slice a_y0_1 y0.last.length c_y0_1, .slice a66 q64.length c67] rfl (by kernel_rfl)) rfl (tw_sel (fun _ => (St.front (St.front (((hS.tail).dropAt 2).dropAt 2) 1 rfl) 2 rfl)) (fun _ => (St.front (St.front (((hS.tail).dropAt 2).dropAt 2) 1 rfl) 2 rfl))) ?_; clear hE a; intro a hE
   refine Rg.one (i := 15) true true rfl (by kernel_rfl) (by kernel_rfl) (by kernel_rfl) ?_
   refine WL.box hE hS (runs_plain rfl) rfl rfl rfl ?_; clear hE hS a w; intro b72 a w hE hS
   refine WL.nil ?_
   refine ⟨⟨fun _ => (St.front (St.front ((((hS.tail).tail).dropAt 2).dropAt 2) 1 rfl) 2 rfl), fun _ => (St.front (St.front ((((hS.tail).tail).dropAt 2).dropAt 2) 1 rfl) 2 rfl)⟩, ?_⟩
   refine Rg.one (i := 17) true true rfl (by kernel_rfl) (by kernel_rfl) (by kernel_rfl) ?_
   refine WL.storeI hE hS 5 rfl [.pointer (some ⟨b72, 0, none⟩)] (runs_plain rfl) rfl rfl rfl ty122 rfl rfl rfl rfl ?_; clear hE hS a w; intro a w hE hS
   refine WL.nil ?_
   refine ⟨⟨fun _ => (St.front (St.front ((((hS.tail).tail).dropAt 2).dropAt 2) 1 rfl) 2 rfl), fun _ => (St.front (St.front ((((hS.tail).tail).dropAt 2).dropAt 2) 1 rfl) 2 rfl)⟩, ?_⟩
   refine Rg.done (by kernel_rfl) ?_
   replace hS := hS.front 6 rfl
   replace hS := hS.front 5 rfl
   replace hS := hS.front 5 rfl
   replace hS := hS.front 5 rfl
   replace hS := hS.front 5 rfl
   replace hS := hS.front 5 rfl
   replace hS := hS.front 6 rfl
   exact key _ _ _ _ _ _ _ _ _ _ h1 h_y0_1 h70 h_v1 h_v0 h58 (hE.pick _ ⟨rfl, rfl, trivial⟩) hS
 clear hE hS a w; intro cs69 cs57 b73 b72 a54 c55 a66 c67 a w h1 h_y0_1 h70 h_v1 h_v0 h58 hE hS
 subst hK51
 refine W.seq ?_
 refine W.seq (W.region ?_)
 refine WL.vS hS hE (runs_plain rfl) (Gives.p hE rfl) rfl ?_; clear hE a; intro a hE
 refine WL.vS hS hE (runs_plain rfl) (Gives.len hE rfl sl97) rfl ?_; clear hE a; intro a hE
 refine WL.vS hS hE (runs_plain rfl) (Gives.p hE rfl) rfl ?_; clear hE a; intro a hE
 refine WL.nil ?_
 obtain ⟨q76, hq75, hr⟩ := bindS hr
 refine W.cut (fun a w => ∃ (q86 : List (List MendArc)), ∃ (cs90 : List Value), ∃ (s84 : Sg), s.Le s84 ∧ q86 = q76 ∧ Ev 1 (RL 3 RMendArc) s84 cs90 q86 ∧ q86.length = q64.length ∧ Rep a 128 [(1, .slice a1 x1.length c1), (6, .pointer (some ⟨b73, 0, none⟩))] ∧ St w s84 (pt b73 (.cells #[.pointer (some ⟨b72, 0, none⟩)] 122 (0, 0)) :: pt b72 (.cells #[.slice a54 q52.length c55, .slice a_y0_1 y0.last.length c_y0_1, .slice a66 q64.length c67] 127 (0, 0)) :: vecC 97 1 a66 c67 q64.length cs90 :: vecC 97 1 a_v1 c_v1 y0.outs.length cs_v1 :: vecC 3 1 a_v0 c_v0 y0.times.length cs_v0 :: vecC 3 1 a54 c55 q52.length cs57 :: pt pb0 (.cells #[.slice a_v0 y0.times.length c_v0, .slice a_y0_1 y0.last.length c_y0_1, .slice a_v1 y0.outs.length c_v1] 127 (0, 0)) :: R)) ?_ ?_
 ·refine W.block ?_
  refine W.loop (fun m a w => ∃ (rest79 : List MendArc) (k77 : Nat), ∃ (q86 : List (List MendArc)), ∃ (cs90 : List Value), ∃ (s84 : Sg), rest79.length = m ∧ x1.drop k77 = rest79 ∧ s.Le s84 ∧ MendSolverwith_v1.loop1 rest79 q86 = some q76 ∧ Ev 1 (RL 3 RMendArc) s84 cs90 q86 ∧ q86.length = q64.length ∧ Rep a 128 [(1, .slice a1 x1.length c1), (6, .pointer (some ⟨b73, 0, none⟩)), (36, .slice a1 x1.length c1), (37, .int .i64 ((x1).length : Int)), (38, .int .i64 ((k77 : Nat) : Int))] ∧ St w s84 (pt b73 (.cells #[.pointer (some ⟨b72, 0, none⟩)] 122 (0, 0)) :: pt b72 (.cells #[.slice a54 q52.length c55, .slice a_y0_1 y0.last.length c_y0_1, .slice a66 q64.length c67] 127 (0, 0)) :: vecC 97 1 a66 c67 q64.length cs90 :: vecC 97 1 a_v1 c_v1 y0.outs.length cs_v1 :: vecC 3 1 a_v0 c_v0 y0.times.length cs_v0 :: vecC 3 1 a54 c55 q52.length cs57 :: pt pb0 (.cells #[.slice a_v0 y0.times.length c_v0, .slice a_y0_1 y0.last.length c_y0_1, .slice a_v1 y0.outs.length c_v1] 127 (0, 0)) :: R)) (m := x1.length) ⟨x1, 0, q64, cs69, s, rfl, rfl, (Sg.Le.refl _), hq75, h70, rfl, hE.pick _ ⟨rfl, rfl, rfl, rfl, rfl, trivial⟩, hS⟩ ?_
  clear hE hS a w hq75; rintro m83 a w ⟨rest79, k77, q86, cs90, s84, rfl, hd80, hle85, hq75, h89, hn91, hE, hS⟩
  refine W.gen fun K92 hK92 => ?_
  replace h1 := Sl.mono RMendArc.mono hle85 h1
  replace h_y0_1 := Sl.mono RI.mono hle85 h_y0_1
  replace h70 := Ev.mono (RL.mono RMendArc.mono) hle85 h70
  replace h_v1 := Ev.mono (RL.mono RMendArc.mono) hle85 h_v1
  replace h_v0 := Ev.mono RI.mono hle85 h_v0
  replace h58 := Ev.mono RI.mono hle85 h58
  rcases rest79 with _ | ⟨x78, rest79⟩
  ·have hlt81 := drop_nil hd80
   refine W.seq (W.region ?_)
   refine WL.vS hS hE (runs_plain rfl) (Gives.p hE rfl) rfl ?_; clear hE a; intro a hE
   refine WL.nil ?_
   refine W.seq ?_
   refine W.condF hE rfl (decide_eq_false (by omega)) ?_
   subst hK92
   refine W.exit rfl ?_
   exact ⟨q86, cs90, s84, hle85, Option.some.inj hq75, h89, hn91, hE.pick _ ⟨rfl, rfl, trivial⟩, hS⟩
  ·obtain ⟨hlt81, hx82, hd80⟩ := drop_cons hd80
   rw [MendSolverwith_v1.loop1] at hq75
   refine W.seq (W.region ?_)
   refine WL.vS hS hE (runs_plain rfl) (Gives.p hE rfl) rfl ?_; clear hE a; intro a hE
   refine WL.nil ?_
   refine W.seq ?_
   refine W.condT hE rfl (decide_eq_true (by omega)) ?_
   refine W.skip ?_
   refine W.seq ?_
   refine W.block ?_
   refine W.seq (W.region ?_)
   obtain ⟨cs93, hl94, hR95, hat96⟩ := h1.at hx82
   subst hR95
   refine WL.vS hS hE (runs_plain rfl) (Gives.idx hE k77 rfl rfl sl97 rfl hlt81 (h1.aok hlt81)) rfl ?_; clear hE a; intro a hE
   refine WL.vS hS hE (runs_plain rfl) (Gives.loadA hE rfl (fun w h => hat96 w _ h) ty144) rfl ?_; clear hE a; intro a hE
   refine WL.alloc hE hS (runs_plain rfl) zr144 rfl ?_; clear hE hS a w; intro b97 a w hE hS
   refine WL.storeI hE hS 0 rfl (MendArc.cells x78) (runs_plain rfl) rfl rfl rfl ty144 rfl rfl rfl rfl ?_; clear hE hS a w; intro a w hE hS
   refine WL.nil ?_
   refine W.gen fun K98 hK98 => ?_
   refine W.regionE (sel (fun w => St w s84 (pt b97 (.cells (MendArc.cells x78).toArray 144 (0, 0)) :: pt b73 (.cells #[.pointer (some ⟨b72, 0, none⟩)] 122 (0, 0)) :: pt b72 (.cells #[.slice a54 q52.length c55, .slice a_y0_1 y0.last.length c_y0_1, .slice a66 q64.length c67] 127 (0, 0)) :: vecC 97 1 a66 c67 q64.length cs90 :: vecC 97 1 a_v1 c_v1 y0.outs.length cs_v1 :: vecC 3 1 a_v0 c_v0 y0.times.length cs_v0 :: vecC 3 1 a54 c55 q52.length cs57 :: pt pb0 (.cells #[.slice a_v0 y0.times.length c_v0, .slice a_y0_1 y0.last.length c_y0_1, .slice a_v1 y0.outs.length c_v1] 127 (0, 0)) :: R)) (fun w => St w s84 (pt b97 (.cells (MendArc.cells x78).toArray 144 (0, 0)) :: pt b73 (.cells #[.pointer (some ⟨b72, 0, none⟩)] 122 (0, 0)) :: pt b72 (.cells #[.slice a54 q52.length c55, .slice a_y0_1 y0.last.length c_y0_1, .slice a66 q64.length c67] 127 (0, 0)) :: vecC 97 1 a_v1 c_v1 y0.outs.length cs_v1 :: vecC 3 1 a_v0 c_v0 y0.times.length cs_v0 :: vecC 3 1 a54 c55 q52.length cs57 :: pt pb0 (.cells #[.slice a_v0 y0.times.length c_v0, .slice a_y0_1 y0.last.length c_y0_1, .slice a_v1 y0.outs.length c_v1] 127 (0, 0)) :: R))) (fun b i => cond b ([0, 1, 2, 3, 4, 5, 6, 7, 8, 9, 10, 11, 12, 13, 14, 15, 16, 17, 18].contains i) ([0, 1, 2, 3, 4, 5, 6, 7, 8, 9, 10, 11, 12, 13, 14, 15, 16, 17, 18, 19].contains i)) mixed ?_
   replace hS := hS.drew
   have hT := tw_sel (A := fun w => St w s84 (pt b97 (.cells (MendArc.cells x78).toArray 144 (0, 0)) :: pt b73 (.cells #[.pointer (some ⟨b72, 0, none⟩)] 122 (0, 0)) :: pt b72 (.cells #[.slice a54 q52.length c55, .slice a_y0_1 y0.last.length c_y0_1, .slice a66 q64.length c67] 127 (0, 0)) :: vecC 97 1 a66 c67 q64.length cs90 :: vecC 97 1 a_v1 c_v1 y0.outs.length cs_v1 :: vecC 3 1 a_v0 c_v0 y0.times.length cs_v0 :: vecC 3 1 a54 c55 q52.length cs57 :: pt pb0 (.cells #[.slice a_v0 y0.times.length c_v0, .slice a_y0_1 y0.last.length c_y0_1, .slice a_v1 y0.outs.length c_v1] 127 (0, 0)) :: R)) (B := fun w => St w s84 (pt b97 (.cells (MendArc.cells x78).toArray 144 (0, 0)) :: pt b73 (.cells #[.pointer (some ⟨b72, 0, none⟩)] 122 (0, 0)) :: pt b72 (.cells #[.slice a54 q52.length c55, .slice a_y0_1 y0.last.length c_y0_1, .slice a66 q64.length c67] 127 (0, 0)) :: vecC 97 1 a_v1 c_v1 y0.outs.length cs_v1 :: vecC 3 1 a_v0 c_v0 y0.times.length cs_v0 :: vecC 3 1 a54 c55 q52.length cs57 :: pt pb0 (.cells #[.slice a_v0 y0.times.length c_v0, .slice a_y0_1 y0.last.length c_y0_1, .slice a_v1 y0.outs.length c_v1] 127 (0, 0)) :: R)) (w := _) (x := true) (y := true) (fun _ => hS) (fun _ => (hS.dropAt 3))
   have hF := hS; replace hS := hS
   refine Rg.take (i := 0) true rfl hE rfl (by kernel_rfl) (runs_plain rfl) (Gives.loadB hE 1 rfl rfl rfl ty122) rfl hT ?_; clear hE a; intro a hE
   replace hS := hF; clear hF hT
   have hT := tw_sel (A := fun w => St w s84 (pt b97 (.cells (MendArc.cells x78).toArray 144 (0, 0)) :: pt b73 (.cells #[.pointer (some ⟨b72, 0, none⟩)] 122 (0, 0)) :: pt b72 (.cells #[.slice a54 q52.length c55, .slice a_y0_1 y0.last.length c_y0_1, .slice a66 q64.length c67] 127 (0, 0)) :: vecC 97 1 a66 c67 q64.length cs90 :: vecC 97 1 a_v1 c_v1 y0.outs.length cs_v1 :: vecC 3 1 a_v0 c_v0 y0.times.length cs_v0 :: vecC 3 1 a54 c55 q52.length cs57 :: pt pb0 (.cells #[.slice a_v0 y0.times.length c_v0, .slice a_y0_1 y0.last.length c_y0_1, .slice a_v1 y0.outs.length c_v1] 127 (0, 0)) :: R)) (B := fun w => St w s84 (pt b97 (.cells (MendArc.cells x78).toArray 144 (0, 0)) :: pt b73 (.cells #[.pointer (some ⟨b72, 0, none⟩)] 122 (0, 0)) :: pt b72 (.cells #[.slice a54 q52.length c55, .slice a_y0_1 y0.last.length c_y0_1, .slice a66 q64.length c67] 127 (0, 0)) :: vecC 97 1 a_v1 c_v1 y0.outs.length cs_v1 :: vecC 3 1 a_v0 c_v0 y0.times.length cs_v0 :: vecC 3 1 a54 c55 q52.length cs57 :: pt pb0 (.cells #[.slice a_v0 y0.times.length c_v0, .slice a_y0_1 y0.last.length c_y0_1, .slice a_v1 y0.outs.length c_v1] 127 (0, 0)) :: R)) (w := _) (x := true) (y := true) (fun _ => hS) (fun _ => (hS.dropAt 3))
   have hF := hS; replace hS := hS
   refine Rg.take (i := 1) true rfl hE rfl (by kernel_rfl) (runs_plain rfl) (Gives.nilOk hE rfl) rfl hT ?_; clear hE a; intro a hE
   replace hS := hF; clear hF hT
   refine Rg.takeP (i := 2) hE rfl (by kernel_rfl) (runs_plain rfl) (Gives.fld hE rfl fl127_2) rfl (tw_sel (fun _ => hS) (fun _ => (hS.dropAt 3))) ?_; clear hE a; intro a hE
   have hT := tw_sel (A := fun w => St w s84 (pt b97 (.cells (MendArc.cells x78).toArray 144 (0, 0)) :: pt b73 (.cells #[.pointer (some ⟨b72, 0, none⟩)] 122 (0, 0)) :: pt b72 (.cells #[.slice a54 q52.length c55, .slice a_y0_1 y0.last.length c_y0_1, .slice a66 q64.length c67] 127 (0, 0)) :: vecC 97 1 a66 c67 q64.length cs90 :: vecC 97 1 a_v1 c_v1 y0.outs.length cs_v1 :: vecC 3 1 a_v0 c_v0 y0.times.length cs_v0 :: vecC 3 1 a54 c55 q52.length cs57 :: pt pb0 (.cells #[.slice a_v0 y0.times.length c_v0, .slice a_y0_1 y0.last.length c_y0_1, .slice a_v1 y0.outs.length c_v1] 127 (0, 0)) :: R)) (B := fun w => St w s84 (pt b97 (.cells (MendArc.cells x78).toArray 144 (0, 0)) :: pt b73 (.cells #[.pointer (some ⟨b72, 0, none⟩)] 122 (0, 0)) :: pt b72 (.cells #[.slice a54 q52.length c55, .slice a_y0_1 y0.last.length c_y0_1, .slice a66 q64.length c67] 127 (0, 0)) :: vecC 97 1 a_v1 c_v1 y0.outs.length cs_v1 :: vecC 3 1 a_v0 c_v0 y0.times.length cs_v0 :: vecC 3 1 a54 c55 q52.length cs57 :: pt pb0 (.cells #[.slice a_v0 y0.times.length c_v0, .slice a_y0_1 y0.last.length c_y0_1, .slice a_v1 y0.outs.length c_v1] 127 (0, 0)) :: R)) (w := _) (x := true) (y := true) (fun _ => hS) (fun _ => (hS.dropAt 3))
   have hF := hS; replace hS := hS
   refine Rg.take (i := 3) true rfl hE rfl (by kernel_rfl) (runs_plain rfl) (Gives.loadB hE 2 rfl rfl rfl ty125) rfl hT ?_; clear hE a; intro a hE
   replace hS := hF; clear hF hT
   refine Rg.takeP (i := 4) hE rfl (by kernel_rfl) (runs_plain rfl) (Gives.fld hE rfl fl144_0) rfl (tw_sel (fun _ => hS) (fun _ => (hS.dropAt 3))) ?_; clear hE a; intro a hE
   have hT := tw_sel (A := fun w => St w s84 (pt b97 (.cells (MendArc.cells x78).toArray 144 (0, 0)) :: pt b73 (.cells #[.pointer (some ⟨b72, 0, none⟩)] 122 (0, 0)) :: pt b72 (.cells #[.slice a54 q52.length c55, .slice a_y0_1 y0.last.length c_y0_1, .slice a66 q64.length c67] 127 (0, 0)) :: vecC 97 1 a66 c67 q64.length cs90 :: vecC 97 1 a_v1 c_v1 y0.outs.length cs_v1 :: vecC 3 1 a_v0 c_v0 y0.times.length cs_v0 :: vecC 3 1 a54 c55 q52.length cs57 :: pt pb0 (.cells #[.slice a_v0 y0.times.length c_v0, .slice a_y0_1 y0.last.length c_y0_1, .slice a_v1 y0.outs.length c_v1] 127 (0, 0)) :: R)) (B := fun w => St w s84 (pt b97 (.cells (MendArc.cells x78).toArray 144 (0, 0)) :: pt b73 (.cells #[.pointer (some ⟨b72, 0, none⟩)] 122 (0, 0)) :: pt b72 (.cells #[.slice a54 q52.length c55, .slice a_y0_1 y0.last.length c_y0_1, .slice a66 q64.length c67] 127 (0, 0)) :: vecC 97 1 a_v1 c_v1 y0.outs.length cs_v1 :: vecC 3 1 a_v0 c_v0 y0.times.length cs_v0 :: vecC 3 1 a54 c55 q52.length cs57 :: pt pb0 (.cells #[.slice a_v0 y0.times.length c_v0, .slice a_y0_1 y0.last.length c_y0_1, .slice a_v1 y0.outs.length c_v1] 127 (0, 0)) :: R)) (w := _) (x := true) (y := true) (fun _ => hS) (fun _ => (hS.dropAt 3))
   have hF := hS; replace hS := hS
   refine Rg.take (i := 5) true rfl hE rfl (by kernel_rfl) (runs_plain rfl) (Gives.loadB hE 0 rfl rfl rfl ty3) rfl hT ?_; clear hE a; intro a hE
   replace hS := hF; clear hF hT
   have hT := tw_sel (A := fun w => St w s84 (pt b97 (.cells (MendArc.cells x78).toArray 144 (0, 0)) :: pt b73 (.cells #[.pointer (some ⟨b72, 0, none⟩)] 122 (0, 0)) :: pt b72 (.cells #[.slice a54 q52.length c55, .slice a_y0_1 y0.last.length c_y0_1, .slice a66 q64.length c67] 127 (0, 0)) :: vecC 97 1 a66 c67 q64.length cs90 :: vecC 97 1 a_v1 c_v1 y0.outs.length cs_v1 :: vecC 3 1 a_v0 c_v0 y0.times.length cs_v0 :: vecC 3 1 a54 c55 q52.length cs57 :: pt pb0 (.cells #[.slice a_v0 y0.times.length c_v0, .slice a_y0_1 y0.last.length c_y0_1, .slice a_v1 y0.outs.length c_v1] 127 (0, 0)) :: R)) (B := fun w => St w s84 (pt b97 (.cells (MendArc.cells x78).toArray 144 (0, 0)) :: pt b73 (.cells #[.pointer (some ⟨b72, 0, none⟩)] 122 (0, 0)) :: pt b72 (.cells #[.slice a54 q52.length c55, .slice a_y0_1 y0.last.length c_y0_1, .slice a66 q64.length c67] 127 (0, 0)) :: vecC 97 1 a_v1 c_v1 y0.outs.length cs_v1 :: vecC 3 1 a_v0 c_v0 y0.times.length cs_v0 :: vecC 3 1 a54 c55 q52.length cs57 :: pt pb0 (.cells #[.slice a_v0 y0.times.length c_v0, .slice a_y0_1 y0.last.length c_y0_1, .slice a_v1 y0.outs.length c_v1] 127 (0, 0)) :: R)) (w := _) (x := true) (y := true) (fun _ => hS) (fun _ => (hS.dropAt 3))
   have hF := hS; replace hS := hS
   refine Rg.take (i := 6) true rfl hE rfl (by kernel_rfl) (runs_plain rfl) (Gives.loadB hE 1 rfl rfl rfl ty122) rfl hT ?_; clear hE a; intro a hE
   replace hS := hF; clear hF hT
   have hT := tw_sel (A := fun w => St w s84 (pt b97 (.cells (MendArc.cells x78).toArray 144 (0, 0)) :: pt b73 (.cells #[.pointer (some ⟨b72, 0, none⟩)] 122 (0, 0)) :: pt b72 (.cells #[.slice a54 q52.length c55, .slice a_y0_1 y0.last.length c_y0_1, .slice a66 q64.length c67] 127 (0, 0)) :: vecC 97 1 a66 c67 q64.length cs90 :: vecC 97 1 a_v1 c_v1 y0.outs.length cs_v1 :: vecC 3 1 a_v0 c_v0 y0.times.length cs_v0 :: vecC 3 1 a54 c55 q52.length cs57 :: pt pb0 (.cells #[.slice a_v0 y0.times.length c_v0, .slice a_y0_1 y0.last.length c_y0_1, .slice a_v1 y0.outs.length c_v1] 127 (0, 0)) :: R)) (B := fun w => St w s84 (pt b97 (.cells (MendArc.cells x78).toArray 144 (0, 0)) :: pt b73 (.cells #[.pointer (some ⟨b72, 0, none⟩)] 122 (0, 0)) :: pt b72 (.cells #[.slice a54 q52.length c55, .slice a_y0_1 y0.last.length c_y0_1, .slice a66 q64.length c67] 127 (0, 0)) :: vecC 97 1 a_v1 c_v1 y0.outs.length cs_v1 :: vecC 3 1 a_v0 c_v0 y0.times.length cs_v0 :: vecC 3 1 a54 c55 q52.length cs57 :: pt pb0 (.cells #[.slice a_v0 y0.times.length c_v0, .slice a_y0_1 y0.last.length c_y0_1, .slice a_v1 y0.outs.length c_v1] 127 (0, 0)) :: R)) (w := _) (x := true) (y := true) (fun _ => hS) (fun _ => (hS.dropAt 3))
   have hF := hS; replace hS := hS
   refine Rg.take (i := 7) true rfl hE rfl (by kernel_rfl) (runs_plain rfl) (Gives.nilOk hE rfl) rfl hT ?_; clear hE a; intro a hE
   replace hS := hF; clear hF hT
   refine Rg.takeP (i := 8) hE rfl (by kernel_rfl) (runs_plain rfl) (Gives.fld hE rfl fl127_2) rfl (tw_sel (fun _ => hS) (fun _ => (hS.dropAt 3))) ?_; clear hE a; intro a hE
   have hT := tw_sel (A := fun w => St w s84 (pt b97 (.cells (MendArc.cells x78).toArray 144 (0, 0)) :: pt b73 (.cells #[.pointer (some ⟨b72, 0, none⟩)] 122 (0, 0)) :: pt b72 (.cells #[.slice a54 q52.length c55, .slice a_y0_1 y0.last.length c_y0_1, .slice a66 q64.length c67] 127 (0, 0)) :: vecC 97 1 a66 c67 q64.length cs90 :: vecC 97 1 a_v1 c_v1 y0.outs.length cs_v1 :: vecC 3 1 a_v0 c_v0 y0.times.length cs_v0 :: vecC 3 1 a54 c55 q52.length cs57 :: pt pb0 (.cells #[.slice a_v0 y0.times.length c_v0, .slice a_y0_1 y0.last.length c_y0_1, .slice a_v1 y0.outs.length c_v1] 127 (0, 0)) :: R)) (B := fun w => St w s84 (pt b97 (.cells (MendArc.cells x78).toArray 144 (0, 0)) :: pt b73 (.cells #[.pointer (some ⟨b72, 0, none⟩)] 122 (0, 0)) :: pt b72 (.cells #[.slice a54 q52.length c55, .slice a_y0_1 y0.last.length c_y0_1, .slice a66 q64.length c67] 127 (0, 0)) :: vecC 97 1 a_v1 c_v1 y0.outs.length cs_v1 :: vecC 3 1 a_v0 c_v0 y0.times.length cs_v0 :: vecC 3 1 a54 c55 q52.length cs57 :: pt pb0 (.cells #[.slice a_v0 y0.times.length c_v0, .slice a_y0_1 y0.last.length c_y0_1, .slice a_v1 y0.outs.length c_v1] 127 (0, 0)) :: R)) (w := _) (x := true) (y := true) (fun _ => hS) (fun _ => (hS.dropAt 3))
   have hF := hS; replace hS := hS
   refine Rg.take (i := 9) true rfl hE rfl (by kernel_rfl) (runs_plain rfl) (Gives.loadB hE 2 rfl rfl rfl ty125) rfl hT ?_; clear hE a; intro a hE
   replace hS := hF; clear hF hT
   refine Rg.takeP (i := 10) hE rfl (by kernel_rfl) (runs_plain rfl) (Gives.fld hE rfl fl144_0) rfl (tw_sel (fun _ => hS) (fun _ => (hS.dropAt 3))) ?_; clear hE a; intro a hE
   have hT := tw_sel (A := fun w => St w s84 (pt b97 (.cells (MendArc.cells x78).toArray 144 (0, 0)) :: pt b73 (.cells #[.pointer (some ⟨b72, 0, none⟩)] 122 (0, 0)) :: pt b72 (.cells #[.slice a54 q52.length c55, .slice a_y0_1 y0.last.length c_y0_1, .slice a66 q64.length c67] 127 (0, 0)) :: vecC 97 1 a66 c67 q64.length cs90 :: vecC 97 1 a_v1 c_v1 y0.outs.length cs_v1 :: vecC 3 1 a_v0 c_v0 y0.times.length cs_v0 :: vecC 3 1 a54 c55 q52.length cs57 :: pt pb0 (.cells #[.slice a_v0 y0.times.length c_v0, .slice a_y0_1 y0.last.length c_y0_1, .slice a_v1 y0.outs.length c_v1] 127 (0, 0)) :: R)) (B := fun w => St w s84 (pt b97 (.cells (MendArc.cells x78).toArray 144 (0, 0)) :: pt b73 (.cells #[.pointer (some ⟨b72, 0, none⟩)] 122 (0, 0)) :: pt b72 (.cells #[.slice a54 q52.length c55, .slice a_y0_1 y0.last.length c_y0_1, .slice a66 q64.length c67] 127 (0, 0)) :: vecC 97 1 a_v1 c_v1 y0.outs.length cs_v1 :: vecC 3 1 a_v0 c_v0 y0.times.length cs_v0 :: vecC 3 1 a54 c55 q52.length cs57 :: pt pb0 (.cells #[.slice a_v0 y0.times.length c_v0, .slice a_y0_1 y0.last.length c_y0_1, .slice a_v1 y0.outs.length c_v1] 127 (0, 0)) :: R)) (w := _) (x := true) (y := true) (fun _ => hS) (fun _ => (hS.dropAt 3))
   have hF := hS; replace hS := hS
   refine Rg.take (i := 11) true rfl hE rfl (by kernel_rfl) (runs_plain rfl) (Gives.loadB hE 0 rfl rfl rfl ty3) rfl hT ?_; clear hE a; intro a hE
   replace hS := hF; clear hF hT
   obtain ⟨x99, hx100, hq75⟩ := bindS hq75
   obtain ⟨hi101, hlt102, hy103⟩ := gx_some hx100
   obtain ⟨vs104, hl105, hR106, hd107, hget108⟩ := h89.at hy103
   obtain ⟨a109, c110, rfl, h111⟩ := hR106
   refine Rg.takeP (i := 12) hE rfl (by kernel_rfl) (runs_plain rfl) (Gives.idx hE ((x78.From).toNat) rfl rfl sl125 hi101 (by have := hn91; omega) (hS.vecAok 3 rfl (by have := hn91; omega : (x78.From).toNat < q64.length))) rfl (tw_sel (fun _ => hS) (fun _ => (hS.dropAt 3))) ?_; clear hE a; intro a hE
   have hT := tw_sel (A := fun w => St w s84 (pt b97 (.cells (MendArc.cells x78).toArray 144 (0, 0)) :: pt b73 (.cells #[.pointer (some ⟨b72, 0, none⟩)] 122 (0, 0)) :: pt b72 (.cells #[.slice a54 q52.length c55, .slice a_y0_1 y0.last.length c_y0_1, .slice a66 q64.length c67] 127 (0, 0)) :: vecC 97 1 a66 c67 q64.length cs90 :: vecC 97 1 a_v1 c_v1 y0.outs.length cs_v1 :: vecC 3 1 a_v0 c_v0 y0.times.length cs_v0 :: vecC 3 1 a54 c55 q52.length cs57 :: pt pb0 (.cells #[.slice a_v0 y0.times.length c_v0, .slice a_y0_1 y0.last.length c_y0_1, .slice a_v1 y0.outs.length c_v1] 127 (0, 0)) :: R)) (B := fun w => St w s84 (pt b97 (.cells (MendArc.cells x78).toArray 144 (0, 0)) :: pt b73 (.cells #[.pointer (some ⟨b72, 0, none⟩)] 122 (0, 0)) :: pt b72 (.cells #[.slice a54 q52.length c55, .slice a_y0_1 y0.last.length c_y0_1, .slice a66 q64.length c67] 127 (0, 0)) :: vecC 97 1 a_v1 c_v1 y0.outs.length cs_v1 :: vecC 3 1 a_v0 c_v0 y0.times.length cs_v0 :: vecC 3 1 a54 c55 q52.length cs57 :: pt pb0 (.cells #[.slice a_v0 y0.times.length c_v0, .slice a_y0_1 y0.last.length c_y0_1, .slice a_v1 y0.outs.length c_v1] 127 (0, 0)) :: R)) (w := _) (x := true) (y := true) (fun _ => hS) (fun _ => (hS.dropAt 3))
   have hF := hS; replace hS := hS
   refine Rg.take (i := 13) true rfl hE rfl (by kernel_rfl) (runs_plain rfl) (Gives.load1 hE rfl (fun w h => St.vecSees h 3 rfl ((x78.From).toNat * 1) _ hget108) ty97) rfl hT ?_; clear hE a; intro a hE
   replace hS := hF; clear hF hT
   have hT := tw_sel (A := fun w => St w s84 (pt b97 (.cells (MendArc.cells x78).toArray 144 (0, 0)) :: pt b73 (.cells #[.pointer (some ⟨b72, 0, none⟩)] 122 (0, 0)) :: pt b72 (.cells #[.slice a54 q52.length c55, .slice a_y0_1 y0.last.length c_y0_1, .slice a66 q64.length c67] 127 (0, 0)) :: vecC 97 1 a66 c67 q64.length cs90 :: vecC 97 1 a_v1 c_v1 y0.outs.length cs_v1 :: vecC 3 1 a_v0 c_v0 y0.times.length cs_v0 :: vecC 3 1 a54 c55 q52.length cs57 :: pt pb0 (.cells #[.slice a_v0 y0.times.length c_v0, .slice a_y0_1 y0.last.length c_y0_1, .slice a_v1 y0.outs.length c_v1] 127 (0, 0)) :: R)) (B := fun w => St w s84 (pt b97 (.cells (MendArc.cells x78).toArray 144 (0, 0)) :: pt b73 (.cells #[.pointer (some ⟨b72, 0, none⟩)] 122 (0, 0)) :: pt b72 (.cells #[.slice a54 q52.length c55, .slice a_y0_1 y0.last.length c_y0_1, .slice a66 q64.length c67] 127 (0, 0)) :: vecC 97 1 a_v1 c_v1 y0.outs.length cs_v1 :: vecC 3 1 a_v0 c_v0 y0.times.length cs_v0 :: vecC 3 1 a54 c55 q52.length cs57 :: pt pb0 (.cells #[.slice a_v0 y0.times.length c_v0, .slice a_y0_1 y0.last.length c_y0_1, .slice a_v1 y0.outs.length c_v1] 127 (0, 0)) :: R)) (w := _) (x := true) (y := true) (fun _ => hS) (fun _ => (hS.dropAt 3))
   have hF := hS; replace hS := hS
   refine Rg.take (i := 15) true rfl hE rfl (by kernel_rfl) (runs_plain rfl) (Gives.loadBA hE 0 rfl rfl ty144) rfl hT ?_; clear hE a; intro a hE
   replace hS := hF; clear hF hT
   obtain ⟨q112, hq113, hq75⟩ := bindS hq75
   obtain ⟨x121, hx122, hq75⟩ := bindS hq75
   obtain ⟨_, hx128, hq75⟩ := bindS hq75
   obtain ⟨x135, hx136, hq75⟩ := bindS hq75
   suffices key : ∀ s132 cs137 (a : Act) (w : World), s84.Le s132 → Sl 3 RMendArc s132 a1 c1 x1 → Sl 1 (RI .i64) s132 a_y0_1 c_y0_1 y0.last → Ev 1 (RL 3 RMendArc) s132 cs137 x135 → (x135).length = q64.length → Ev 1 (RL 3 RMendArc) s132 cs_v1 y0.outs → Ev 1 (RI .i64) s132 cs_v0 y0.times → Ev 1 (RI .i64) s132 cs57 q52 → Rep a 128 [(1, .slice a1 x1.length c1), (6, .pointer (some ⟨b73, 0, none⟩)), (36, .slice a1 x1.length c1), (37, .int .i64 ((x1).length : Int)), (38, .int .i64 ((k77 : Nat) : Int))] → St w s132 (pt b97 (.cells (MendArc.cells x78).toArray 144 (0, 0)) :: pt b73 (.cells #[.pointer (some ⟨b72, 0, none⟩)] 122 (0, 0)) :: pt b72 (.cells #[.slice a54 q52.length c55, .slice a_y0_1 y0.last.length c_y0_1, .slice a66 q64.length c67] 127 (0, 0)) :: vecC 97 1 a66 c67 q64.length cs137 :: vecC 97 1 a_v1 c_v1 y0.outs.length cs_v1 :: vecC 3 1 a_v0 c_v0 y0.times.length cs_v0 :: vecC 3 1 a54 c55 q52.length cs57 :: pt pb0 (.cells #[.slice a_v0 y0.times.length c_v0, .slice a_y0_1 y0.last.length c_y0_1, .slice a_v1 y0.outs.length c_v1] 127 (0, 0)) :: R) → K98.nor a w by
    refine Rg.many 14 [16] (by kernel_rfl) ⟨?_, ?_, trivial⟩
    ·refine Br.mk (i := 14) true true rfl (by kernel_rfl) (by kernel_rfl) ?_
     have hc_ := SlicesCloneLmendArc_ok hS h111 hq113
     refine WL.fnq hE (hc_) (runs_plain rfl) bd97 rfl rfl rfl ?_
     clear hE hS hc_; rintro e w ⟨a114, c115, n116, cs117, rfl, h118, rfl, hS⟩; refine ⟨_, rfl, ?_⟩; clear a; intro a hE
     refine WL.nil ?_
     refine ⟨⟨fun _ => (hS.tail), fun _ => ((hS.tail).dropAt 3)⟩, ?_⟩
     refine Rg.one (i := 16) true true rfl (by kernel_rfl) (by kernel_rfl) (by kernel_rfl) ?_
     refine WL.lit hE hS (e := 144) (es := 3) (vs := [(0, .agg (MendArc.cells x78).toArray)]) (cs := [.int .i64 x78.From, .int .i64 x78.To, .int .i64 x78.Len]) (runs_plain rfl) rfl (by kernel_rfl) rfl ?_; clear hE hS a w; intro b120 a w hE hS
     refine WL.nil ?_
     refine ⟨⟨fun _ => ((hS.tail).tail), fun _ => (((hS.tail).tail).dropAt 3)⟩, ?_⟩
     refine Rg.one (i := 17) true true rfl (by kernel_rfl) (by kernel_rfl) (by kernel_rfl) ?_
     refine WL.appD hE hS 0 (m := 1) (runs_plain rfl) rfl rfl rfl ap97 rfl h118 rfl (xs := [x78]) (Ev.cons (c1 := [.int .i64 x78.From, .int .i64 x78.To, .int .i64 x78.Len]) rfl rfl (Ev.nil)) rfl rfl hx122 rfl ?_; clear hE hS a w; intro a123 c124 cs125 a w h126 hE hS
     refine WL.nil ?_
     refine ⟨⟨fun _ => (hS.tail), fun _ => ((hS.tail).dropAt 3)⟩, ?_⟩
     obtain ⟨h129, h130⟩ := ix_some hx128
     refine Rg.takeP (i := 18) hE rfl (by kernel_rfl) (runs_plain rfl) (Gives.idx hE ((x78.From).toNat) rfl rfl sl125 h129 (by have := hn91; omega) (hS.vecAok 4 rfl (by have := hn91; omega : (x78.From).toNat < q64.length))) rfl (tw_sel (fun _ => (hS.tail)) (fun _ => ((hS.tail).dropAt 3))) ?_; clear hE a; intro a hE
     refine Rg.one (i := 19) false true rfl (by kernel_rfl) (by kernel_rfl) (by kernel_rfl) ?_
     have hF := hS.fixD RMendArc.mono 0 rfl h126 (rfl); clear hS; obtain ⟨s132, hle133, hS, h134⟩ := hF
     replace h1 := Sl.mono RMendArc.mono hle133 h1
     replace h111 := Sl.mono RMendArc.mono hle133 h111
     replace h_y0_1 := Sl.mono RI.mono hle133 h_y0_1
     replace h89 := Ev.mono (RL.mono RMendArc.mono) hle133 h89
     replace h_v1 := Ev.mono (RL.mono RMendArc.mono) hle133 h_v1
     replace h_v0 := Ev.mono RI.mono hle133 h_v0
     replace h58 := Ev.mono RI.mono hle133 h58
     refine WL.setD hE hS 3 rfl (runs_plain rfl) rfl rfl (vs := [.slice a123 x121.length c124]) rfl ty97 rfl rfl rfl h89 hn91 (sx_some hx136).1 hx136 ⟨_, _, rfl, h134⟩ rfl ?_; clear hE hS a w; intro cs137 a w h138 hn139 hE hS
     refine WL.nil ?_
     refine ⟨⟨fun h => absurd h (by decide), fun _ => (St.down hle133 (hS.dropAt 3))⟩, ?_⟩
     refine Rg.done (by kernel_rfl) ?_
     exact key _ _ _ _ hle133 h1 h_y0_1 h138 hn139 h_v1 h_v0 h58 (hE.pick _ ⟨rfl, rfl, rfl, rfl, rfl, trivial⟩) hS
    ·refine Br.mk (i := 16) true true rfl (by kernel_rfl) (by kernel_rfl) ?_
     refine WL.lit hE hS (e := 144) (es := 3) (vs := [(0, .agg (MendArc.cells x78).toArray)]) (cs := [.int .i64 x78.From, .int .i64 x78.To, .int .i64 x78.Len]) (runs_plain rfl) rfl (by kernel_rfl) rfl ?_; clear hE hS a w; intro b120 a w hE hS
     refine WL.nil ?_
     refine ⟨⟨fun _ => (hS.tail), fun _ => ((hS.tail).dropAt 3)⟩, ?_⟩
     refine Rg.one (i := 14) true true rfl (by kernel_rfl) (by kernel_rfl) (by kernel_rfl) ?_
     have hc_ := SlicesCloneLmendArc_ok hS h111 hq113
     refine WL.fnq hE (hc_) (runs_plain rfl) bd97 rfl rfl rfl ?_
     clear hE hS hc_; rintro e w ⟨a114, c115, n116, cs117, rfl, h118, rfl, hS⟩; refine ⟨_, rfl, ?_⟩; clear a; intro a hE
     refine WL.nil ?_
     refine ⟨⟨fun _ => ((hS.tail).tail), fun _ => (((hS.tail).tail).dropAt 3)⟩, ?_⟩
     refine Rg.one (i := 17) true true rfl (by kernel_rfl) (by kernel_rfl) (by kernel_rfl) ?_
     replace hS := hS.front 1 rfl
     refine WL.appD hE hS 0 (m := 1) (runs_plain rfl) rfl rfl rfl ap97 rfl h118 rfl (xs := [x78]) (Ev.cons (c1 := [.int .i64 x78.From, .int .i64 x78.To, .int .i64 x78.Len]) rfl rfl (Ev.nil)) rfl rfl hx122 rfl ?_; clear hE hS a w; intro a123 c124 cs125 a w h126 hE hS
     refine WL.nil ?_
     refine ⟨⟨fun _ => (hS.tail), fun _ => ((hS.tail).dropAt 3)⟩, ?_⟩
     obtain ⟨h129, h130⟩ := ix_some hx128
     refine Rg.takeP (i := 18) hE rfl (by kernel_rfl) (runs_plain rfl) (Gives.idx hE ((x78.From).toNat) rfl rfl sl125 h129 (by have := hn91; omega) (hS.vecAok 4 rfl (by have := hn91; omega : (x78.From).toNat < q64.length))) rfl (tw_sel (fun _ => (hS.tail)) (fun _ => ((hS.tail).dropAt 3))) ?_; clear hE a; intro a hE
     refine Rg.one (i := 19) false true rfl (by kernel_rfl) (by kernel_rfl) (by kernel_rfl) ?_
     have hF := hS.fixD RMendArc.mono 0 rfl h126 (rfl); clear hS; obtain ⟨s132, hle133, hS, h134⟩ := hF
     replace h1 := Sl.mono RMendArc.mono hle133 h1
     replace h111 := Sl.mono RMendArc.mono hle133 h111
     replace h_y0_1 := Sl.mono RI.mono hle133 h_y0_1
     replace h89 := Ev.mono (RL.mono RMendArc.mono) hle133 h89
     replace h_v1 := Ev.mono (RL.mono RMendArc.mono) hle133 h_v1
     replace h_v0 := Ev.mono RI.mono hle133 h_v0
     replace h58 := Ev.mono RI.mono hle133 h58
     refine WL.setD hE hS 3 rfl (runs_plain rfl) rfl rfl (vs := [.slice a123 x121.length c124]) rfl ty97 rfl rfl rfl h89 hn91 (sx_some hx136).1 hx136 ⟨_, _, rfl, h134⟩ rfl ?_; clear hE hS a w; intro cs137 a w h138 hn139 hE hS
     refine WL.nil ?_
     refine ⟨⟨fun h => absurd h (by decide), fun _ => (St.down hle133 (hS.dropAt 3))⟩, ?_⟩
     refine Rg.done (by kernel_rfl) ?_
     exact key _ _ _ _ hle133 h1 h_y0_1 h138 hn139 h_v1 h_v0 h58 (hE.pick _ ⟨rfl, rfl, rfl, rfl, rfl, trivial⟩) hS
   clear hE hS a w; intro s132 cs137 a w hle140 h1 h_y0_1 h138 hn139 h_v1 h_v0 h58 hE hS
   subst hK98
   refine W.region ?_
   refine WL.vS hS hE (runs_plain rfl) (Gives.inc hE rfl (by have := h1.small; omega)) rfl ?_; clear hE a; intro a hE
   refine WL.vS hS hE (runs_plain rfl) (Gives.p hE rfl) rfl ?_; clear hE a; intro a hE
   refine WL.nil ?_
   replace hS := hS.tail
   subst hK92
   exact ⟨rest79.length, Nat.lt_succ_self _, rest79, k77 + 1, x135, cs137, s132, rfl, hd80, (Sg.Le.trans hle85 hle140), hq75, h138, hn139, hE.pick _ ⟨rfl, rfl, rfl, rfl, rfl, trivial⟩, hS⟩
 ·clear hE hS a w; rintro a w ⟨q86, cs90, s84, hle85, rfl, h89, hn91, hE, hS⟩
  replace h1 := Sl.mono RMendArc.mono hle85 h1
  replace h_y0_1 := Sl.mono RI.mono hle85 h_y0_1
  replace h70 := Ev.mono (RL.mono RMendArc.mono) hle85 h70
  replace h_v1 := Ev.mono (RL.mono RMendArc.mono) hle85 h_v1
  replace h_v0 := Ev.mono RI.mono hle85 h_v0
  replace h58 := Ev.mono RI.mono hle85 h58
  refine W.seq (W.region ?_)
  refine WL.vS hS hE (runs_plain rfl) (Gives.loadB hE 0 rfl rfl rfl ty122) rfl ?_; clear hE a; intro a hE
  refine WL.vS hS hE (runs_plain rfl) (Gives.nilOk hE rfl) rfl ?_; clear hE a; intro a hE
  refine WL.vS hS hE (runs_plain rfl) (Gives.fld hE rfl fl127_0) rfl ?_; clear hE a; intro a hE
  refine WL.vS hS hE (runs_plain rfl) (Gives.loadB hE 1 rfl rfl rfl ty29) rfl ?_; clear hE a; intro a hE
  refine WL.vS hS hE (runs_plain rfl) (Gives.len hE rfl sl29) rfl ?_; clear hE a; intro a hE
  obtain ⟨x141, hx142, hr⟩ := bindS hr
  refine WL.mkD (Rr := RB) hE hS (runs_plain rfl) rfl rfl ap71 zr4 rfl hx142 rfl ?_; clear hE hS a w; intro b143 cs144 a w h145 hE hS
  refine WL.alloc hE hS (runs_plain rfl) zr71 rfl ?_; clear hE hS a w; intro b147 a w hE hS
  refine WL.storeI hE hS 0 rfl [.slice (some ⟨b143, 0, none⟩) x141.length x141.length] (runs_plain rfl) rfl rfl rfl ty71 rfl rfl rfl rfl ?_; clear hE hS a w; intro a w hE hS
  refine WL.nil ?_
  refine W.seq (W.region ?_)
  refine WL.vS hS hE (runs_plain rfl) (Gives.loadB hE 2 rfl rfl rfl ty122) rfl ?_; clear hE a; intro a hE
  refine WL.vS hS hE (runs_plain rfl) (Gives.nilOk hE rfl) rfl ?_; clear hE a; intro a hE
  refine WL.vS hS hE (runs_plain rfl) (Gives.fld hE rfl fl127_0) rfl ?_; clear hE a; intro a hE
  refine WL.vS hS hE (runs_plain rfl) (Gives.loadB hE 3 rfl rfl rfl ty29) rfl ?_; clear hE a; intro a hE
  refine WL.vS hS hE (runs_plain rfl) (Gives.len hE rfl sl29) rfl ?_; clear hE a; intro a hE
  obtain ⟨x148, hx149, hr⟩ := bindS hr
  refine WL.mkD (Rr := RI .i64) hE hS (runs_plain rfl) rfl rfl ap29 zr3 rfl hx149 rfl ?_; clear hE hS a w; intro b150 cs151 a w h152 hE hS
  refine WL.alloc hE hS (runs_plain rfl) zr29 rfl ?_; clear hE hS a w; intro b154 a w hE hS
  refine WL.storeI hE hS 0 rfl [.slice (some ⟨b150, 0, none⟩) x148.length x148.length] (runs_plain rfl) rfl rfl rfl ty29 rfl rfl rfl rfl ?_; clear hE hS a w; intro a w hE hS
  refine WL.nil ?_
  refine W.seq (W.region ?_)
  refine WL.alloc hE hS (runs_plain rfl) zr29 rfl ?_; clear hE hS a w; intro b155 a w hE hS
  refine WL.nil ?_
  refine W.seq (W.region ?_)
  refine WL.alloc hE hS (runs_plain rfl) zr4 rfl ?_; clear hE hS a w; intro b156 a w hE hS
  refine WL.storeI hE hS 0 rfl [.bool true] (runs_plain rfl) rfl rfl rfl ty4 rfl rfl rfl rfl ?_; clear hE hS a w; intro a w hE hS
  refine WL.nil ?_
  refine W.seq (W.region ?_)
  replace hS := hS.vecNil 3 1
  refine WL.vS hS hE (runs_plain rfl) (Gives.mkfn hE (vs := [.pointer (some ⟨b73, 0, none⟩), .pointer (some ⟨b154, 0, none⟩), .pointer (some ⟨b156, 0, none⟩), .pointer (some ⟨b147, 0, none⟩), .pointer (some ⟨b155, 0, none⟩)]) rfl) rfl ?_; clear hE a; intro a hE
  refine WL.vS hS hE (runs_plain rfl) (Gives.p hE rfl) rfl ?_; clear hE a; intro a hE
  refine WL.nil ?_
  refine W.seq ?_
  refine W.seq (W.region ?_)
  refine WL.vS hS hE (runs_plain rfl) (Gives.p hE rfl) rfl ?_; clear hE a; intro a hE
  refine WL.vS hS hE (runs_plain rfl) (Gives.len hE rfl sl97) rfl ?_; clear hE a; intro a hE
  refine WL.vS hS hE (runs_plain rfl) (Gives.p hE rfl) rfl ?_; clear hE a; intro a hE
  refine WL.nil ?_
  obtain ⟨q159, hq158, hr⟩ := bindS hr
  refine W.cut (fun a w => ∃ (q169 : List Bool), ∃ (q175 : List Int), ∃ (q181 : List Int), ∃ (q187 : List Int), ∃ (q194 : Bool), ∃ (cs173 : List Value), ∃ (cs179 : List Value), ∃ (cs185 : List Value), ∃ (a188 : Option Addr), ∃ (c189 : Nat), ∃ (n191 : Nat), ∃ (cs192 : List Value), (q169, q175, q181, q187, q194) = q159 ∧ Ev 1 RB s84 cs173 q169 ∧ q169.length = x141.length ∧ Ev 1 (RI .i64) s84 cs179 q175 ∧ q175.length = x148.length ∧ Ev 1 (RI .i64) s84 cs185 q181 ∧ q181.length = q52.length ∧ Ev 1 (RI .i64) s84 cs192 q187 ∧ q187.length = n191 ∧ Rep a 128 [(6, .pointer (some ⟨b73, 0, none⟩)), (9, .pointer (some ⟨b147, 0, none⟩)), (11, .pointer (some ⟨b155, 0, none⟩)), (12, .pointer (some ⟨b156, 0, none⟩)), (13, .func (.func 98) #[] #[.pointer (some ⟨b73, 0, none⟩), .pointer (some ⟨b154, 0, none⟩), .pointer (some ⟨b156, 0, none⟩), .pointer (some ⟨b147, 0, none⟩), .pointer (some ⟨b155, 0, none⟩)])] ∧ St w s84 (vecC 3 1 a188 c189 n191 cs192 :: pt b156 (.cells #[.bool q194] 4 (0, 0)) :: pt b155 (.cells #[.slice a188 n191 c189] 29 (0, 0)) :: pt b154 (.cells #[.slice (some ⟨b150, 0, none⟩) x148.length x148.length] 29 (0, 0)) :: vecC 3 1 (some ⟨b150, 0, none⟩) x148.length x148.length cs179 :: pt b147 (.cells #[.slice (some ⟨b143, 0, none⟩) x141.length x141.length] 71 (0, 0)) :: vecC 4 1 (some ⟨b143, 0, none⟩) x141.length x141.length cs173 :: pt b73 (.cells #[.pointer (some ⟨b72, 0, none⟩)] 122 (0, 0)) :: pt b72 (.cells #[.slice a54 q52.length c55, .slice a_y0_1 y0.last.length c_y0_1, .slice a66 q64.length c67] 127 (0, 0)) :: vecC 97 1 a66 c67 q64.length cs90 :: vecC 97 1 a_v1 c_v1 y0.outs.length cs_v1 :: vecC 3 1 a_v0 c_v0 y0.times.length cs_v0 :: vecC 3 1 a54 c55 q52.length cs185 :: pt pb0 (.cells #[.slice a_v0 y0.times.length c_v0, .slice a_y0_1 y0.last.length c_y0_1, .slice a_v1 y0.outs.length c_v1] 127 (0, 0)) :: R)) ?_ ?_
  ·refine W.block ?_
   refine W.loop (fun m a w => ∃ (rest162 : List MendArc) (k160 : Nat), ∃ (q169 : List Bool), ∃ (q175 : List Int), ∃ (q181 : List Int), ∃ (q187 : List Int), ∃ (q194 : Bool), ∃ (cs173 : List Value), ∃ (cs179 : List Value), ∃ (cs185 : List Value), ∃ (a188 : Option Addr), ∃ (c189 : Nat), ∃ (n191 : Nat), ∃ (cs192 : List Value), rest162.length = m ∧ x1.drop k160 = rest162 ∧ MendSolverwith_v1.loop2 y0 q86 rest162 q169 q175 q181 q187 q194 = some q159 ∧ Ev 1 RB s84 cs173 q169 ∧ q169.length = x141.length ∧ Ev 1 (RI .i64) s84 cs179 q175 ∧ q175.length = x148.length ∧ Ev 1 (RI .i64) s84 cs185 q181 ∧ q181.length = q52.length ∧ Ev 1 (RI .i64) s84 cs192 q187 ∧ q187.length = n191 ∧ Rep a 128 [(6, .pointer (some ⟨b73, 0, none⟩)), (9, .pointer (some ⟨b147, 0, none⟩)), (11, .pointer (some ⟨b155, 0, none⟩)), (12, .pointer (some ⟨b156, 0, none⟩)), (13, .func (.func 98) #[] #[.pointer (some ⟨b73, 0, none⟩), .pointer (some ⟨b154, 0, none⟩), .pointer (some ⟨b156, 0, none⟩), .pointer (some ⟨b147, 0, none⟩), .pointer (some ⟨b155, 0, none⟩)]), (75, .slice a1 x1.length c1), (76, .int .i64 ((x1).length : Int)), (77, .int .i64 ((k160 : Nat) : Int))] ∧ St w s84 (vecC 3 1 a188 c189 n191 cs192 :: pt b156 (.cells #[.bool q194] 4 (0, 0)) :: pt b155 (.cells #[.slice a188 n191 c189] 29 (0, 0)) :: pt b154 (.cells #[.slice (some ⟨b150, 0, none⟩) x148.length x148.length] 29 (0, 0)) :: vecC 3 1 (some ⟨b150, 0, none⟩) x148.length x148.length cs179 :: pt b147 (.cells #[.slice (some ⟨b143, 0, none⟩) x141.length x141.length] 71 (0, 0)) :: vecC 4 1 (some ⟨b143, 0, none⟩) x141.length x141.length cs173 :: pt b73 (.cells #[.pointer (some ⟨b72, 0, none⟩)] 122 (0, 0)) :: pt b72 (.cells #[.slice a54 q52.length c55, .slice a_y0_1 y0.last.length c_y0_1, .slice a66 q64.length c67] 127 (0, 0)) :: vecC 97 1 a66 c67 q64.length cs90 :: vecC 97 1 a_v1 c_v1 y0.outs.length cs_v1 :: vecC 3 1 a_v0 c_v0 y0.times.length cs_v0 :: vecC 3 1 a54 c55 q52.length cs185 :: pt pb0 (.cells #[.slice a_v0 y0.times.length c_v0, .slice a_y0_1 y0.last.length c_y0_1, .slice a_v1 y0.outs.length c_v1] 127 (0, 0)) :: R)) (m := x1.length) ⟨x1, 0, x141, x148, q52, [], true, cs144, cs151, cs57, none, 0, 0, [], rfl, rfl, hq158, h145, (rfl), h152, (rfl), h58, rfl, (Ev.nil), (rfl), hE.pick _ ⟨rfl, rfl, rfl, rfl, rfl, rfl, rfl, rfl, trivial⟩, hS⟩ ?_
   clear hE hS a w hq158; rintro m166 a w ⟨rest162, k160, q169, q175, q181, q187, q194, cs173, cs179, cs185, a188, c189, n191, cs192, rfl, hd163, hq158, h172, hn174, h178, hn180, h184, hn186, h190, rfl, hE, hS⟩
   refine W.gen fun K195 hK195 => ?_
   rcases rest162 with _ | ⟨x161, rest162⟩
   ·have hlt164 := drop_nil hd163
    refine W.seq (W.region ?_)
    refine WL.vS hS hE (runs_plain rfl) (Gives.p hE rfl) rfl ?_; clear hE a; intro a hE
    refine WL.nil ?_
    refine W.seq ?_
    refine W.condF hE rfl (decide_eq_false (by omega)) ?_
    subst hK195
    refine W.exit rfl ?_
    exact ⟨q169, q175, q181, q187, q194, cs173, cs179, cs185, a188, c189, q187.length, cs192, Option.some.inj hq158, h172, hn174, h178, hn180, h184, hn186, h190, rfl, hE.pick _ ⟨rfl, rfl, rfl, rfl, rfl, trivial⟩, hS⟩
   ·obtain ⟨hlt164, hx165, hd163⟩ := drop_cons hd163
    rw [MendSolverwith_v1.loop2] at hq158
    refine W.seq (W.region ?_)
    refine WL.vS hS hE (runs_plain rfl) (Gives.p hE rfl) rfl ?_; clear hE a; intro a hE
    refine WL.nil ?_
    refine W.seq ?_
    refine W.condT hE rfl (decide_eq_true (by omega)) ?_
    refine W.skip ?_
    refine W.seq ?_
    refine W.block ?_
    refine W.seq (W.region ?_)
    obtain ⟨cs196, hl197, hR198, hat199⟩ := h1.at hx165
    subst hR198
    refine WL.vS hS hE (runs_plain rfl) (Gives.idx hE k160 rfl rfl sl97 rfl hlt164 (h1.aok hlt164)) rfl ?_; clear hE a; intro a hE
    refine WL.vS hS hE (runs_plain rfl) (Gives.loadA hE rfl (fun w h => hat199 w _ h) ty144) rfl ?_; clear hE a; intro a hE
    refine WL.alloc hE hS (runs_plain rfl) zr144 rfl ?_; clear hE hS a w; intro b200 a w hE hS
    refine WL.storeI hE hS 0 rfl (MendArc.cells x161) (runs_plain rfl) rfl rfl rfl ty144 rfl rfl rfl rfl ?_; clear hE hS a w; intro a w hE hS
    refine WL.nil ?_
    refine W.region ?_
    refine WL.vS hS hE (runs_plain rfl) (Gives.p hE rfl) rfl ?_; clear hE a; intro a hE
    refine WL.vS hS hE (runs_plain rfl) (Gives.loadBA hE 0 rfl rfl ty144) rfl ?_; clear hE a; intro a hE
    obtain ⟨q201, hq202, hq158⟩ := bindS hq158
    replace hS := hS.front 10 rfl
    replace hS := hS.front 13 rfl
    replace hS := hS.front 3 rfl
    replace hS := hS.front 9 rfl
    replace hS := hS.front 8 rfl
    replace hS := hS.front 11 rfl
    replace hS := hS.front 8 rfl
    replace hS := hS.front 10 rfl
    replace hS := hS.front 9 rfl
    replace hS := hS.front 10 rfl
    replace hS := hS.front 11 rfl
    have hc_ := MendSolverwith_1_v1_ok (y5 := (MendSolver.mk q181 y0.last q86)) hS h178 hn180 h172 hn174 h190 rfl h184 hn186 h_y0_1 h89 hn91 hq202
    refine WL.fnw hE (hc_) rfl (runs_plain rfl) bd98 rfl rfl rfl ?_
    clear hE hS hc_; rintro e w ⟨cs203, cs206, cs209, a212, c213, n214, cs215, rfl, h204, hn205, h207, hn208, h210, hn211, h216, rfl, hS⟩; refine ⟨_, rfl, ?_⟩; clear a; intro a hE
    refine WL.nil ?_
    refine W.region ?_
    refine WL.vS hS hE (runs_plain rfl) (Gives.inc hE rfl (by have := h1.small; omega)) rfl ?_; clear hE a; intro a hE
    refine WL.vS hS hE (runs_plain rfl) (Gives.p hE rfl) rfl ?_; clear hE a; intro a hE
    refine WL.nil ?_
    replace hS := hS.dropAt 11
    replace hS := hS.front 13 rfl
    replace hS := hS.front 10 rfl
    replace hS := hS.front 13 rfl
    replace hS := hS.front 13 rfl
    replace hS := hS.front 13 rfl
    replace hS := hS.front 10 rfl
    replace hS := hS.front 6 rfl
    replace hS := hS.front 12 rfl
    replace hS := hS.front 10 rfl
    replace hS := hS.front 12 rfl
    replace hS := hS.front 10 rfl
    replace hS := hS.front 12 rfl
    replace hS := hS.front 12 rfl
    replace hS := hS.front 13 rfl
    subst hK195
    exact ⟨rest162.length, Nat.lt_succ_self _, rest162, k160 + 1, q201.2.1, q201.1, q201.2.2.1, q201.2.2.2.2, q201.2.2.2.1, cs206, cs203, cs209, a212, c213, q201.2.2.2.2.length, cs215, rfl, hd163, hq158, h207, hn208, h204, hn205, h210, hn211, h216, rfl, hE.pick _ ⟨rfl, rfl, rfl, rfl, rfl, rfl, rfl, rfl, trivial⟩, hS⟩
  ·clear hE hS a w; rintro a w ⟨q169, q175, q181, q187, q194, cs173, cs179, cs185, a188, c189, n191, cs192, rfl, h172, hn174, h178, hn180, h184, hn186, h190, rfl, hE, hS⟩
   dsimp only at hr
   refine W.seq (W.region ?_)
   refine WL.vS hS hE (runs_plain rfl) (Gives.loadB hE 7 rfl rfl rfl ty122) rfl ?_; clear hE a; intro a hE
   obtain ⟨q217, hq218, hr⟩ := bindS hr
   replace hS := hS.front 9 rfl
   replace hS := hS.front 12 rfl
   replace hS := hS.front 10 rfl
   have hc_ := MendSolverbound_v1_ok (y0 := (MendSolver.mk q181 y0.last q86)) hS h184 hn186 h_y0_1 h89 hn91 hq218
   refine WL.fnq hE (hc_) (runs_plain rfl) bd99 rfl rfl rfl ?_
   clear hE hS hc_; rintro e w ⟨rfl, hS⟩; refine ⟨_, rfl, ?_⟩; clear a; intro a hE
   refine WL.vS hS hE (runs_plain rfl) (Gives.p hE rfl) rfl ?_; clear hE a; intro a hE
   refine WL.nil ?_
   refine W.seq ?_
   obtain ⟨q220, hq219, hr⟩ := bindS hr
   refine W.cut (fun a w => ∃ (q225 : List Bool), ∃ (q231 : List Int), ∃ (q237 : List Int), ∃ (q243 : List Int), ∃ (q250 : Bool), ∃ (cs229 : List Value), ∃ (cs235 : List Value), ∃ (cs241 : List Value), ∃ (a244 : Option Addr), ∃ (c245 : Nat), ∃ (n247 : Nat), ∃ (cs248 : List Value), (.next (q225, q231, q237, q243, q250)) = q220 ∧ Ev 1 RB s84 cs229 q225 ∧ q225.length = x141.length ∧ Ev 1 (RI .i64) s84 cs235 q231 ∧ q231.length = x148.length ∧ Ev 1 (RI .i64) s84 cs241 q237 ∧ q237.length = q52.length ∧ Ev 1 (RI .i64) s84 cs248 q243 ∧ q243.length = n247 ∧ Rep a 128 [(6, .pointer (some ⟨b73, 0, none⟩)), (12, .pointer (some ⟨b156, 0, none⟩))] ∧ St w s84 (pt b72 (.cells #[.slice a54 q52.length c55, .slice a_y0_1 y0.last.length c_y0_1, .slice a66 q64.length c67] 127 (0, 0)) :: vecC 3 1 a54 c55 q52.length cs241 :: vecC 97 1 a66 c67 q64.length cs90 :: vecC 3 1 a244 c245 n247 cs248 :: pt b156 (.cells #[.bool q250] 4 (0, 0)) :: pt b155 (.cells #[.slice a244 n247 c245] 29 (0, 0)) :: pt b154 (.cells #[.slice (some ⟨b150, 0, none⟩) x148.length x148.length] 29 (0, 0)) :: vecC 3 1 (some ⟨b150, 0, none⟩) x148.length x148.length cs235 :: pt b147 (.cells #[.slice (some ⟨b143, 0, none⟩) x141.length x141.length] 71 (0, 0)) :: vecC 4 1 (some ⟨b143, 0, none⟩) x141.length x141.length cs229 :: pt b73 (.cells #[.pointer (some ⟨b72, 0, none⟩)] 122 (0, 0)) :: vecC 97 1 a_v1 c_v1 y0.outs.length cs_v1 :: vecC 3 1 a_v0 c_v0 y0.times.length cs_v0 :: pt pb0 (.cells #[.slice a_v0 y0.times.length c_v0, .slice a_y0_1 y0.last.length c_y0_1, .slice a_v1 y0.outs.length c_v1] 127 (0, 0)) :: R)) ?_ ?_
   ·refine W.block ?_
    refine W.loop (fun m a w => ∃ (n221 : Nat), ∃ (q225 : List Bool), ∃ (q231 : List Int), ∃ (q237 : List Int), ∃ (q243 : List Int), ∃ (q250 : Bool), ∃ (cs229 : List Value), ∃ (cs235 : List Value), ∃ (cs241 : List Value), ∃ (a244 : Option Addr), ∃ (c245 : Nat), ∃ (n247 : Nat), ∃ (cs248 : List Value), n221 = m ∧ MendSolverwith_v1.loop3 y0 q86 q217 n221 q225 q231 q237 q243 q250 = some q220 ∧ Ev 1 RB s84 cs229 q225 ∧ q225.length = x141.length ∧ Ev 1 (RI .i64) s84 cs235 q231 ∧ q231.length = x148.length ∧ Ev 1 (RI .i64) s84 cs241 q237 ∧ q237.length = q52.length ∧ Ev 1 (RI .i64) s84 cs248 q243 ∧ q243.length = n247 ∧ Rep a 128 [(6, .pointer (some ⟨b73, 0, none⟩)), (9, .pointer (some ⟨b147, 0, none⟩)), (11, .pointer (some ⟨b155, 0, none⟩)), (12, .pointer (some ⟨b156, 0, none⟩)), (13, .func (.func 98) #[] #[.pointer (some ⟨b73, 0, none⟩), .pointer (some ⟨b154, 0, none⟩), .pointer (some ⟨b156, 0, none⟩), .pointer (some ⟨b147, 0, none⟩), .pointer (some ⟨b155, 0, none⟩)]), (16, .int .i64 q217)] ∧ St w s84 (pt b72 (.cells #[.slice a54 q52.length c55, .slice a_y0_1 y0.last.length c_y0_1, .slice a66 q64.length c67] 127 (0, 0)) :: vecC 3 1 a54 c55 q52.length cs241 :: vecC 97 1 a66 c67 q64.length cs90 :: vecC 3 1 a244 c245 n247 cs248 :: pt b156 (.cells #[.bool q250] 4 (0, 0)) :: pt b155 (.cells #[.slice a244 n247 c245] 29 (0, 0)) :: pt b154 (.cells #[.slice (some ⟨b150, 0, none⟩) x148.length x148.length] 29 (0, 0)) :: vecC 3 1 (some ⟨b150, 0, none⟩) x148.length x148.length cs235 :: pt b147 (.cells #[.slice (some ⟨b143, 0, none⟩) x141.length x141.length] 71 (0, 0)) :: vecC 4 1 (some ⟨b143, 0, none⟩) x141.length x141.length cs229 :: pt b73 (.cells #[.pointer (some ⟨b72, 0, none⟩)] 122 (0, 0)) :: vecC 97 1 a_v1 c_v1 y0.outs.length cs_v1 :: vecC 3 1 a_v0 c_v0 y0.times.length cs_v0 :: pt pb0 (.cells #[.slice a_v0 y0.times.length c_v0, .slice a_y0_1 y0.last.length c_y0_1, .slice a_v1 y0.outs.length c_v1] 127 (0, 0)) :: R)) (m := fu) ⟨fu, q169, q175, q181, q187, q194, cs173, cs179, cs185, a188, c189, q187.length, cs192, rfl, hq219, h172, hn174, h178, hn180, h184, hn186, h190, rfl, hE.pick _ ⟨rfl, rfl, rfl, rfl, rfl, rfl, trivial⟩, hS⟩ ?_
    clear hE hS a w hq219; rintro m222 a w ⟨n221, q225, q231, q237, q243, q250, cs229, cs235, cs241, a244, c245, n247, cs248, rfl, hq219, h228, hn230, h234, hn236, h240, hn242, h246, rfl, hE, hS⟩
    refine W.gen fun K251 hK251 => ?_
    rcases n221 with _ | n221
    ·rw [MendSolverwith_v1.loop3] at hq219; exact absurd hq219 (by simp)
    rw [MendSolverwith_v1.loop3] at hq219
    refine W.seq ?_
    refine W.seq ?_
    obtain ⟨q253, hq252, hq219⟩ := bndS hq219
    refine W.cut (fun a w => ∃ (q256 : Bool), q256 = q253 ∧ Rep a 128 [(6, .pointer (some ⟨b73, 0, none⟩)), (9, .pointer (some ⟨b147, 0, none⟩)), (11, .pointer (some ⟨b155, 0, none⟩)), (12, .pointer (some ⟨b156, 0, none⟩)), (13, .func (.func 98) #[] #[.pointer (some ⟨b73, 0, none⟩), .pointer (some ⟨b154, 0, none⟩), .pointer (some ⟨b156, 0, none⟩), .pointer (some ⟨b147, 0, none⟩), .pointer (some ⟨b155, 0, none⟩)]), (16, .int .i64 q217), (92, .bool q256)] ∧ St w s84 (pt b72 (.cells #[.slice a54 q52.length c55, .slice a_y0_1 y0.last.length c_y0_1, .slice a66 q64.length c67] 127 (0, 0)) :: vecC 3 1 a54 c55 q52.length cs241 :: vecC 97 1 a66 c67 q64.length cs90 :: vecC 3 1 a244 c245 q243.length cs248 :: pt b156 (.cells #[.bool q250] 4 (0, 0)) :: pt b155 (.cells #[.slice a244 q243.length c245] 29 (0, 0)) :: pt b154 (.cells #[.slice (some ⟨b150, 0, none⟩) x148.length x148.length] 29 (0, 0)) :: vecC 3 1 (some ⟨b150, 0, none⟩) x148.length x148.length cs235 :: pt b147 (.cells #[.slice (some ⟨b143, 0, none⟩) x141.length x141.length] 71 (0, 0)) :: vecC 4 1 (some ⟨b143, 0, none⟩) x141.length x141.length cs229 :: pt b73 (.cells #[.pointer (some ⟨b72, 0, none⟩)] 122 (0, 0)) :: vecC 97 1 a_v1 c_v1 y0.outs.length cs_v1 :: vecC 3 1 a_v0 c_v0 y0.times.length cs_v0 :: pt pb0 (.cells #[.slice a_v0 y0.times.length c_v0, .slice a_y0_1 y0.last.length c_y0_1, .slice a_v1 y0.outs.length c_v1] 127 (0, 0)) :: R)) ?_ ?_
    ·refine W.gen fun K257 hK257 => ?_
     refine W.region ?_
     refine WL.vS hS hE (runs_plain rfl) (Gives.loadB hE 5 rfl rfl rfl ty29) rfl ?_; clear hE a; intro a hE
     refine WL.vS hS hE (runs_plain rfl) (Gives.len hE rfl sl29) rfl ?_; clear hE a; intro a hE
     refine WL.vS hS hE (runs_plain rfl) (Gives.p hE rfl) rfl ?_; clear hE a; intro a hE
     refine WL.vS hS hE (runs_plain rfl) (Gives.p hE rfl) rfl ?_; clear hE a; intro a hE
     rcases Bool.eq_false_or_eq_true (decide (((q243.length : Nat) : Int) > 0)) with hg258 | hg258
     ·replace hq252 := iteT hg258 hq252
      refine WL.vS hS hE (runs_if hE rfl rfl rfl hg258) (Gives.loadB hE 4 rfl rfl rfl ty4) rfl ?_; clear hE a; intro a hE
      refine WL.vS hS hE (runs_plain rfl) (Gives.pickT hE rfl hg258 rfl) rfl ?_; clear hE a; intro a hE
      refine WL.nil ?_
      subst hK257
      exact ⟨q250, hq252, hE.pick _ ⟨rfl, rfl, rfl, rfl, rfl, rfl, rfl, trivial⟩, hS⟩
     ·replace hq252 := iteF hg258 hq252
      refine WL.no hE (runs_not hE rfl rfl rfl (by rw [hg258]; decide)) rfl ?_; clear hE a; intro a hE
      refine WL.vS hS hE (runs_plain rfl) (Gives.pickF hE rfl hg258 rfl) rfl ?_; clear hE a; intro a hE
      refine WL.nil ?_
      subst hK257
      exact ⟨false, hq252, hE.pick _ ⟨rfl, rfl, rfl, rfl, rfl, rfl, rfl, trivial⟩, hS⟩
    ·clear hE hS a w; rintro a w ⟨q256, rfl, hE, hS⟩
     refine W.cond hE rfl (fun hc259 => ?_) (fun hc259 => ?_)
     ·replace hq219 := iteT hc259 hq219
      refine W.skip ?_
      refine W.block ?_
      refine W.seq (W.region ?_)
      refine WL.vS hS hE (runs_plain rfl) (Gives.loadB hE 5 rfl rfl rfl ty29) rfl ?_; clear hE a; intro a hE
      obtain ⟨x260, hx261, hq219⟩ := bindS hq219
      obtain ⟨hi262, hlt263, hy264⟩ := gx_some hx261
      obtain ⟨vs265, hl266, hR267, hd268, hget269⟩ := h246.at hy264
      subst hR267
      refine WL.vS hS hE (runs_plain rfl) (Gives.idx hE (((0 : Int)).toNat) rfl rfl sl29 hi262 (by omega) (hS.vecAok 3 rfl (by omega : ((0 : Int)).toNat < q243.length))) rfl ?_; clear hE a; intro a hE
      refine WL.vS hS hE (runs_plain rfl) (Gives.load1 hE rfl (fun w h => St.vecSees h 3 rfl (((0 : Int)).toNat * 1) _ hget269) ty3) rfl ?_; clear hE a; intro a hE
      refine WL.vS hS hE (runs_plain rfl) (Gives.p hE rfl) rfl ?_; clear hE a; intro a hE
      refine WL.nil ?_
      refine W.seq (W.region ?_)
      refine WL.vS hS hE (runs_plain rfl) (Gives.loadB hE 5 rfl rfl rfl ty29) rfl ?_; clear hE a; intro a hE
      obtain ⟨x270, hx271, hq219⟩ := bindS hq219
      obtain ⟨h272, h273, _, h274, _, _⟩ := cutl_some hx271
      have h276 := (hS.vecCap 3 rfl).1
      have h275 : x270 = q243.drop ((1 : Int)).toNat := by rw [h274]; simp
      have h277 : Ev 1 (RI .i64) s84 (cs248.drop (((1 : Int)).toNat * 1)) x270 := by rw [h275]; exact h246.drop _
      have hn278 : x270.length = (q243.length - ((1 : Int)).toNat) := by rw [h275, List.length_drop]
      replace hS := hS.vecDrop 3 rfl (k := ((1 : Int)).toNat) (by omega)
      refine WL.vS hS hE (runs_plain rfl) (Gives.slL hE sl29 rfl rfl h272 (by omega) (cutA_sliced _ _ _ _ _)) rfl ?_; clear hE a; intro a hE
      refine WL.storeI hE hS 5 rfl [.slice (cutA a244 c245 ((1 : Int)).toNat 1) (q243.length - ((1 : Int)).toNat) (c245 - ((1 : Int)).toNat)] (runs_plain rfl) rfl rfl rfl ty29 rfl rfl rfl rfl ?_; clear hE hS a w; intro a w hE hS
      refine WL.nil ?_
      refine W.seq (W.region ?_)
      refine WL.vS hS hE (runs_plain rfl) (Gives.loadB hE 8 rfl rfl rfl ty71) rfl ?_; clear hE a; intro a hE
      refine WL.vS hS hE (runs_plain rfl) (Gives.p hE rfl) rfl ?_; clear hE a; intro a hE
      obtain ⟨_, hx280, hq219⟩ := bindS hq219
      obtain ⟨h281, h282⟩ := ix_some hx280
      refine WL.vS hS hE (runs_plain rfl) (Gives.idx hE ((x260).toNat) rfl rfl sl71 h281 (by have := hn230; omega) (hS.vecAok 9 rfl (by have := hn230; omega : (x260).toNat < x141.length))) rfl ?_; clear hE a; intro a hE
      obtain ⟨x284, hx285, hq219⟩ := bindS hq219
      refine WL.setD hE hS 9 rfl (runs_plain rfl) rfl rfl (vs := [.bool false]) rfl ty4 rfl rfl rfl h228 hn230 (sx_some hx285).1 hx285 rfl rfl ?_; clear hE hS a w; intro cs286 a w h287 hn288 hE hS
      refine WL.nil ?_
      refine W.seq ?_
      refine W.seq (W.region ?_)
      refine WL.vS hS hE (runs_plain rfl) (Gives.loadB hE 10 rfl rfl rfl ty122) rfl ?_; clear hE a; intro a hE
      refine WL.vS hS hE (runs_plain rfl) (Gives.nilOk hE rfl) rfl ?_; clear hE a; intro a hE
      refine WL.vS hS hE (runs_plain rfl) (Gives.fld hE rfl fl127_0) rfl ?_; clear hE a; intro a hE
      refine WL.vS hS hE (runs_plain rfl) (Gives.loadB hE 0 rfl rfl rfl ty29) rfl ?_; clear hE a; intro a hE
      refine WL.vS hS hE (runs_plain rfl) (Gives.p hE rfl) rfl ?_; clear hE a; intro a hE
      obtain ⟨x289, hx290, hq219⟩ := bindS hq219
      obtain ⟨hi291, hlt292, hy293⟩ := gx_some hx290
      obtain ⟨vs294, hl295, hR296, hd297, hget298⟩ := h240.at hy293
      subst hR296
      refine WL.vS hS hE (runs_plain rfl) (Gives.idx hE ((x260).toNat) rfl rfl sl29 hi291 (by have := hn242; omega) (hS.vecAok 1 rfl (by have := hn242; omega : (x260).toNat < q52.length))) rfl ?_; clear hE a; intro a hE
      refine WL.vS hS hE (runs_plain rfl) (Gives.load1 hE rfl (fun w h => St.vecSees h 1 rfl ((x260).toNat * 1) _ hget298) ty3) rfl ?_; clear hE a; intro a hE
      refine WL.vS hS hE (runs_plain rfl) (Gives.p hE rfl) rfl ?_; clear hE a; intro a hE
      refine WL.vS hS hE (runs_plain rfl) (Gives.p hE rfl) rfl ?_; clear hE a; intro a hE
      refine WL.nil ?_
      refine W.cond hE rfl (fun hc299 => ?_) (fun hc299 => ?_)
      ·replace hq219 := iteT hc299 hq219
       refine W.seq (W.region ?_)
       refine WL.vS hS hE (runs_plain rfl) (Gives.p hE rfl) rfl ?_; clear hE a; intro a hE
       refine WL.vS hS hE (runs_plain rfl) (Gives.p hE rfl) rfl ?_; clear hE a; intro a hE
       refine WL.nil ?_
       refine W.ret ?_
       subst hK251
       rw [← Option.some.inj hq219] at hr
       dsimp only at hr
       refine finG (fn := Try.f94) (rs := [.tmp 4, .tmp 5]) (vs := [_, _]) hE rfl ⟨rfl, rfl, trivial⟩ ?_
       obtain rfl := Option.some.inj hr
       replace hS := hS.front 11 rfl
       replace hS := hS.front 12 rfl
       replace hS := hS.front 13 rfl
       replace hS := hS.dropAt 3
       replace hS := hS.dropAt 3
       replace hS := hS.dropAt 3
       replace hS := hS.dropAt 3
       replace hS := hS.dropAt 3
       replace hS := hS.dropAt 3
       replace hS := hS.dropAt 3
       replace hS := hS.dropAt 3
       replace hS := hS.dropAt 3
       replace hS := hS.dropAt 3
       replace hS := hS.dropAt 3
       exact ⟨none, s84, rfl, hle85, Pt.nil, hS⟩
      ·replace hq219 := iteF hc299 hq219
       refine W.skip ?_
       refine W.seq (W.region ?_)
       refine WL.vS hS hE (runs_plain rfl) (Gives.loadB hE 10 rfl rfl rfl ty122) rfl ?_; clear hE a; intro a hE
       refine WL.vS hS hE (runs_plain rfl) (Gives.nilOk hE rfl) rfl ?_; clear hE a; intro a hE
       refine WL.vS hS hE (runs_plain rfl) (Gives.fld hE rfl fl127_2) rfl ?_; clear hE a; intro a hE
       refine WL.vS hS hE (runs_plain rfl) (Gives.loadB hE 0 rfl rfl rfl ty125) rfl ?_; clear hE a; intro a hE
       refine WL.vS hS hE (runs_plain rfl) (Gives.p hE rfl) rfl ?_; clear hE a; intro a hE
       obtain ⟨x300, hx301, hq219⟩ := bindS hq219
       obtain ⟨hi302, hlt303, hy304⟩ := gx_some hx301
       obtain ⟨vs305, hl306, hR307, hd308, hget309⟩ := h89.at hy304
       obtain ⟨a310, c311, rfl, h312⟩ := hR307
       refine WL.vS hS hE (runs_plain rfl) (Gives.idx hE ((x260).toNat) rfl rfl sl125 hi302 (by have := hn91; omega) (hS.vecAok 2 rfl (by have := hn91; omega : (x260).toNat < q64.length))) rfl ?_; clear hE a; intro a hE
       refine WL.vS hS hE (runs_plain rfl) (Gives.load1 hE rfl (fun w h => St.vecSees h 2 rfl ((x260).toNat * 1) _ hget309) ty97) rfl ?_; clear hE a; intro a hE
       refine WL.vS hS hE (runs_plain rfl) (Gives.len hE rfl sl97) rfl ?_; clear hE a; intro a hE
       refine WL.vS hS hE (runs_plain rfl) (Gives.p hE rfl) rfl ?_; clear hE a; intro a hE
       refine WL.nil ?_
       obtain ⟨q314, hq313, hq219⟩ := bindS hq219
       refine W.cut (fun a w => ∃ (q324 : List Bool), ∃ (q330 : List Int), ∃ (q336 : List Int), ∃ (q342 : List Int), ∃ (q349 : Bool), ∃ (cs328 : List Value), ∃ (cs334 : List Value), ∃ (cs340 : List Value), ∃ (a343 : Option Addr), ∃ (c344 : Nat), ∃ (n346 : Nat), ∃ (cs347 : List Value), (q324, q330, q336, q342, q349) = q314 ∧ Ev 1 RB s84 cs328 q324 ∧ q324.length = x141.length ∧ Ev 1 (RI .i64) s84 cs334 q330 ∧ q330.length = x148.length ∧ Ev 1 (RI .i64) s84 cs340 q336 ∧ q336.length = q52.length ∧ Ev 1 (RI .i64) s84 cs347 q342 ∧ q342.length = n346 ∧ Rep a 128 [(6, .pointer (some ⟨b73, 0, none⟩)), (9, .pointer (some ⟨b147, 0, none⟩)), (11, .pointer (some ⟨b155, 0, none⟩)), (12, .pointer (some ⟨b156, 0, none⟩)), (13, .func (.func 98) #[] #[.pointer (some ⟨b73, 0, none⟩), .pointer (some ⟨b154, 0, none⟩), .pointer (some ⟨b156, 0, none⟩), .pointer (some ⟨b147, 0, none⟩), .pointer (some ⟨b155, 0, none⟩)]), (16, .int .i64 q217)] ∧ St w s84 (pt b72 (.cells #[.slice a54 q52.length c55, .slice a_y0_1 y0.last.length c_y0_1, .slice a66 q64.length c67] 127 (0, 0)) :: vecC 3 1 a54 c55 q52.length cs340 :: vecC 97 1 a66 c67 q64.length cs90 :: vecC 3 1 a343 c344 n346 cs347 :: pt b156 (.cells #[.bool q349] 4 (0, 0)) :: pt b155 (.cells #[.slice a343 n346 c344] 29 (0, 0)) :: pt b154 (.cells #[.slice (some ⟨b150, 0, none⟩) x148.length x148.length] 29 (0, 0)) :: vecC 3 1 (some ⟨b150, 0, none⟩) x148.length x148.length cs334 :: pt b147 (.cells #[.slice (some ⟨b143, 0, none⟩) x141.length x141.length] 71 (0, 0)) :: vecC 4 1 (some ⟨b143, 0, none⟩) x141.length x141.length cs328 :: pt b73 (.cells #[.pointer (some ⟨b72, 0, none⟩)] 122 (0, 0)) :: vecC 97 1 a_v1 c_v1 y0.outs.length cs_v1 :: vecC 3 1 a_v0 c_v0 y0.times.length cs_v0 :: pt pb0 (.cells #[.slice a_v0 y0.times.length c_v0, .slice a_y0_1 y0.last.length c_y0_1, .slice a_v1 y0.outs.length c_v1] 127 (0, 0)) :: R)) ?_ ?_
       ·refine W.block ?_
        refine W.loop (fun m a w => ∃ (rest317 : List MendArc) (k315 : Nat), ∃ (q324 : List Bool), ∃ (q330 : List Int), ∃ (q336 : List Int), ∃ (q342 : List Int), ∃ (q349 : Bool), ∃ (cs328 : List Value), ∃ (cs334 : List Value), ∃ (cs340 : List Value), ∃ (a343 : Option Addr), ∃ (c344 : Nat), ∃ (n346 : Nat), ∃ (cs347 : List Value), rest317.length = m ∧ x300.drop k315 = rest317 ∧ MendSolverwith_v1.loop4 y0 q86 rest317 q324 q330 q336 q342 q349 = some q314 ∧ Ev 1 RB s84 cs328 q324 ∧ q324.length = x141.length ∧ Ev 1 (RI .i64) s84 cs334 q330 ∧ q330.length = x148.length ∧ Ev 1 (RI .i64) s84 cs340 q336 ∧ q336.length = q52.length ∧ Ev 1 (RI .i64) s84 cs347 q342 ∧ q342.length = n346 ∧ Rep a 128 [(6, .pointer (some ⟨b73, 0, none⟩)), (9, .pointer (some ⟨b147, 0, none⟩)), (11, .pointer (some ⟨b155, 0, none⟩)), (12, .pointer (some ⟨b156, 0, none⟩)), (13, .func (.func 98) #[] #[.pointer (some ⟨b73, 0, none⟩), .pointer (some ⟨b154, 0, none⟩), .pointer (some ⟨b156, 0, none⟩), .pointer (some ⟨b147, 0, none⟩), .pointer (some ⟨b155, 0, none⟩)]), (16, .int .i64 q217), (116, .slice a310 x300.length c311), (117, .int .i64 ((x300).length : Int)), (118, .int .i64 ((k315 : Nat) : Int))] ∧ St w s84 (pt b72 (.cells #[.slice a54 q52.length c55, .slice a_y0_1 y0.last.length c_y0_1, .slice a66 q64.length c67] 127 (0, 0)) :: vecC 3 1 a54 c55 q52.length cs340 :: vecC 97 1 a66 c67 q64.length cs90 :: vecC 3 1 a343 c344 n346 cs347 :: pt b156 (.cells #[.bool q349] 4 (0, 0)) :: pt b155 (.cells #[.slice a343 n346 c344] 29 (0, 0)) :: pt b154 (.cells #[.slice (some ⟨b150, 0, none⟩) x148.length x148.length] 29 (0, 0)) :: vecC 3 1 (some ⟨b150, 0, none⟩) x148.length x148.length cs334 :: pt b147 (.cells #[.slice (some ⟨b143, 0, none⟩) x141.length x141.length] 71 (0, 0)) :: vecC 4 1 (some ⟨b143, 0, none⟩) x141.length x141.length cs328 :: pt b73 (.cells #[.pointer (some ⟨b72, 0, none⟩)] 122 (0, 0)) :: vecC 97 1 a_v1 c_v1 y0.outs.length cs_v1 :: vecC 3 1 a_v0 c_v0 y0.times.length cs_v0 :: pt pb0 (.cells #[.slice a_v0 y0.times.length c_v0, .slice a_y0_1 y0.last.length c_y0_1, .slice a_v1 y0.outs.length c_v1] 127 (0, 0)) :: R)) (m := x300.length) ⟨x300, 0, x284, q231, q237, x270, q250, cs286, cs235, cs241, (cutA a244 c245 ((1 : Int)).toNat 1), (c245 - ((1 : Int)).toNat), (q243.length - ((1 : Int)).toNat), (cs248.drop (((1 : Int)).toNat * 1)), rfl, rfl, hq313, h287, hn288, h234, hn236, h240, hn242, h277, hn278, hE.pick _ ⟨rfl, rfl, rfl, rfl, rfl, rfl, rfl, rfl, rfl, trivial⟩, hS⟩ ?_
        clear hE hS a w hq313; rintro m321 a w ⟨rest317, k315, q324, q330, q336, q342, q349, cs328, cs334, cs340, a343, c344, n346, cs347, rfl, hd318, hq313, h327, hn329, h333, hn335, h339, hn341, h345, rfl, hE, hS⟩
        refine W.gen fun K350 hK350 => ?_
        rcases rest317 with _ | ⟨x316, rest317⟩
        ·have hlt319 := drop_nil hd318
         refine W.seq (W.region ?_)
         refine WL.vS hS hE (runs_plain rfl) (Gives.p hE rfl) rfl ?_; clear hE a; intro a hE
         refine WL.nil ?_
         refine W.seq ?_
         refine W.condF hE rfl (decide_eq_false (by omega)) ?_
         subst hK350
         refine W.exit rfl ?_
         exact ⟨q324, q330, q336, q342, q349, cs328, cs334, cs340, a343, c344, q342.length, cs347, Option.some.inj hq313, h327, hn329, h333, hn335, h339, hn341, h345, rfl, hE.pick _ ⟨rfl, rfl, rfl, rfl, rfl, rfl, trivial⟩, hS⟩
        ·obtain ⟨hlt319, hx320, hd318⟩ := drop_cons hd318
         rw [MendSolverwith_v1.loop4] at hq313
         refine W.seq (W.region ?_)
         refine WL.vS hS hE (runs_plain rfl) (Gives.p hE rfl) rfl ?_; clear hE a; intro a hE
         refine WL.nil ?_
         refine W.seq ?_
         refine W.condT hE rfl (decide_eq_true (by omega)) ?_
         refine W.skip ?_
         refine W.seq ?_
         refine W.block ?_
         refine W.seq (W.region ?_)
         obtain ⟨cs351, hl352, hR353, hat354⟩ := h312.at hx320
         subst hR353
         refine WL.vS hS hE (runs_plain rfl) (Gives.idx hE k315 rfl rfl sl97 rfl hlt319 (h312.aok hlt319)) rfl ?_; clear hE a; intro a hE
         refine WL.vS hS hE (runs_plain rfl) (Gives.loadA hE rfl (fun w h => hat354 w _ h) ty144) rfl ?_; clear hE a; intro a hE
         refine WL.alloc hE hS (runs_plain rfl) zr144 rfl ?_; clear hE hS a w; intro b355 a w hE hS
         refine WL.storeI hE hS 0 rfl (MendArc.cells x316) (runs_plain rfl) rfl rfl rfl ty144 rfl rfl rfl rfl ?_; clear hE hS a w; intro a w hE hS
         refine WL.nil ?_
         refine W.region ?_
         refine WL.vS hS hE (runs_plain rfl) (Gives.p hE rfl) rfl ?_; clear hE a; intro a hE
         refine WL.vS hS hE (runs_plain rfl) (Gives.loadBA hE 0 rfl rfl ty144) rfl ?_; clear hE a; intro a hE
         obtain ⟨q356, hq357, hq313⟩ := bindS hq313
         replace hS := hS.front 3 rfl
         replace hS := hS.front 3 rfl
         replace hS := hS.front 4 rfl
         replace hS := hS.front 10 rfl
         replace hS := hS.front 9 rfl
         replace hS := hS.front 6 rfl
         replace hS := hS.front 8 rfl
         replace hS := hS.front 10 rfl
         replace hS := hS.front 9 rfl
         replace hS := hS.front 10 rfl
         replace hS := hS.front 11 rfl
         have hc_ := MendSolverwith_1_v1_ok (y5 := (MendSolver.mk q336 y0.last q86)) hS h333 hn335 h327 hn329 h345 rfl h339 hn341 h_y0_1 h89 hn91 hq357
         refine WL.fnw hE (hc_) rfl (runs_plain rfl) bd98 rfl rfl rfl ?_
         clear hE hS hc_; rintro e w ⟨cs358, cs361, cs364, a367, c368, n369, cs370, rfl, h359, hn360, h362, hn363, h365, hn366, h371, rfl, hS⟩; refine ⟨_, rfl, ?_⟩; clear a; intro a hE
         refine WL.nil ?_
         refine W.region ?_
         refine WL.vS hS hE (runs_plain rfl) (Gives.inc hE rfl (by have := h312.small; omega)) rfl ?_; clear hE a; intro a hE
         refine WL.vS hS hE (runs_plain rfl) (Gives.p hE rfl) rfl ?_; clear hE a; intro a hE
         refine WL.nil ?_
         replace hS := hS.dropAt 11
         replace hS := hS.front 13 rfl
         replace hS := hS.front 13 rfl
         replace hS := hS.front 13 rfl
         replace hS := hS.front 3 rfl
         replace hS := hS.front 10 rfl
         replace hS := hS.front 7 rfl
         replace hS := hS.front 10 rfl
         replace hS := hS.front 7 rfl
         replace hS := hS.front 9 rfl
         replace hS := hS.front 9 rfl
         replace hS := hS.front 11 rfl
         replace hS := hS.front 13 rfl
         replace hS := hS.front 13 rfl
         replace hS := hS.front 13 rfl
         subst hK350
         exact ⟨rest317.length, Nat.lt_succ_self _, rest317, k315 + 1, q356.2.1, q356.1, q356.2.2.1, q356.2.2.2.2, q356.2.2.2.1, cs361, cs358, cs364, a367, c368, q356.2.2.2.2.length, cs370, rfl, hd318, hq313, h362, hn363, h359, hn360, h365, hn366, h371, rfl, hE.pick _ ⟨rfl, rfl, rfl, rfl, rfl, rfl, rfl, rfl, rfl, trivial⟩, hS⟩
       ·clear hE hS a w; rintro a w ⟨q324, q330, q336, q342, q349, cs328, cs334, cs340, a343, c344, n346, cs347, rfl, h327, hn329, h333, hn335, h339, hn341, h345, rfl, hE, hS⟩
        dsimp only at hq219
        subst hK251
        exact ⟨n221, Nat.lt_succ_self _, n221, q324, q330, q336, q342, q349, cs328, cs334, cs340, a343, c344, q342.length, cs347, rfl, hq219, h327, hn329, h333, hn335, h339, hn341, h345, rfl, hE.pick _ ⟨rfl, rfl, rfl, rfl, rfl, rfl, trivial⟩, hS⟩
     ·replace hq219 := iteF hc259 hq219
      subst hK251
      refine W.exit rfl ?_
      exact ⟨q225, q231, q237, q243, q250, cs229, cs235, cs241, a244, c245, q243.length, cs248, Option.some.inj hq219, h228, hn230, h234, hn236, h240, hn242, h246, rfl, hE.pick _ ⟨rfl, rfl, trivial⟩, hS⟩
   ·clear hE hS a w; rintro a w ⟨q225, q231, q237, q243, q250, cs229, cs235, cs241, a244, c245, n247, cs248, rfl, h228, hn230, h234, hn236, h240, hn242, h246, rfl, hE, hS⟩
    dsimp only at hr
    refine W.seq ?_
    refine W.regionQ (C := fun w => St w s84 (pt b72 (.cells #[.slice a54 q52.length c55, .slice a_y0_1 y0.last.length c_y0_1, .slice a66 q64.length c67] 127 (0, 0)) :: vecC 3 1 a54 c55 q52.length cs241 :: vecC 97 1 a66 c67 q64.length cs90 :: vecC 3 1 a244 c245 q243.length cs248 :: pt b156 (.cells #[.bool q250] 4 (0, 0)) :: pt b155 (.cells #[.slice a244 q243.length c245] 29 (0, 0)) :: pt b154 (.cells #[.slice (some ⟨b150, 0, none⟩) x148.length x148.length] 29 (0, 0)) :: vecC 3 1 (some ⟨b150, 0, none⟩) x148.length x148.length cs235 :: pt b147 (.cells #[.slice (some ⟨b143, 0, none⟩) x141.length x141.length] 71 (0, 0)) :: vecC 4 1 (some ⟨b143, 0, none⟩) x141.length x141.length cs229 :: pt b73 (.cells #[.pointer (some ⟨b72, 0, none⟩)] 122 (0, 0)) :: vecC 97 1 a_v1 c_v1 y0.outs.length cs_v1 :: vecC 3 1 a_v0 c_v0 y0.times.length cs_v0 :: pt pb0 (.cells #[.slice a_v0 y0.times.length c_v0, .slice a_y0_1 y0.last.length c_y0_1, .slice a_v1 y0.outs.length c_v1] 127 (0, 0)) :: R)) mixed (by kernel_rfl) hS.drew ?_
    refine QL.v hE (runs_plain rfl) (Gives.loadB hE 10 rfl rfl rfl ty122) rfl ?_; clear hE a; intro a hE
    refine QL.v hE (runs_plain rfl) (Gives.loadB hE 4 rfl rfl rfl ty4) rfl ?_; clear hE a; intro a hE
    refine QL.v hE (runs_plain rfl) (Gives.p hE rfl) rfl ?_; clear hE a; intro a hE
    refine QL.v hE (runs_plain rfl) (Gives.p hE rfl) rfl ?_; clear hE a; intro a hE
    refine QL.nil ?_; clear hS w; intro w hS
    refine W.ret ?_
    have hF := hS.fixD RI.mono 1 rfl h240 hn242; clear hS; obtain ⟨s372, hle373, hS, h374⟩ := hF
    (try rw [← hn242] at hE)
    (try rw [← hn242] at hS)
    replace h_y0_1 := Sl.mono RI.mono hle373 h_y0_1
    replace h89 := Ev.mono (RL.mono RMendArc.mono) hle373 h89
    replace h246 := Ev.mono RI.mono hle373 h246
    replace h234 := Ev.mono RI.mono hle373 h234
    replace h228 := Ev.mono RB.mono hle373 h228
    replace h_v1 := Ev.mono (RL.mono RMendArc.mono) hle373 h_v1
    replace h_v0 := Ev.mono RI.mono hle373 h_v0
    have hF := hS.fixD (RL.mono RMendArc.mono) 1 rfl h89 hn91; clear hS; obtain ⟨s375, hle376, hS, h377⟩ := hF
    (try rw [← hn91] at hE)
    (try rw [← hn91] at hS)
    replace h374 := Sl.mono RI.mono hle376 h374
    replace h_y0_1 := Sl.mono RI.mono hle376 h_y0_1
    replace h246 := Ev.mono RI.mono hle376 h246
    replace h234 := Ev.mono RI.mono hle376 h234
    replace h228 := Ev.mono RB.mono hle376 h228
    replace h_v1 := Ev.mono (RL.mono RMendArc.mono) hle376 h_v1
    replace h_v0 := Ev.mono RI.mono hle376 h_v0
    have hF := hS.fixB (es := 3) (Rr := RMendSolver) (v := (MendSolver.mk q237 y0.last q86)) RMendSolver.mono 0 rfl rfl ⟨_, _, _, _, _, _, rfl, h374, h_y0_1, h377⟩; clear hS; obtain ⟨s378, hle379, hS, h380⟩ := hF
    replace h246 := Ev.mono RI.mono hle379 h246
    replace h234 := Ev.mono RI.mono hle379 h234
    replace h228 := Ev.mono RB.mono hle379 h228
    replace h_v1 := Ev.mono (RL.mono RMendArc.mono) hle379 h_v1
    replace h_v0 := Ev.mono RI.mono hle379 h_v0
    replace h_y0_1 := Sl.mono RI.mono hle379 h_y0_1
    refine finG (fn := Try.f94) (rs := [.tmp 4, .tmp 5]) (vs := [_, _]) hE rfl ⟨rfl, rfl, trivial⟩ ?_
    obtain rfl := Option.some.inj hr
    replace hS := hS.front 8 rfl
    replace hS := hS.front 9 rfl
    replace hS := hS.front 10 rfl
    replace hS := hS.dropAt 3
    replace hS := hS.dropAt 3
    replace hS := hS.dropAt 3
    replace hS := hS.dropAt 3
    replace hS := hS.dropAt 3
    replace hS := hS.dropAt 3
    replace hS := hS.dropAt 3
    replace hS := hS.dropAt 3
    exact ⟨(some ⟨b72, 0, none⟩), s378, rfl, (Sg.Le.trans (Sg.Le.trans (Sg.Le.trans hle85 hle373) hle376) hle379), h380, hS⟩
set_option maxHeartbeats 8000000 in
theorem Mendstart_ok {fu : Nat}  {w : World} {s : Sg} {R : List HP} {x0 : MendGraph} {a0_0 : Option Addr} {c0_0 : Nat} {a0_1 : Option Addr} {c0_1 : Nat} {a0_2 : Option Addr} {c0_2 : Nat} {a0_3 : Option Addr} {c0_3 : Nat} {a0_4 : Option Addr} {c0_4 : Nat} (hS : St w s (R)) (h0_0 : Sl 1 (RI .i64) s a0_0 c0_0 x0.Ready) (h0_1 : Sl 1 (RI .i64) s a0_1 c0_1 x0.Last) (h0_2 : Sl 1 (RI .i64) s a0_2 c0_2 x0.Due) (h0_3 : Sl 3 RMendArc s a0_3 c0_3 x0.Arcs) (h0_4 : Sl 1 RMendChoice s a0_4 c0_4 x0.Choices) {r : (Option MendSolver) × Bool} (hr : Mendstart fu x0 = some r) :
  Calls Try.prog 93 [.agg [.slice a0_0 x0.Ready.length c0_0, .slice a0_1 x0.Last.length c0_1, .slice a0_2 x0.Due.length c0_2, .slice a0_3 x0.Arcs.length c0_3, .slice a0_4 x0.Choices.length c0_4].toArray].toArray w (fun e w => ∃ (a0 : Option Addr) (t : Sg), e = .returned (.tuple #[.pointer a0, .bool r.2]) ∧ s.Le t ∧ Pt 3 RMendSolver t a0 r.1 ∧ St w t (R)) := by
 refine enter Try.func93 rfl rfl rfl fun a hE => ?_
 rw [Mendstart] at hr
 refine W.seq (W.region ?_)
 refine WL.box hE hS (runs_plain rfl) rfl rfl rfl ?_; clear hE hS a w; intro b51 a w hE hS
 refine WL.vS hS hE (runs_plain rfl) (Gives.p hE rfl) rfl ?_; clear hE a; intro a hE
 refine WL.vS hS hE (runs_plain rfl) (Gives.p hE rfl) rfl ?_; clear hE a; intro a hE
 refine WL.nil ?_
 refine W.seq ?_
 refine W.gen fun K52 hK52 => ?_
 refine W.regionE (sel (fun w => St w s (pt b51 (.cells #[.slice a0_0 x0.Ready.length c0_0, .slice a0_1 x0.Last.length c0_1, .slice a0_2 x0.Due.length c0_2, .slice a0_3 x0.Arcs.length c0_3, .slice a0_4 x0.Choices.length c0_4] 100 (0, 0)) :: R)) (fun w => St w s (pt b51 (.cells #[.slice a0_0 x0.Ready.length c0_0, .slice a0_1 x0.Last.length c0_1, .slice a0_2 x0.Due.length c0_2, .slice a0_3 x0.Arcs.length c0_3, .slice a0_4 x0.Choices.length c0_4] 100 (0, 0)) :: R))) (fun b i => cond b ([0, 1, 2, 3, 4, 5, 6, 7, 8, 9, 10, 11].contains i) ([0, 1, 2, 3, 4, 5, 6, 7, 8, 9, 10, 11].contains i)) mixed ?_
 replace hS := hS.drew
 refine Rg.takeP (i := 0) hE rfl (by kernel_rfl) (runs_plain rfl) (Gives.fld hE rfl fl100_0) rfl (tw_sel (fun _ => hS) (fun _ => hS)) ?_; clear hE a; intro a hE
 have hT := tw_sel (A := fun w => St w s (pt b51 (.cells #[.slice a0_0 x0.Ready.length c0_0, .slice a0_1 x0.Last.length c0_1, .slice a0_2 x0.Due.length c0_2, .slice a0_3 x0.Arcs.length c0_3, .slice a0_4 x0.Choices.length c0_4] 100 (0, 0)) :: R)) (B := fun w => St w s (pt b51 (.cells #[.slice a0_0 x0.Ready.length c0_0, .slice a0_1 x0.Last.length c0_1, .slice a0_2 x0.Due.length c0_2, .slice a0_3 x0.Arcs.length c0_3, .slice a0_4 x0.Choices.length c0_4] 100 (0, 0)) :: R)) (w := _) (x := true) (y := true) (fun _ => hS) (fun _ => hS)
 have hF := hS; replace hS := hS
 refine Rg.take (i := 1) true rfl hE rfl (by kernel_rfl) (runs_plain rfl) (Gives.loadB hE 0 rfl rfl rfl ty29) rfl hT ?_; clear hE a; intro a hE
 replace hS := hF; clear hF hT
 refine Rg.takeP (i := 3) hE rfl (by kernel_rfl) (runs_plain rfl) (Gives.fld hE rfl fl100_1) rfl (tw_sel (fun _ => hS) (fun _ => hS)) ?_; clear hE a; intro a hE
 have hT := tw_sel (A := fun w => St w s (pt b51 (.cells #[.slice a0_0 x0.Ready.length c0_0, .slice a0_1 x0.Last.length c0_1, .slice a0_2 x0.Due.length c0_2, .slice a0_3 x0.Arcs.length c0_3, .slice a0_4 x0.Choices.length c0_4] 100 (0, 0)) :: R)) (B := fun w => St w s (pt b51 (.cells #[.slice a0_0 x0.Ready.length c0_0, .slice a0_1 x0.Last.length c0_1, .slice a0_2 x0.Due.length c0_2, .slice a0_3 x0.Arcs.length c0_3, .slice a0_4 x0.Choices.length c0_4] 100 (0, 0)) :: R)) (w := _) (x := true) (y := true) (fun _ => hS) (fun _ => hS)
 have hF := hS; replace hS := hS
 refine Rg.take (i := 4) true rfl hE rfl (by kernel_rfl) (runs_plain rfl) (Gives.loadB hE 0 rfl rfl rfl ty29) rfl hT ?_; clear hE a; intro a hE
 replace hS := hF; clear hF hT
 refine Rg.takeP (i := 5) hE rfl (by kernel_rfl) (runs_plain rfl) (Gives.fld hE rfl fl100_0) rfl (tw_sel (fun _ => hS) (fun _ => hS)) ?_; clear hE a; intro a hE
 have hT := tw_sel (A := fun w => St w s (pt b51 (.cells #[.slice a0_0 x0.Ready.length c0_0, .slice a0_1 x0.Last.length c0_1, .slice a0_2 x0.Due.length c0_2, .slice a0_3 x0.Arcs.length c0_3, .slice a0_4 x0.Choices.length c0_4] 100 (0, 0)) :: R)) (B := fun w => St w s (pt b51 (.cells #[.slice a0_0 x0.Ready.length c0_0, .slice a0_1 x0.Last.length c0_1, .slice a0_2 x0.Due.length c0_2, .slice a0_3 x0.Arcs.length c0_3, .slice a0_4 x0.Choices.length c0_4] 100 (0, 0)) :: R)) (w := _) (x := true) (y := true) (fun _ => hS) (fun _ => hS)
 have hF := hS; replace hS := hS
 refine Rg.take (i := 6) true rfl hE rfl (by kernel_rfl) (runs_plain rfl) (Gives.loadB hE 0 rfl rfl rfl ty29) rfl hT ?_; clear hE a; intro a hE
 replace hS := hF; clear hF hT
 refine Rg.takeP (i := 7) hE rfl (by kernel_rfl) (runs_plain rfl) (Gives.len hE rfl sl29) rfl (tw_sel (fun _ => hS) (fun _ => hS)) ?_; clear hE a; intro a hE
 obtain ⟨q53, hq54, hr⟩ := bindS hr
 obtain ⟨x61, hx62, hr⟩ := bindS hr
 suffices key : ∀ cs64 cs58 b67 a55 c56 b63 (a : Act) (w : World), Sl 1 (RI .i64) s a0_1 c0_1 x0.Last → Ev 1 (RL 3 RMendArc) s cs64 x61 → Ev 1 (RI .i64) s cs58 q53 → Sl 1 (RI .i64) s a0_0 c0_0 x0.Ready → Sl 1 (RI .i64) s a0_2 c0_2 x0.Due → Sl 3 RMendArc s a0_3 c0_3 x0.Arcs → Sl 1 RMendChoice s a0_4 c0_4 x0.Choices → Rep a 50 [(1, .pointer (some ⟨b51, 0, none⟩)), (4, .pointer (some ⟨b67, 0, none⟩))] → St w s (pt b67 (.cells #[.slice a55 q53.length c56, .slice a0_1 x0.Last.length c0_1, .slice (some ⟨b63, 0, none⟩) x61.length x61.length] 127 (0, 0)) :: vecC 97 1 (some ⟨b63, 0, none⟩) x61.length x61.length cs64 :: vecC 3 1 a55 c56 q53.length cs58 :: pt b51 (.cells #[.slice a0_0 x0.Ready.length c0_0, .slice a0_1 x0.Last.length c0_1, .slice a0_2 x0.Due.length c0_2, .slice a0_3 x0.Arcs.length c0_3, .slice a0_4 x0.Choices.length c0_4] 100 (0, 0)) :: R) → K52.nor a w by
  refine Rg.many 2 [8] (by kernel_rfl) ⟨?_, ?_, trivial⟩
  ·refine Br.mk (i := 2) true true rfl (by kernel_rfl) (by kernel_rfl) ?_
   have hc_ := SlicesCloneLint_ok hS h0_0 hq54
   refine WL.fnq hE (hc_) (runs_plain rfl) bd60 rfl rfl rfl ?_
   clear hE hS hc_; rintro e w ⟨a55, c56, n57, cs58, rfl, h59, rfl, hS⟩; refine ⟨_, rfl, ?_⟩; clear a; intro a hE
   refine WL.nil ?_
   refine ⟨⟨fun _ => (hS.tail), fun _ => (hS.tail)⟩, ?_⟩
   refine Rg.one (i := 8) true true rfl (by kernel_rfl) (by kernel_rfl) (by kernel_rfl) ?_
   refine WL.mkD (Rr := RL 3 RMendArc) hE hS (runs_plain rfl) rfl rfl ap125 zr97 ⟨_, _, rfl, Sl.nil⟩ hx62 rfl ?_; clear hE hS a w; intro b63 cs64 a w h65 hE hS
   refine WL.nil ?_
   refine ⟨⟨fun _ => ((hS.tail).tail), fun _ => ((hS.tail).tail)⟩, ?_⟩
   refine Rg.takeP (i := 9) hE rfl (by kernel_rfl) (runs_plain rfl) (Gives.build hE (vs := [(0, .slice a55 q53.length c56), (1, .slice a0_1 x0.Last.length c0_1), (2, .slice (some ⟨b63, 0, none⟩) x61.length x61.length)]) [.slice a55 q53.length c56, .slice a0_1 x0.Last.length c0_1, .slice (some ⟨b63, 0, none⟩) x61.length x61.length] rfl (by kernel_rfl)) rfl (tw_sel (fun _ => ((hS.tail).tail)) (fun _ => ((hS.tail).tail))) ?_; clear hE a; intro a hE
   refine Rg.one (i := 10) true true rfl (by kernel_rfl) (by kernel_rfl) (by kernel_rfl) ?_
   refine WL.box hE hS (runs_plain rfl) rfl rfl rfl ?_; clear hE hS a w; intro b67 a w hE hS
   refine WL.nil ?_
   refine ⟨⟨fun _ => (((hS.tail).tail).tail), fun _ => (((hS.tail).tail).tail)⟩, ?_⟩
   refine Rg.takeP (i := 11) hE rfl (by kernel_rfl) (runs_plain rfl) (Gives.p hE rfl) rfl (tw_sel (fun _ => (((hS.tail).tail).tail)) (fun _ => (((hS.tail).tail).tail))) ?_; clear hE a; intro a hE
   refine Rg.done (by kernel_rfl) ?_
   exact key _ _ _ _ _ _ _ _ h0_1 h65 h59 h0_0 h0_2 h0_3 h0_4 (hE.pick _ ⟨rfl, rfl, trivial⟩) hS
  ·refine Br.mk (i := 8) true true rfl (by kernel_rfl) (by kernel_rfl) ?_
   refine WL.mkD (Rr := RL 3 RMendArc) hE hS (runs_plain rfl) rfl rfl ap125 zr97 ⟨_, _, rfl, Sl.nil⟩ hx62 rfl ?_; clear hE hS a w; intro b63 cs64 a w h65 hE hS
   refine WL.nil ?_
   refine ⟨⟨fun _ => (hS.tail), fun _ => (hS.tail)⟩, ?_⟩
   refine Rg.one (i := 2) true true rfl (by kernel_rfl) (by kernel_rfl) (by kernel_rfl) ?_
   have hc_ := SlicesCloneLint_ok hS h0_0 hq54
   refine WL.fnq hE (hc_) (runs_plain rfl) bd60 rfl rfl rfl ?_
   clear hE hS hc_; rintro e w ⟨a55, c56, n57, cs58, rfl, h59, rfl, hS⟩; refine ⟨_, rfl, ?_⟩; clear a; intro a hE
   refine WL.nil ?_
   refine ⟨⟨fun _ => ((hS.tail).tail), fun _ => ((hS.tail).tail)⟩, ?_⟩
   refine Rg.takeP (i := 9) hE rfl (by kernel_rfl) (runs_plain rfl) (Gives.build hE (vs := [(0, .slice a55 q53.length c56), (1, .slice a0_1 x0.Last.length c0_1), (2, .slice (some ⟨b63, 0, none⟩) x61.length x61.length)]) [.slice a55 q53.length c56, .slice a0_1 x0.Last.length c0_1, .slice (some ⟨b63, 0, none⟩) x61.length x61.length] rfl (by kernel_rfl)) rfl (tw_sel (fun _ => ((hS.tail).tail)) (fun _ => ((hS.tail).tail))) ?_; clear hE a; intro a hE
   refine Rg.one (i := 10) true true rfl (by kernel_rfl) (by kernel_rfl) (by kernel_rfl) ?_
   refine WL.box hE hS (runs_plain rfl) rfl rfl rfl ?_; clear hE hS a w; intro b67 a w hE hS
   refine WL.nil ?_
   refine ⟨⟨fun _ => (((hS.tail).tail).tail), fun _ => (((hS.tail).tail).tail)⟩, ?_⟩
   refine Rg.takeP (i := 11) hE rfl (by kernel_rfl) (runs_plain rfl) (Gives.p hE rfl) rfl (tw_sel (fun _ => (((hS.tail).tail).tail)) (fun _ => (((hS.tail).tail).tail))) ?_; clear hE a; intro a hE
   refine Rg.done (by kernel_rfl) ?_
   replace hS := hS.front 3 rfl
   replace hS := hS.front 2 rfl
   replace hS := hS.front 3 rfl
   replace hS := hS.front 3 rfl
   exact key _ _ _ _ _ _ _ _ h0_1 h65 h59 h0_0 h0_2 h0_3 h0_4 (hE.pick _ ⟨rfl, rfl, trivial⟩) hS
 clear hE hS a w; intro cs64 cs58 b67 a55 c56 b63 a w h0_1 h65 h59 h0_0 h0_2 h0_3 h0_4 hE hS
 subst hK52
 refine W.seq ?_
 refine W.seq (W.region ?_)
 refine WL.vS hS hE (runs_plain rfl) (Gives.p hE rfl) rfl ?_; clear hE a; intro a hE
 refine WL.vS hS hE (runs_plain rfl) (Gives.nilOk hE rfl) rfl ?_; clear hE a; intro a hE
 refine WL.vS hS hE (runs_plain rfl) (Gives.fld hE rfl fl127_0) rfl ?_; clear hE a; intro a hE
 refine WL.vS hS hE (runs_plain rfl) (Gives.loadB hE 0 rfl rfl rfl ty29) rfl ?_; clear hE a; intro a hE
 refine WL.vS hS hE (runs_plain rfl) (Gives.len hE rfl sl29) rfl ?_; clear hE a; intro a hE
 refine WL.vS hS hE (runs_plain rfl) (Gives.p hE rfl) rfl ?_; clear hE a; intro a hE
 refine WL.nil ?_
 have hb80 : q53.length ≤ 9223372036854775807 := by have := hS.vecCap 2 rfl; unfold maxLen at this; omega
 obtain ⟨q70, hq69, hr⟩ := bindS hr
 refine W.cut (fun a w => (.next ()) = q70 ∧ Rep a 50 [(1, .pointer (some ⟨b51, 0, none⟩)), (4, .pointer (some ⟨b67, 0, none⟩))] ∧ St w s (pt b67 (.cells #[.slice a55 q53.length c56, .slice a0_1 x0.Last.length c0_1, .slice (some ⟨b63, 0, none⟩) x61.length x61.length] 127 (0, 0)) :: vecC 97 1 (some ⟨b63, 0, none⟩) x61.length x61.length cs64 :: vecC 3 1 a55 c56 q53.length cs58 :: pt b51 (.cells #[.slice a0_0 x0.Ready.length c0_0, .slice a0_1 x0.Last.length c0_1, .slice a0_2 x0.Due.length c0_2, .slice a0_3 x0.Arcs.length c0_3, .slice a0_4 x0.Choices.length c0_4] 100 (0, 0)) :: R)) ?_ ?_
 ·refine W.block ?_
  refine W.loop (fun m a w => ∃ (rest73 : Nat) (k71 : Nat), rest73 = m ∧ k71 + rest73 = q53.length ∧ Mendstart.loop1 x0 q53 rest73 k71 = some q70 ∧ Rep a 50 [(1, .pointer (some ⟨b51, 0, none⟩)), (4, .pointer (some ⟨b67, 0, none⟩)), (21, .slice a55 q53.length c56), (22, .int .i64 ((q53.length : Nat) : Int)), (23, .int .i64 ((k71 : Nat) : Int))] ∧ St w s (pt b67 (.cells #[.slice a55 q53.length c56, .slice a0_1 x0.Last.length c0_1, .slice (some ⟨b63, 0, none⟩) x61.length x61.length] 127 (0, 0)) :: vecC 97 1 (some ⟨b63, 0, none⟩) x61.length x61.length cs64 :: vecC 3 1 a55 c56 q53.length cs58 :: pt b51 (.cells #[.slice a0_0 x0.Ready.length c0_0, .slice a0_1 x0.Last.length c0_1, .slice a0_2 x0.Due.length c0_2, .slice a0_3 x0.Arcs.length c0_3, .slice a0_4 x0.Choices.length c0_4] 100 (0, 0)) :: R)) (m := q53.length) ⟨q53.length, 0, rfl, by omega, hq69, hE.pick _ ⟨rfl, rfl, rfl, rfl, rfl, trivial⟩, hS⟩ ?_
  clear hE hS a w hq69; rintro m77 a w ⟨rest73, k71, rfl, hd74, hq69, hE, hS⟩
  refine W.gen fun K81 hK81 => ?_
  rcases rest73 with _ | rest73
  ·skip
   refine W.seq (W.region ?_)
   refine WL.vS hS hE (runs_plain rfl) (Gives.p hE rfl) rfl ?_; clear hE a; intro a hE
   refine WL.nil ?_
   refine W.seq ?_
   refine W.condF hE rfl (decide_eq_false (by omega)) ?_
   subst hK81
   refine W.exit rfl ?_
   exact ⟨Option.some.inj hq69, hE.pick _ ⟨rfl, rfl, trivial⟩, hS⟩
  ·have hlt75 : k71 < q53.length := by omega
   rw [Mendstart.loop1] at hq69
   refine W.seq (W.region ?_)
   refine WL.vS hS hE (runs_plain rfl) (Gives.p hE rfl) rfl ?_; clear hE a; intro a hE
   refine WL.nil ?_
   refine W.seq ?_
   refine W.condT hE rfl (decide_eq_true (by omega)) ?_
   refine W.skip ?_
   refine W.seq ?_
   refine W.block ?_
   refine W.seq (W.region ?_)
   refine WL.vS hS hE (runs_plain rfl) (Gives.p hE rfl) rfl ?_; clear hE a; intro a hE
   obtain ⟨x82, hx83, hq69⟩ := bindS hq69
   obtain ⟨hi84, hlt85, hy86⟩ := gx_some hx83
   obtain ⟨vs87, hl88, hR89, hd90, hget91⟩ := h59.at hy86
   subst hR89
   refine WL.vS hS hE (runs_plain rfl) (Gives.idx hE ((((k71 : Nat) : Int)).toNat) rfl rfl sl29 hi84 (by omega) (hS.vecAok 2 rfl (by omega : (((k71 : Nat) : Int)).toNat < q53.length))) rfl ?_; clear hE a; intro a hE
   refine WL.vS hS hE (runs_plain rfl) (Gives.load1 hE rfl (fun w h => St.vecSees h 2 rfl ((((k71 : Nat) : Int)).toNat * 1) _ hget91) ty3) rfl ?_; clear hE a; intro a hE
   refine WL.vS hS hE (runs_plain rfl) (Gives.p hE rfl) rfl ?_; clear hE a; intro a hE
   refine WL.vS hS hE (runs_plain rfl) (Gives.p hE rfl) rfl ?_; clear hE a; intro a hE
   refine WL.nil ?_
   refine W.seq ?_
   obtain ⟨q93, hq92, hq69⟩ := bindS hq69
   refine W.cut (fun a w => ∃ (q96 : Bool), q96 = q93 ∧ Rep a 50 [(1, .pointer (some ⟨b51, 0, none⟩)), (4, .pointer (some ⟨b67, 0, none⟩)), (21, .slice a55 q53.length c56), (22, .int .i64 ((q53.length : Nat) : Int)), (23, .int .i64 ((k71 : Nat) : Int)), (42, .bool q96)] ∧ St w s (pt b67 (.cells #[.slice a55 q53.length c56, .slice a0_1 x0.Last.length c0_1, .slice (some ⟨b63, 0, none⟩) x61.length x61.length] 127 (0, 0)) :: vecC 97 1 (some ⟨b63, 0, none⟩) x61.length x61.length cs64 :: vecC 3 1 a55 c56 q53.length cs58 :: pt b51 (.cells #[.slice a0_0 x0.Ready.length c0_0, .slice a0_1 x0.Last.length c0_1, .slice a0_2 x0.Due.length c0_2, .slice a0_3 x0.Arcs.length c0_3, .slice a0_4 x0.Choices.length c0_4] 100 (0, 0)) :: R)) ?_ ?_
   ·refine W.gen fun K97 hK97 => ?_
    refine W.region ?_
    refine WL.vS hS hE (runs_plain rfl) (Gives.fld hE rfl fl100_1) rfl ?_; clear hE a; intro a hE
    refine WL.vS hS hE (runs_plain rfl) (Gives.loadB hE 3 rfl rfl rfl ty29) rfl ?_; clear hE a; intro a hE
    refine WL.vS hS hE (runs_plain rfl) (Gives.p hE rfl) rfl ?_; clear hE a; intro a hE
    obtain ⟨x98, hx99, hq92⟩ := bindS hq92
    obtain ⟨hi100, hlt101, hy102⟩ := gx_some hx99
    obtain ⟨cs103, hl104, hR105, hat106⟩ := h0_1.at hy102
    subst hR105
    refine WL.vS hS hE (runs_plain rfl) (Gives.idx hE (((k71 : Nat) : Int)).toNat rfl rfl sl29 hi100 hlt101 (h0_1.aok hlt101)) rfl ?_; clear hE a; intro a hE
    refine WL.vS hS hE (runs_plain rfl) (Gives.load1 hE rfl (fun w h => hat106 w _ h) ty3) rfl ?_; clear hE a; intro a hE
    refine WL.vS hS hE (runs_plain rfl) (Gives.p hE rfl) rfl ?_; clear hE a; intro a hE
    refine WL.vS hS hE (runs_plain rfl) (Gives.p hE rfl) rfl ?_; clear hE a; intro a hE
    rcases Bool.eq_false_or_eq_true (decide (x98 ≥ 0)) with hg107 | hg107
    ·replace hq92 := iteT hg107 hq92
     refine WL.vS hS hE (runs_if hE rfl rfl rfl hg107) (Gives.p hE rfl) rfl ?_; clear hE a; intro a hE
     refine WL.vS hS hE (runs_if hE rfl rfl rfl hg107) (Gives.fld hE rfl fl100_1) rfl ?_; clear hE a; intro a hE
     refine WL.vS hS hE (runs_if hE rfl rfl rfl hg107) (Gives.loadB hE 3 rfl rfl rfl ty29) rfl ?_; clear hE a; intro a hE
     refine WL.vS hS hE (runs_if hE rfl rfl rfl hg107) (Gives.p hE rfl) rfl ?_; clear hE a; intro a hE
     obtain ⟨x108, hx109, hq92⟩ := bindS hq92
     obtain ⟨hi110, hlt111, hy112⟩ := gx_some hx109
     obtain ⟨cs113, hl114, hR115, hat116⟩ := h0_1.at hy112
     subst hR115
     refine WL.vS hS hE (runs_if hE rfl rfl rfl hg107) (Gives.idx hE (((k71 : Nat) : Int)).toNat rfl rfl sl29 hi110 hlt111 (h0_1.aok hlt111)) rfl ?_; clear hE a; intro a hE
     refine WL.vS hS hE (runs_if hE rfl rfl rfl hg107) (Gives.load1 hE rfl (fun w h => hat116 w _ h) ty3) rfl ?_; clear hE a; intro a hE
     refine WL.vS hS hE (runs_if hE rfl rfl rfl hg107) (Gives.p hE rfl) rfl ?_; clear hE a; intro a hE
     refine WL.vS hS hE (runs_plain rfl) (Gives.pickT hE rfl hg107 rfl) rfl ?_; clear hE a; intro a hE
     refine WL.nil ?_
     subst hK97
     exact ⟨decide (x82 > x108), Option.some.inj hq92, hE.pick _ ⟨rfl, rfl, rfl, rfl, rfl, rfl, trivial⟩, hS⟩
    ·replace hq92 := iteF hg107 hq92
     refine WL.no hE (runs_not hE rfl rfl rfl (by rw [hg107]; decide)) rfl ?_; clear hE a; intro a hE
     refine WL.no hE (runs_not hE rfl rfl rfl (by rw [hg107]; decide)) rfl ?_; clear hE a; intro a hE
     refine WL.no hE (runs_not hE rfl rfl rfl (by rw [hg107]; decide)) rfl ?_; clear hE a; intro a hE
     refine WL.no hE (runs_not hE rfl rfl rfl (by rw [hg107]; decide)) rfl ?_; clear hE a; intro a hE
     refine WL.no hE (runs_not hE rfl rfl rfl (by rw [hg107]; decide)) rfl ?_; clear hE a; intro a hE
     refine WL.no hE (runs_not hE rfl rfl rfl (by rw [hg107]; decide)) rfl ?_; clear hE a; intro a hE
     refine WL.no hE (runs_not hE rfl rfl rfl (by rw [hg107]; decide)) rfl ?_; clear hE a; intro a hE
     refine WL.vS hS hE (runs_plain rfl) (Gives.pickF hE rfl hg107 rfl) rfl ?_; clear hE a; intro a hE
     refine WL.nil ?_
     subst hK97
     exact ⟨false, Option.some.inj hq92, hE.pick _ ⟨rfl, rfl, rfl, rfl, rfl, rfl, trivial⟩, hS⟩
   ·clear hE hS a w; rintro a w ⟨q96, rfl, hE, hS⟩
    refine W.cond hE rfl (fun hc117 => ?_) (fun hc117 => ?_)
    ·replace hq69 := iteT hc117 hq69
     refine W.seq (W.region ?_)
     refine WL.vS hS hE (runs_plain rfl) (Gives.p hE rfl) rfl ?_; clear hE a; intro a hE
     refine WL.vS hS hE (runs_plain rfl) (Gives.p hE rfl) rfl ?_; clear hE a; intro a hE
     refine WL.nil ?_
     refine W.ret ?_
     subst hK81
     rw [← Option.some.inj hq69] at hr
     dsimp only at hr
     refine finG (fn := Try.f93) (rs := [.tmp 2, .tmp 3]) (vs := [_, _]) hE rfl ⟨rfl, rfl, trivial⟩ ?_
     obtain rfl := Option.some.inj hr
     replace hS := hS.tail
     replace hS := hS.tail
     replace hS := hS.tail
     replace hS := hS.tail
     exact ⟨none, s, rfl, (Sg.Le.refl _), Pt.nil, hS⟩
    ·replace hq69 := iteF hc117 hq69
     refine W.skip ?_
     refine W.region ?_
     refine WL.vS hS hE (runs_plain rfl) (Gives.inc hE rfl (by omega)) rfl ?_; clear hE a; intro a hE
     refine WL.vS hS hE (runs_plain rfl) (Gives.p hE rfl) rfl ?_; clear hE a; intro a hE
     refine WL.nil ?_
     subst hK81
     exact ⟨rest73, Nat.lt_succ_self _, rest73, k71 + 1, rfl, (by omega), hq69, hE.pick _ ⟨rfl, rfl, rfl, rfl, rfl, trivial⟩, hS⟩
 ·clear hE hS a w; rintro a w ⟨rfl, hE, hS⟩
  dsimp only at hr
  refine W.seq (W.region ?_)
  refine WL.vS hS hE (runs_plain rfl) (Gives.p hE rfl) rfl ?_; clear hE a; intro a hE
  refine WL.vS hS hE (runs_plain rfl) (Gives.fld hE rfl fl100_3) rfl ?_; clear hE a; intro a hE
  refine WL.vS hS hE (runs_plain rfl) (Gives.loadB hE 3 rfl rfl rfl ty97) rfl ?_; clear hE a; intro a hE
  obtain ⟨q118, hq119, hr⟩ := bindS hr
  replace hS := hS.front 1 rfl
  replace hS := hS.front 2 rfl
  replace hS := hS.front 2 rfl
  have hc_ := MendSolverwith_v1_ok (y0 := (MendSolver.mk q53 x0.Last x61)) hS h0_3 h59 rfl h0_1 h65 (rfl) hq119
  refine WL.fnq hE (hc_) (runs_plain rfl) bd94 rfl rfl rfl ?_
  clear hE hS hc_; rintro e w ⟨a120, s122, rfl, hle123, h121, hS⟩; refine ⟨_, rfl, ?_⟩; clear a; intro a hE
  replace h0_3 := Sl.mono RMendArc.mono hle123 h0_3
  replace h0_1 := Sl.mono RI.mono hle123 h0_1
  replace h59 := Ev.mono RI.mono hle123 h59
  replace h65 := Ev.mono (RL.mono RMendArc.mono) hle123 h65
  replace h0_0 := Sl.mono RI.mono hle123 h0_0
  replace h0_2 := Sl.mono RI.mono hle123 h0_2
  replace h0_4 := Sl.mono RMendChoice.mono hle123 h0_4
  refine WL.vS hS hE (runs_plain rfl) (Gives.p hE rfl) rfl ?_; clear hE a; intro a hE
  refine WL.vS hS hE (runs_plain rfl) (Gives.p hE rfl) rfl ?_; clear hE a; intro a hE
  refine WL.vS hS hE (runs_plain rfl) (Gives.p hE rfl) rfl ?_; clear hE a; intro a hE
  refine WL.vS hS hE (runs_plain rfl) (Gives.p hE rfl) rfl ?_; clear hE a; intro a hE
  refine WL.nil ?_
  refine W.ret ?_
  refine finG (fn := Try.f93) (rs := [.tmp 2, .tmp 3]) (vs := [_, _]) hE rfl ⟨rfl, rfl, trivial⟩ ?_
  obtain rfl := Option.some.inj hr
  replace hS := hS.tail
  replace hS := hS.tail
  replace hS := hS.tail
  replace hS := hS.tail
  exact ⟨a120, s122, rfl, hle123, h121, hS⟩
set_option maxHeartbeats 8000000 in
theorem SlicesCloneLLmendArc_ok  {w : World} {s : Sg} {R : List HP} {x0 : List (List MendArc)} {a0 : Option Addr} {c0 : Nat} (hS : St w s (R)) (h0 : Sl 1 (RL 3 RMendArc) s a0 c0 x0) {r : (List (List MendArc))} (hr : SlicesCloneLLmendArc x0 = some r) :
  Calls Try.prog 96 [.slice a0 x0.length c0].toArray w (fun e w => ∃ (a0 : Option Addr) (c0 n0 : Nat) (cs0 : List Value), e = .returned (.slice a0 n0 c0) ∧ Ev 1 (RL 3 RMendArc) s cs0 r ∧ r.length = n0 ∧ St w s (vecC 97 1 a0 c0 n0 cs0 :: R)) := by
 refine enter Try.func96 rfl rfl rfl fun a hE => ?_
 rw [SlicesCloneLLmendArc] at hr
 refine W.seq (W.region ?_)
 refine WL.vS hS hE (runs_plain rfl) (Gives.p hE rfl) rfl ?_; clear hE a; intro a hE
 refine WL.nil ?_
 refine W.seq ?_
 refine W.seq (W.region ?_)
 refine WL.vS hS hE (runs_plain rfl) (Gives.p hE rfl) rfl ?_; clear hE a; intro a hE
 refine WL.vS hS hE (runs_plain rfl) (Gives.isNil hE rfl rfl isl125) rfl ?_; clear hE a; intro a hE
 refine WL.nil ?_
 rcases a0 with _ | g51
 ·obtain rfl := h0.none_nil
  replace hr : some [] = _ := hr
  refine W.condT hE rfl rfl ?_
  refine W.seq (W.region ?_)
  refine WL.vS hS hE (runs_plain rfl) (Gives.p hE rfl) rfl ?_; clear hE a; intro a hE
  refine WL.nil ?_
  refine W.ret ?_
  replace hS := hS.vecNil 97 1
  refine finG (fn := Try.f96) (rs := [.tmp 2]) (vs := [_]) hE rfl ⟨rfl, trivial⟩ ?_
  obtain rfl := Option.some.inj hr
  exact ⟨none, 0, 0, [], rfl, (Ev.nil), (rfl), hS⟩
 ·skip
  refine W.condF hE rfl rfl ?_
  refine W.skip ?_
  refine W.seq (W.region ?_)
  refine WL.lit hE hS (e := 97) (es := 1) (vs := []) (cs := []) (runs_plain rfl) rfl (by kernel_rfl) rfl ?_; clear hE hS a w; intro b53 a w hE hS
  replace hS := hS.ptVec (es := 1) (m := 0) rfl (by decide)
  have h55 : Ev 1 (RL 3 RMendArc) s [] [] := (Ev.nil)
  refine WL.vS hS hE (runs_plain rfl) (Gives.p hE rfl) rfl ?_; clear hE a; intro a hE
  obtain ⟨x56, hx57, hr⟩ := bindS hr
  refine WL.appS hE hS 0 (runs_plain rfl) rfl rfl (xs := x0) rfl rfl ap125 RL.one h55 (rfl) h0 hx57 rfl ?_; clear hE hS a w; intro a58 c59 cs60 a w h61 hE hS
  refine WL.vS hS hE (runs_plain rfl) (Gives.p hE rfl) rfl ?_; clear hE a; intro a hE
  refine WL.nil ?_
  refine W.ret ?_
  refine finG (fn := Try.f96) (rs := [.tmp 2]) (vs := [_]) hE rfl ⟨rfl, trivial⟩ ?_
  obtain rfl := Option.some.inj hr
  exact ⟨a58, c59, x56.length, cs60, rfl, h61, (rfl), hS⟩
set_option maxHeartbeats 8000000 in
theorem MendSolverwith_ok {fu : Nat}  {w : World} {s : Sg} {R : List HP} {x0 : Option MendSolver} {a0 : Option Addr} {x1 : List MendArc} {a1 : Option Addr} {c1 : Nat} (hS : St w s (R)) (h0 : Pt 3 RMendSolver s a0 x0) (h1 : Sl 3 RMendArc s a1 c1 x1) {r : (Option MendSolver) × Bool} (hr : MendSolverwith fu x0 x1 = some r) :
  Calls Try.prog 94 [.pointer a0, .slice a1 x1.length c1].toArray w (fun e w => ∃ (a0 : Option Addr) (t : Sg), e = .returned (.tuple #[.pointer a0, .bool r.2]) ∧ s.Le t ∧ Pt 3 RMendSolver t a0 r.1 ∧ St w t (R)) := by
 refine enter Try.func94 rfl rfl rfl fun a hE => ?_
 rw [MendSolverwith] at hr
 refine W.seq (W.region ?_)
 refine WL.vS hS hE (runs_plain rfl) (Gives.p hE rfl) rfl ?_; clear hE a; intro a hE
 refine WL.vS hS hE (runs_plain rfl) (Gives.p hE rfl) rfl ?_; clear hE a; intro a hE
 refine WL.nil ?_
 refine W.seq ?_
 refine W.gen fun K51 hK51 => ?_
 refine W.regionE (sel (fun w => St w s (R)) (fun w => St w s (R))) (fun b i => cond b ([0, 1, 2, 3, 4, 5, 6, 7, 8, 9, 10, 11, 12, 13, 14, 15, 16, 17].contains i) ([0, 1, 2, 3, 4, 5, 6, 7, 8, 9, 10, 11, 12, 13, 14, 15, 16, 17].contains i)) mixed ?_
 replace hS := hS.drew
 refine Rg.takeP (i := 0) hE rfl (by kernel_rfl) (runs_plain rfl) (Gives.p hE rfl) rfl (tw_sel (fun _ => hS) (fun _ => hS)) ?_; clear hE a; intro a hE
 have hT := tw_sel (A := fun w => St w s (R)) (B := fun w => St w s (R)) (w := _) (x := true) (y := true) (fun _ => hS) (fun _ => hS)
 have hF := hS; replace hS := hS
 obtain ⟨x52, hx53, hr⟩ := bindS hr
 obtain ⟨b54, o55, cs56, rfl, hl57, hR58, hat59⟩ := h0.at hx53
 obtain ⟨a60, c61, a63, c64, a66, c67, rfl, h62, h65, h68⟩ := hR58
 refine Rg.take (i := 1) true rfl hE rfl (by kernel_rfl) (runs_plain rfl) (Gives.nilOk hE rfl) rfl hT ?_; clear hE a; intro a hE
 replace hS := hF; clear hF hT
 refine Rg.takeP (i := 2) hE rfl (by kernel_rfl) (runs_plain rfl) (Gives.fld hE rfl fl127_0) rfl (tw_sel (fun _ => hS) (fun _ => hS)) ?_; clear hE a; intro a hE
 have hT := tw_sel (A := fun w => St w s (R)) (B := fun w => St w s (R)) (w := _) (x := true) (y := true) (fun _ => hS) (fun _ => hS)
 have hF := hS; replace hS := hS
 refine Rg.take (i := 3) true rfl hE rfl (by kernel_rfl) (runs_plain rfl) (Gives.load1 hE rfl (fun w h => (hat59 w _ h).one rfl) ty29) rfl hT ?_; clear hE a; intro a hE
 replace hS := hF; clear hF hT
 refine Rg.takeP (i := 5) hE rfl (by kernel_rfl) (runs_plain rfl) (Gives.p hE rfl) rfl (tw_sel (fun _ => hS) (fun _ => hS)) ?_; clear hE a; intro a hE
 have hT := tw_sel (A := fun w => St w s (R)) (B := fun w => St w s (R)) (w := _) (x := true) (y := true) (fun _ => hS) (fun _ => hS)
 have hF := hS; replace hS := hS
 refine Rg.take (i := 6) true rfl hE rfl (by kernel_rfl) (runs_plain rfl) (Gives.nilOk hE rfl) rfl hT ?_; clear hE a; intro a hE
 replace hS := hF; clear hF hT
 refine Rg.takeP (i := 7) hE rfl (by kernel_rfl) (runs_plain rfl) (Gives.fld hE rfl fl127_1) rfl (tw_sel (fun _ => hS) (fun _ => hS)) ?_; clear hE a; intro a hE
 have hT := tw_sel (A := fun w => St w s (R)) (B := fun w => St w s (R)) (w := _) (x := true) (y := true) (fun _ => hS) (fun _ => hS)
 have hF := hS; replace hS := hS
 refine Rg.take (i := 8) true rfl hE rfl (by kernel_rfl) (runs_plain rfl) (Gives.load1 hE rfl (fun w h => (hat59 w _ h).one rfl) ty29) rfl hT ?_; clear hE a; intro a hE
 replace hS := hF; clear hF hT
 refine Rg.takeP (i := 9) hE rfl (by kernel_rfl) (runs_plain rfl) (Gives.p hE rfl) rfl (tw_sel (fun _ => hS) (fun _ => hS)) ?_; clear hE a; intro a hE
 have hT := tw_sel (A := fun w => St w s (R)) (B := fun w => St w s (R)) (w := _) (x := true) (y := true) (fun _ => hS) (fun _ => hS)
 have hF := hS; replace hS := hS
 refine Rg.take (i := 10) true rfl hE rfl (by kernel_rfl) (runs_plain rfl) (Gives.nilOk hE rfl) rfl hT ?_; clear hE a; intro a hE
 replace hS := hF; clear hF hT
 refine Rg.takeP (i := 11) hE rfl (by kernel_rfl) (runs_plain rfl) (Gives.fld hE rfl fl127_2) rfl (tw_sel (fun _ => hS) (fun _ => hS)) ?_; clear hE a; intro a hE
 have hT := tw_sel (A := fun w => St w s (R)) (B := fun w => St w s (R)) (w := _) (x := true) (y := true) (fun _ => hS) (fun _ => hS)
 have hF := hS; replace hS := hS
 refine Rg.take (i := 12) true rfl hE rfl (by kernel_rfl) (runs_plain rfl) (Gives.load1 hE rfl (fun w h => (hat59 w _ h).one rfl) ty125) rfl hT ?_; clear hE a; intro a hE
 replace hS := hF; clear hF hT
 obtain ⟨q69, hq70, hr⟩ := bindS hr
 obtain ⟨q77, hq78, hr⟩ := bindS hr
 suffices key : ∀ cs82 cs74 b86 b85 a71 c72 a79 c80 (a : Act) (w : World), Sl 3 RMendArc s a1 c1 x1 → Sl 1 (RI .i64) s a63 c64 x52.last → Ev 1 (RL 3 RMendArc) s cs82 q77 → Ev 1 (RI .i64) s cs74 q69 → Rep a 128 [(1, .slice a1 x1.length c1), (6, .pointer (some ⟨b86, 0, none⟩))] → St w s (pt b86 (.cells #[.pointer (some ⟨b85, 0, none⟩)] 122 (0, 0)) :: pt b85 (.cells #[.slice a71 q69.length c72, .slice a63 x52.last.length c64, .slice a79 q77.length c80] 127 (0, 0)) :: vecC 97 1 a79 c80 q77.length cs82 :: vecC 3 1 a71 c72 q69.length cs74 :: R) → K51.nor a w by
  refine Rg.many 4 [16] (by kernel_rfl) ⟨?_, ?_, trivial⟩
  ·refine Br.mk (i := 4) true true rfl (by kernel_rfl) (by kernel_rfl) ?_
   have hc_ := SlicesCloneLint_ok hS h62 hq70
   refine WL.fnq hE (hc_) (runs_plain rfl) bd60 rfl rfl rfl ?_
   clear hE hS hc_; rintro e w ⟨a71, c72, n73, cs74, rfl, h75, rfl, hS⟩; refine ⟨_, rfl, ?_⟩; clear a; intro a hE
   refine WL.nil ?_
   refine ⟨⟨fun _ => (hS.tail), fun _ => (hS.tail)⟩, ?_⟩
   refine Rg.many 13 [16] (by kernel_rfl) ⟨?_, ?_, trivial⟩
   ·refine Br.mk (i := 13) true true rfl (by kernel_rfl) (by kernel_rfl) ?_
    have hc_ := SlicesCloneLLmendArc_ok hS h68 hq78
    refine WL.fnq hE (hc_) (runs_plain rfl) bd96 rfl rfl rfl ?_
    clear hE hS hc_; rintro e w ⟨a79, c80, n81, cs82, rfl, h83, rfl, hS⟩; refine ⟨_, rfl, ?_⟩; clear a; intro a hE
    refine WL.nil ?_
    refine ⟨⟨fun _ => ((hS.tail).tail), fun _ => ((hS.tail).tail)⟩, ?_⟩
    refine Rg.takeP (i := 14) hE rfl (by kernel_rfl) (runs_plain rfl) (Gives.build hE (vs := [(0, .slice a71 q69.length c72), (1, .slice a63 x52.last.length c64), (2, .slice a79 q77.length c80)]) [.slice a71 q69.length c72, .slice a63 x52.last.length c64, .slice a79 q77.length c80] rfl (by kernel_rfl)) rfl (tw_sel (fun _ => ((hS.tail).tail)) (fun _ => ((hS.tail).tail))) ?_; clear hE a; intro a hE
    refine Rg.many 15 [16] (by kernel_rfl) ⟨?_, ?_, trivial⟩
    ·refine Br.mk (i := 15) true true rfl (by kernel_rfl) (by kernel_rfl) ?_
     refine WL.box hE hS (runs_plain rfl) rfl rfl rfl ?_; clear hE hS a w; intro b85 a w hE hS
     refine WL.nil ?_
     refine ⟨⟨fun _ => (((hS.tail).tail).tail), fun _ => (((hS.tail).tail).tail)⟩, ?_⟩
     refine Rg.one (i := 16) true true rfl (by kernel_rfl) (by kernel_rfl) (by kernel_rfl) ?_
     refine WL.alloc hE hS (runs_plain rfl) zr122 rfl ?_; clear hE hS a w; intro b86 a w hE hS
     refine WL.nil ?_
     refine ⟨⟨fun _ => ((((hS.tail).tail).tail).tail), fun _ => ((((hS.tail).tail).tail).tail)⟩, ?_⟩
     refine Rg.one (i := 17) true true rfl (by kernel_rfl) (by kernel_rfl) (by kernel_rfl) ?_
     refine WL.storeI hE hS 0 rfl [.pointer (some ⟨b85, 0, none⟩)] (runs_plain rfl) rfl rfl rfl ty122 rfl rfl rfl rfl ?_; clear hE hS a w; intro a w hE hS
     refine WL.nil ?_
     refine ⟨⟨fun _ => ((((hS.tail).tail).tail).tail), fun _ => ((((hS.tail).tail).tail).tail)⟩, ?_⟩
     refine Rg.done (by kernel_rfl) ?_
     exact key _ _ _ _ _ _ _ _ _ _ h1 h65 h83 h75 (hE.pick _ ⟨rfl, rfl, trivial⟩) hS
    ·refine Br.mk (i := 16) true true rfl (by kernel_rfl) (by kernel_rfl) ?_
     refine WL.alloc hE hS (runs_plain rfl) zr122 rfl ?_; clear hE hS a w; intro b86 a w hE hS
     refine WL.nil ?_
     refine ⟨⟨fun _ => (((hS.tail).tail).tail), fun _ => (((hS.tail).tail).tail)⟩, ?_⟩
     refine Rg.one (i := 15) true true rfl (by kernel_rfl) (by kernel_rfl) (by kernel_rfl) ?_
     refine WL.box hE hS (runs_plain rfl) rfl rfl rfl ?_; clear hE hS a w; intro b85 a w hE hS
     refine WL.nil ?_
     refine ⟨⟨fun _ => ((((hS.tail).tail).tail).tail), fun _ => ((((hS.tail).tail).tail).tail)⟩, ?_⟩
     refine Rg.one (i := 17) true true rfl (by kernel_rfl) (by kernel_rfl) (by kernel_rfl) ?_
     refine WL.storeI hE hS 1 rfl [.pointer (some ⟨b85, 0, none⟩)] (runs_plain rfl) rfl rfl rfl ty122 rfl rfl rfl rfl ?_; clear hE hS a w; intro a w hE hS
     refine WL.nil ?_
     refine ⟨⟨fun _ => ((((hS.tail).tail).tail).tail), fun _ => ((((hS.tail).tail).tail).tail)⟩, ?_⟩
     refine Rg.done (by kernel_rfl) ?_
     replace hS := hS.front 3 rfl
     replace hS := hS.front 3 rfl
     replace hS := hS.front 2 rfl
     replace hS := hS.front 3 rfl
     exact key _ _ _ _ _ _ _ _ _ _ h1 h65 h83 h75 (hE.pick _ ⟨rfl, rfl, trivial⟩) hS
   ·refine Br.mk (i := 16) true true rfl (by kernel_rfl) (by kernel_rfl) ?_
    refine WL.alloc hE hS (runs_plain rfl) zr122 rfl ?_; clear hE hS a w; intro b86 a w hE hS
    refine WL.nil ?_
    refine ⟨⟨fun _ => ((hS.tail).tail), fun _ => ((hS.tail).tail)⟩, ?_⟩
    refine Rg.one (i := 13) true true rfl (by kernel_rfl) (by kernel_rfl) (by kernel_rfl) ?_
    have hc_ := SlicesCloneLLmendArc_ok hS h68 hq78
    refine WL.fnq hE (hc_) (runs_plain rfl) bd96 rfl rfl rfl ?_
    clear hE hS hc_; rintro e w ⟨a79, c80, n81, cs82, rfl, h83, rfl, hS⟩; refine ⟨_, rfl, ?_⟩; clear a; intro a hE
    refine WL.nil ?_
    refine ⟨⟨fun _ => (((hS.tail).tail).tail), fun _ => (((hS.tail).tail).tail)⟩, ?_⟩
    refine Rg.takeP (i := 14) hE rfl (by kernel_rfl) (runs_plain rfl) (Gives.build hE (vs := [(0, .slice a71 q69.length c72), (1, .slice a63 x52.last.length c64), (2, .slice a79 q77.length c80)]) [.slice a71 q69.length c72, .slice a63 x52.last.length c64, .slice a79 q77.length c80] rfl (by kernel_rfl)) rfl (tw_sel (fun _ => (((hS.tail).tail).tail)) (fun _ => (((hS.tail).tail).tail))) ?_; clear hE a; intro a hE
    refine Rg.one (i := 15) true true rfl (by kernel_rfl) (by kernel_rfl) (by kernel_rfl) ?_
    refine WL.box hE hS (runs_plain rfl) rfl rfl rfl ?_; clear hE hS a w; intro b85 a w hE hS
    refine WL.nil ?_
    refine ⟨⟨fun _ => ((((hS.tail).tail).tail).tail), fun _ => ((((hS.tail).tail).tail).tail)⟩, ?_⟩
    refine Rg.one (i := 17) true true rfl (by kernel_rfl) (by kernel_rfl) (by kernel_rfl) ?_
    refine WL.storeI hE hS 2 rfl [.pointer (some ⟨b85, 0, none⟩)] (runs_plain rfl) rfl rfl rfl ty122 rfl rfl rfl rfl ?_; clear hE hS a w; intro a w hE hS
    refine WL.nil ?_
    refine ⟨⟨fun _ => ((((hS.tail).tail).tail).tail), fun _ => ((((hS.tail).tail).tail).tail)⟩, ?_⟩
    refine Rg.done (by kernel_rfl) ?_
    replace hS := hS.front 3 rfl
    replace hS := hS.front 2 rfl
    replace hS := hS.front 2 rfl
    replace hS := hS.front 3 rfl
    exact key _ _ _ _ _ _ _ _ _ _ h1 h65 h83 h75 (hE.pick _ ⟨rfl, rfl, trivial⟩) hS
  ·refine Br.mk (i := 16) true true rfl (by kernel_rfl) (by kernel_rfl) ?_
   refine WL.alloc hE hS (runs_plain rfl) zr122 rfl ?_; clear hE hS a w; intro b86 a w hE hS
   refine WL.nil ?_
   refine ⟨⟨fun _ => (hS.tail), fun _ => (hS.tail)⟩, ?_⟩
   refine Rg.one (i := 4) true true rfl (by kernel_rfl) (by kernel_rfl) (by kernel_rfl) ?_
   have hc_ := SlicesCloneLint_ok hS h62 hq70
   refine WL.fnq hE (hc_) (runs_plain rfl) bd60 rfl rfl rfl ?_
   clear hE hS hc_; rintro e w ⟨a71, c72, n73, cs74, rfl, h75, rfl, hS⟩; refine ⟨_, rfl, ?_⟩; clear a; intro a hE
   refine WL.nil ?_
   refine ⟨⟨fun _ => ((hS.tail).tail), fun _ => ((hS.tail).tail)⟩, ?_⟩
   refine Rg.one (i := 13) true true rfl (by kernel_rfl) (by kernel_rfl) (by kernel_rfl) ?_
   have hc_ := SlicesCloneLLmendArc_ok hS h68 hq78
   refine WL.fnq hE (hc_) (runs_plain rfl) bd96 rfl rfl rfl ?_
   clear hE hS hc_; rintro e w ⟨a79, c80, n81, cs82, rfl, h83, rfl, hS⟩; refine ⟨_, rfl, ?_⟩; clear a; intro a hE
   refine WL.nil ?_
   refine ⟨⟨fun _ => (((hS.tail).tail).tail), fun _ => (((hS.tail).tail).tail)⟩, ?_⟩
   refine Rg.takeP (i := 14) hE rfl (by kernel_rfl) (runs_plain rfl) (Gives.build hE (vs := [(0, .slice a71 q69.length c72), (1, .slice a63 x52.last.length c64), (2, .slice a79 q77.length c80)]) [.slice a71 q69.length c72, .slice a63 x52.last.length c64, .slice a79 q77.length c80] rfl (by kernel_rfl)) rfl (tw_sel (fun _ => (((hS.tail).tail).tail)) (fun _ => (((hS.tail).tail).tail))) ?_; clear hE a; intro a hE
   refine Rg.one (i := 15) true true rfl (by kernel_rfl) (by kernel_rfl) (by kernel_rfl) ?_
   refine WL.box hE hS (runs_plain rfl) rfl rfl rfl ?_; clear hE hS a w; intro b85 a w hE hS
   refine WL.nil ?_
   refine ⟨⟨fun _ => ((((hS.tail).tail).tail).tail), fun _ => ((((hS.tail).tail).tail).tail)⟩, ?_⟩
   refine Rg.one (i := 17) true true rfl (by kernel_rfl) (by kernel_rfl) (by kernel_rfl) ?_
   refine WL.storeI hE hS 3 rfl [.pointer (some ⟨b85, 0, none⟩)] (runs_plain rfl) rfl rfl rfl ty122 rfl rfl rfl rfl ?_; clear hE hS a w; intro a w hE hS
   refine WL.nil ?_
   refine ⟨⟨fun _ => ((((hS.tail).tail).tail).tail), fun _ => ((((hS.tail).tail).tail).tail)⟩, ?_⟩
   refine Rg.done (by kernel_rfl) ?_
   replace hS := hS.front 2 rfl
   replace hS := hS.front 2 rfl
   replace hS := hS.front 2 rfl
   replace hS := hS.front 3 rfl
   exact key _ _ _ _ _ _ _ _ _ _ h1 h65 h83 h75 (hE.pick _ ⟨rfl, rfl, trivial⟩) hS
 clear hE hS a w; intro cs82 cs74 b86 b85 a71 c72 a79 c80 a w h1 h65 h83 h75 hE hS
 subst hK51
 refine W.seq ?_
 refine W.seq (W.region ?_)
 refine WL.vS hS hE (runs_plain rfl) (Gives.p hE rfl) rfl ?_; clear hE a; intro a hE
 refine WL.vS hS hE (runs_plain rfl) (Gives.len hE rfl sl97) rfl ?_; clear hE a; intro a hE
 refine WL.vS hS hE (runs_plain rfl) (Gives.p hE rfl) rfl ?_; clear hE a; intro a hE
 refine WL.nil ?_
 obtain ⟨q89, hq88, hr⟩ := bindS hr
 refine W.cut (fun a w => ∃ (q99 : List (List MendArc)), ∃ (cs103 : List Value), ∃ (s97 : Sg), s.Le s97 ∧ q99 = q89 ∧ Ev 1 (RL 3 RMendArc) s97 cs103 q99 ∧ q99.length = q77.length ∧ Rep a 128 [(1, .slice a1 x1.length c1), (6, .pointer (some ⟨b86, 0, none⟩))] ∧ St w s97 (pt b86 (.cells #[.pointer (some ⟨b85, 0, none⟩)] 122 (0, 0)) :: pt b85 (.cells #[.slice a71 q69.length c72, .slice a63 x52.last.length c64, .slice a79 q77.length c80] 127 (0, 0)) :: vecC 97 1 a79 c80 q77.length cs103 :: vecC 3 1 a71 c72 q69.length cs74 :: R)) ?_ ?_
 ·refine W.block ?_
  refine W.loop (fun m a w => ∃ (rest92 : List MendArc) (k90 : Nat), ∃ (q99 : List (List MendArc)), ∃ (cs103 : List Value), ∃ (s97 : Sg), rest92.length = m ∧ x1.drop k90 = rest92 ∧ s.Le s97 ∧ MendSolverwith.loop1 rest92 q99 = some q89 ∧ Ev 1 (RL 3 RMendArc) s97 cs103 q99 ∧ q99.length = q77.length ∧ Rep a 128 [(1, .slice a1 x1.length c1), (6, .pointer (some ⟨b86, 0, none⟩)), (36, .slice a1 x1.length c1), (37, .int .i64 ((x1).length : Int)), (38, .int .i64 ((k90 : Nat) : Int))] ∧ St w s97 (pt b86 (.cells #[.pointer (some ⟨b85, 0, none⟩)] 122 (0, 0)) :: pt b85 (.cells #[.slice a71 q69.length c72, .slice a63 x52.last.length c64, .slice a79 q77.length c80] 127 (0, 0)) :: vecC 97 1 a79 c80 q77.length cs103 :: vecC 3 1 a71 c72 q69.length cs74 :: R)) (m := x1.length) ⟨x1, 0, q77, cs82, s, rfl, rfl, (Sg.Le.refl _), hq88, h83, rfl, hE.pick _ ⟨rfl, rfl, rfl, rfl, rfl, trivial⟩, hS⟩ ?_
  clear hE hS a w hq88; rintro m96 a w ⟨rest92, k90, q99, cs103, s97, rfl, hd93, hle98, hq88, h102, hn104, hE, hS⟩
  refine W.gen fun K105 hK105 => ?_
  replace h1 := Sl.mono RMendArc.mono hle98 h1
  replace h65 := Sl.mono RI.mono hle98 h65
  replace h83 := Ev.mono (RL.mono RMendArc.mono) hle98 h83
  replace h75 := Ev.mono RI.mono hle98 h75
  rcases rest92 with _ | ⟨x91, rest92⟩
  ·have hlt94 := drop_nil hd93
   refine W.seq (W.region ?_)
   refine WL.vS hS hE (runs_plain rfl) (Gives.p hE rfl) rfl ?_; clear hE a; intro a hE
   refine WL.nil ?_
   refine W.seq ?_
   refine W.condF hE rfl (decide_eq_false (by omega)) ?_
   subst hK105
   refine W.exit rfl ?_
   exact ⟨q99, cs103, s97, hle98, Option.some.inj hq88, h102, hn104, hE.pick _ ⟨rfl, rfl, trivial⟩, hS⟩
  ·obtain ⟨hlt94, hx95, hd93⟩ := drop_cons hd93
   rw [MendSolverwith.loop1] at hq88
   refine W.seq (W.region ?_)
   refine WL.vS hS hE (runs_plain rfl) (Gives.p hE rfl) rfl ?_; clear hE a; intro a hE
   refine WL.nil ?_
   refine W.seq ?_
   refine W.condT hE rfl (decide_eq_true (by omega)) ?_
   refine W.skip ?_
   refine W.seq ?_
   refine W.block ?_
   refine W.seq (W.region ?_)
   obtain ⟨cs106, hl107, hR108, hat109⟩ := h1.at hx95
   subst hR108
   refine WL.vS hS hE (runs_plain rfl) (Gives.idx hE k90 rfl rfl sl97 rfl hlt94 (h1.aok hlt94)) rfl ?_; clear hE a; intro a hE
   refine WL.vS hS hE (runs_plain rfl) (Gives.loadA hE rfl (fun w h => hat109 w _ h) ty144) rfl ?_; clear hE a; intro a hE
   refine WL.alloc hE hS (runs_plain rfl) zr144 rfl ?_; clear hE hS a w; intro b110 a w hE hS
   refine WL.storeI hE hS 0 rfl (MendArc.cells x91) (runs_plain rfl) rfl rfl rfl ty144 rfl rfl rfl rfl ?_; clear hE hS a w; intro a w hE hS
   refine WL.nil ?_
   refine W.gen fun K111 hK111 => ?_
   refine W.regionE (sel (fun w => St w s97 (pt b110 (.cells (MendArc.cells x91).toArray 144 (0, 0)) :: pt b86 (.cells #[.pointer (some ⟨b85, 0, none⟩)] 122 (0, 0)) :: pt b85 (.cells #[.slice a71 q69.length c72, .slice a63 x52.last.length c64, .slice a79 q77.length c80] 127 (0, 0)) :: vecC 97 1 a79 c80 q77.length cs103 :: vecC 3 1 a71 c72 q69.length cs74 :: R)) (fun w => St w s97 (pt b110 (.cells (MendArc.cells x91).toArray 144 (0, 0)) :: pt b86 (.cells #[.pointer (some ⟨b85, 0, none⟩)] 122 (0, 0)) :: pt b85 (.cells #[.slice a71 q69.length c72, .slice a63 x52.last.length c64, .slice a79 q77.length c80] 127 (0, 0)) :: vecC 3 1 a71 c72 q69.length cs74 :: R))) (fun b i => cond b ([0, 1, 2, 3, 4, 5, 6, 7, 8, 9, 10, 11, 12, 13, 14, 15, 16, 17, 18].contains i) ([0, 1, 2, 3, 4, 5, 6, 7, 8, 9, 10, 11, 12, 13, 14, 15, 16, 17, 18, 19].contains i)) mixed ?_
   replace hS := hS.drew
   have hT := tw_sel (A := fun w => St w s97 (pt b110 (.cells (MendArc.cells x91).toArray 144 (0, 0)) :: pt b86 (.cells #[.pointer (some ⟨b85, 0, none⟩)] 122 (0, 0)) :: pt b85 (.cells #[.slice a71 q69.length c72, .slice a63 x52.last.length c64, .slice a79 q77.length c80] 127 (0, 0)) :: vecC 97 1 a79 c80 q77.length cs103 :: vecC 3 1 a71 c72 q69.length cs74 :: R)) (B := fun w => St w s97 (pt b110 (.cells (MendArc.cells x91).toArray 144 (0, 0)) :: pt b86 (.cells #[.pointer (some ⟨b85, 0, none⟩)] 122 (0, 0)) :: pt b85 (.cells #[.slice a71 q69.length c72, .slice a63 x52.last.length c64, .slice a79 q77.length c80] 127 (0, 0)) :: vecC 3 1 a71 c72 q69.length cs74 :: R)) (w := _) (x := true) (y := true) (fun _ => hS) (fun _ => (hS.dropAt 3))
   have hF := hS; replace hS := hS
   refine Rg.take (i := 0) true rfl hE rfl (by kernel_rfl) (runs_plain rfl) (Gives.loadB hE 1 rfl rfl rfl ty122) rfl hT ?_; clear hE a; intro a hE
   replace hS := hF; clear hF hT
   have hT := tw_sel (A := fun w => St w s97 (pt b110 (.cells (MendArc.cells x91).toArray 144 (0, 0)) :: pt b86 (.cells #[.pointer (some ⟨b85, 0, none⟩)] 122 (0, 0)) :: pt b85 (.cells #[.slice a71 q69.length c72, .slice a63 x52.last.length c64, .slice a79 q77.length c80] 127 (0, 0)) :: vecC 97 1 a79 c80 q77.length cs103 :: vecC 3 1 a71 c72 q69.length cs74 :: R)) (B := fun w => St w s97 (pt b110 (.cells (MendArc.cells x91).toArray 144 (0, 0)) :: pt b86 (.cells #[.pointer (some ⟨b85, 0, none⟩)] 122 (0, 0)) :: pt b85 (.cells #[.slice a71 q69.length c72, .slice a63 x52.last.length c64, .slice a79 q77.length c80] 127 (0, 0)) :: vecC 3 1 a71 c72 q69.length cs74 :: R)) (w := _) (x := true) (y := true) (fun _ => hS) (fun _ => (hS.dropAt 3))
   have hF := hS; replace hS := hS
   refine Rg.take (i := 1) true rfl hE rfl (by kernel_rfl) (runs_plain rfl) (Gives.nilOk hE rfl) rfl hT ?_; clear hE a; intro a hE
   replace hS := hF; clear hF hT
   refine Rg.takeP (i := 2) hE rfl (by kernel_rfl) (runs_plain rfl) (Gives.fld hE rfl fl127_2) rfl (tw_sel (fun _ => hS) (fun _ => (hS.dropAt 3))) ?_; clear hE a; intro a hE
   have hT := tw_sel (A := fun w => St w s97 (pt b110 (.cells (MendArc.cells x91).toArray 144 (0, 0)) :: pt b86 (.cells #[.pointer (some ⟨b85, 0, none⟩)] 122 (0, 0)) :: pt b85 (.cells #[.slice a71 q69.length c72, .slice a63 x52.last.length c64, .slice a79 q77.length c80] 127 (0, 0)) :: vecC 97 1 a79 c80 q77.length cs103 :: vecC 3 1 a71 c72 q69.length cs74 :: R)) (B := fun w => St w s97 (pt b110 (.cells (MendArc.cells x91).toArray 144 (0, 0)) :: pt b86 (.cells #[.pointer (some ⟨b85, 0, none⟩)] 122 (0, 0)) :: pt b85 (.cells #[.slice a71 q69.length c72, .slice a63 x52.last.length c64, .slice a79 q77.length c80] 127 (0, 0)) :: vecC 3 1 a71 c72 q69.length cs74 :: R)) (w := _) (x := true) (y := true) (fun _ => hS) (fun _ => (hS.dropAt 3))
   have hF := hS; replace hS := hS
   refine Rg.take (i := 3) true rfl hE rfl (by kernel_rfl) (runs_plain rfl) (Gives.loadB hE 2 rfl rfl rfl ty125) rfl hT ?_; clear hE a; intro a hE
   replace hS := hF; clear hF hT
   refine Rg.takeP (i := 4) hE rfl (by kernel_rfl) (runs_plain rfl) (Gives.fld hE rfl fl144_0) rfl (tw_sel (fun _ => hS) (fun _ => (hS.dropAt 3))) ?_; clear hE a; intro a hE
   have hT := tw_sel (A := fun w => St w s97 (pt b110 (.cells (MendArc.cells x91).toArray 144 (0, 0)) :: pt b86 (.cells #[.pointer (some ⟨b85, 0, none⟩)] 122 (0, 0)) :: pt b85 (.cells #[.slice a71 q69.length c72, .slice a63 x52.last.length c64, .slice a79 q77.length c80] 127 (0, 0)) :: vecC 97 1 a79 c80 q77.length cs103 :: vecC 3 1 a71 c72 q69.length cs74 :: R)) (B := fun w => St w s97 (pt b110 (.cells (MendArc.cells x91).toArray 144 (0, 0)) :: pt b86 (.cells #[.pointer (some ⟨b85, 0, none⟩)] 122 (0, 0)) :: pt b85 (.cells #[.slice a71 q69.length c72, .slice a63 x52.last.length c64, .slice a79 q77.length c80] 127 (0, 0)) :: vecC 3 1 a71 c72 q69.length cs74 :: R)) (w := _) (x := true) (y := true) (fun _ => hS) (fun _ => (hS.dropAt 3))
   have hF := hS; replace hS := hS
   refine Rg.take (i := 5) true rfl hE rfl (by kernel_rfl) (runs_plain rfl) (Gives.loadB hE 0 rfl rfl rfl ty3) rfl hT ?_; clear hE a; intro a hE
   replace hS := hF; clear hF hT
   have hT := tw_sel (A := fun w => St w s97 (pt b110 (.cells (MendArc.cells x91).toArray 144 (0, 0)) :: pt b86 (.cells #[.pointer (some ⟨b85, 0, none⟩)] 122 (0, 0)) :: pt b85 (.cells #[.slice a71 q69.length c72, .slice a63 x52.last.length c64, .slice a79 q77.length c80] 127 (0, 0)) :: vecC 97 1 a79 c80 q77.length cs103 :: vecC 3 1 a71 c72 q69.length cs74 :: R)) (B := fun w => St w s97 (pt b110 (.cells (MendArc.cells x91).toArray 144 (0, 0)) :: pt b86 (.cells #[.pointer (some ⟨b85, 0, none⟩)] 122 (0, 0)) :: pt b85 (.cells #[.slice a71 q69.length c72, .slice a63 x52.last.length c64, .slice a79 q77.length c80] 127 (0, 0)) :: vecC 3 1 a71 c72 q69.length cs74 :: R)) (w := _) (x := true) (y := true) (fun _ => hS) (fun _ => (hS.dropAt 3))
   have hF := hS; replace hS := hS
   refine Rg.take (i := 6) true rfl hE rfl (by kernel_rfl) (runs_plain rfl) (Gives.loadB hE 1 rfl rfl rfl ty122) rfl hT ?_; clear hE a; intro a hE
   replace hS := hF; clear hF hT
   have hT := tw_sel (A := fun w => St w s97 (pt b110 (.cells (MendArc.cells x91).toArray 144 (0, 0)) :: pt b86 (.cells #[.pointer (some ⟨b85, 0, none⟩)] 122 (0, 0)) :: pt b85 (.cells #[.slice a71 q69.length c72, .slice a63 x52.last.length c64, .slice a79 q77.length c80] 127 (0, 0)) :: vecC 97 1 a79 c80 q77.length cs103 :: vecC 3 1 a71 c72 q69.length cs74 :: R)) (B := fun w => St w s97 (pt b110 (.cells (MendArc.cells x91).toArray 144 (0, 0)) :: pt b86 (.cells #[.pointer (some ⟨b85, 0, none⟩)] 122 (0, 0)) :: pt b85 (.cells #[.slice a71 q69.length c72, .slice a63 x52.last.length c64, .slice a79 q77.length c80] 127 (0, 0)) :: vecC 3 1 a71 c72 q69.length cs74 :: R)) (w := _) (x := true) (y := true) (fun _ => hS) (fun _ => (hS.dropAt 3))
   have hF := hS; replace hS := hS
   refine Rg.take (i := 7) true rfl hE rfl (by kernel_rfl) (runs_plain rfl) (Gives.nilOk hE rfl) rfl hT ?_; clear hE a; intro a hE
   replace hS := hF; clear hF hT
   refine Rg.takeP (i := 8) hE rfl (by kernel_rfl) (runs_plain rfl) (Gives.fld hE rfl fl127_2) rfl (tw_sel (fun _ => hS) (fun _ => (hS.dropAt 3))) ?_; clear hE a; intro a hE
   have hT := tw_sel (A := fun w => St w s97 (pt b110 (.cells (MendArc.cells x91).toArray 144 (0, 0)) :: pt b86 (.cells #[.pointer (some ⟨b85, 0, none⟩)] 122 (0, 0)) :: pt b85 (.cells #[.slice a71 q69.length c72, .slice a63 x52.last.length c64, .slice a79 q77.length c80] 127 (0, 0)) :: vecC 97 1 a79 c80 q77.length cs103 :: vecC 3 1 a71 c72 q69.length cs74 :: R)) (B := fun w => St w s97 (pt b110 (.cells (MendArc.cells x91).toArray 144 (0, 0)) :: pt b86 (.cells #[.pointer (some ⟨b85, 0, none⟩)] 122 (0, 0)) :: pt b85 (.cells #[.slice a71 q69.length c72, .slice a63 x52.last.length c64, .slice a79 q77.length c80] 127 (0, 0)) :: vecC 3 1 a71 c72 q69.length cs74 :: R)) (w := _) (x := true) (y := true) (fun _ => hS) (fun _ => (hS.dropAt 3))
   have hF := hS; replace hS := hS
   refine Rg.take (i := 9) true rfl hE rfl (by kernel_rfl) (runs_plain rfl) (Gives.loadB hE 2 rfl rfl rfl ty125) rfl hT ?_; clear hE a; intro a hE
   replace hS := hF; clear hF hT
   refine Rg.takeP (i := 10) hE rfl (by kernel_rfl) (runs_plain rfl) (Gives.fld hE rfl fl144_0) rfl (tw_sel (fun _ => hS) (fun _ => (hS.dropAt 3))) ?_; clear hE a; intro a hE
   have hT := tw_sel (A := fun w => St w s97 (pt b110 (.cells (MendArc.cells x91).toArray 144 (0, 0)) :: pt b86 (.cells #[.pointer (some ⟨b85, 0, none⟩)] 122 (0, 0)) :: pt b85 (.cells #[.slice a71 q69.length c72, .slice a63 x52.last.length c64, .slice a79 q77.length c80] 127 (0, 0)) :: vecC 97 1 a79 c80 q77.length cs103 :: vecC 3 1 a71 c72 q69.length cs74 :: R)) (B := fun w => St w s97 (pt b110 (.cells (MendArc.cells x91).toArray 144 (0, 0)) :: pt b86 (.cells #[.pointer (some ⟨b85, 0, none⟩)] 122 (0, 0)) :: pt b85 (.cells #[.slice a71 q69.length c72, .slice a63 x52.last.length c64, .slice a79 q77.length c80] 127 (0, 0)) :: vecC 3 1 a71 c72 q69.length cs74 :: R)) (w := _) (x := true) (y := true) (fun _ => hS) (fun _ => (hS.dropAt 3))
   have hF := hS; replace hS := hS
   refine Rg.take (i := 11) true rfl hE rfl (by kernel_rfl) (runs_plain rfl) (Gives.loadB hE 0 rfl rfl rfl ty3) rfl hT ?_; clear hE a; intro a hE
   replace hS := hF; clear hF hT
   obtain ⟨x112, hx113, hq88⟩ := bindS hq88
   obtain ⟨hi114, hlt115, hy116⟩ := gx_some hx113
   obtain ⟨vs117, hl118, hR119, hd120, hget121⟩ := h102.at hy116
   obtain ⟨a122, c123, rfl, h124⟩ := hR119
   refine Rg.takeP (i := 12) hE rfl (by kernel_rfl) (runs_plain rfl) (Gives.idx hE ((x91.From).toNat) rfl rfl sl125 hi114 (by have := hn104; omega) (hS.vecAok 3 rfl (by have := hn104; omega : (x91.From).toNat < q77.length))) rfl (tw_sel (fun _ => hS) (fun _ => (hS.dropAt 3))) ?_; clear hE a; intro a hE
   have hT := tw_sel (A := fun w => St w s97 (pt b110 (.cells (MendArc.cells x91).toArray 144 (0, 0)) :: pt b86 (.cells #[.pointer (some ⟨b85, 0, none⟩)] 122 (0, 0)) :: pt b85 (.cells #[.slice a71 q69.length c72, .slice a63 x52.last.length c64, .slice a79 q77.length c80] 127 (0, 0)) :: vecC 97 1 a79 c80 q77.length cs103 :: vecC 3 1 a71 c72 q69.length cs74 :: R)) (B := fun w => St w s97 (pt b110 (.cells (MendArc.cells x91).toArray 144 (0, 0)) :: pt b86 (.cells #[.pointer (some ⟨b85, 0, none⟩)] 122 (0, 0)) :: pt b85 (.cells #[.slice a71 q69.length c72, .slice a63 x52.last.length c64, .slice a79 q77.length c80] 127 (0, 0)) :: vecC 3 1 a71 c72 q69.length cs74 :: R)) (w := _) (x := true) (y := true) (fun _ => hS) (fun _ => (hS.dropAt 3))
   have hF := hS; replace hS := hS
   refine Rg.take (i := 13) true rfl hE rfl (by kernel_rfl) (runs_plain rfl) (Gives.load1 hE rfl (fun w h => St.vecSees h 3 rfl ((x91.From).toNat * 1) _ hget121) ty97) rfl hT ?_; clear hE a; intro a hE
   replace hS := hF; clear hF hT
   have hT := tw_sel (A := fun w => St w s97 (pt b110 (.cells (MendArc.cells x91).toArray 144 (0, 0)) :: pt b86 (.cells #[.pointer (some ⟨b85, 0, none⟩)] 122 (0, 0)) :: pt b85 (.cells #[.slice a71 q69.length c72, .slice a63 x52.last.length c64, .slice a79 q77.length c80] 127 (0, 0)) :: vecC 97 1 a79 c80 q77.length cs103 :: vecC 3 1 a71 c72 q69.length cs74 :: R)) (B := fun w => St w s97 (pt b110 (.cells (MendArc.cells x91).toArray 144 (0, 0)) :: pt b86 (.cells #[.pointer (some ⟨b85, 0, none⟩)] 122 (0, 0)) :: pt b85 (.cells #[.slice a71 q69.length c72, .slice a63 x52.last.length c64, .slice a79 q77.length c80] 127 (0, 0)) :: vecC 3 1 a71 c72 q69.length cs74 :: R)) (w := _) (x := true) (y := true) (fun _ => hS) (fun _ => (hS.dropAt 3))
   have hF := hS; replace hS := hS
   refine Rg.take (i := 15) true rfl hE rfl (by kernel_rfl) (runs_plain rfl) (Gives.loadBA hE 0 rfl rfl ty144) rfl hT ?_; clear hE a; intro a hE
   replace hS := hF; clear hF hT
   obtain ⟨q125, hq126, hq88⟩ := bindS hq88
   obtain ⟨x134, hx135, hq88⟩ := bindS hq88
   obtain ⟨_, hx141, hq88⟩ := bindS hq88
   obtain ⟨x148, hx149, hq88⟩ := bindS hq88
   suffices key : ∀ s145 cs150 (a : Act) (w : World), s97.Le s145 → Sl 3 RMendArc s145 a1 c1 x1 → Sl 1 (RI .i64) s145 a63 c64 x52.last → Ev 1 (RL 3 RMendArc) s145 cs150 x148 → (x148).length = q77.length → Ev 1 (RI .i64) s145 cs74 q69 → Rep a 128 [(1, .slice a1 x1.length c1), (6, .pointer (some ⟨b86, 0, none⟩)), (36, .slice a1 x1.length c1), (37, .int .i64 ((x1).length : Int)), (38, .int .i64 ((k90 : Nat) : Int))] → St w s145 (pt b110 (.cells (MendArc.cells x91).toArray 144 (0, 0)) :: pt b86 (.cells #[.pointer (some ⟨b85, 0, none⟩)] 122 (0, 0)) :: pt b85 (.cells #[.slice a71 q69.length c72, .slice a63 x52.last.length c64, .slice a79 q77.length c80] 127 (0, 0)) :: vecC 97 1 a79 c80 q77.length cs150 :: vecC 3 1 a71 c72 q69.length cs74 :: R) → K111.nor a w by
    refine Rg.many 14 [16] (by kernel_rfl) ⟨?_, ?_, trivial⟩
    ·refine Br.mk (i := 14) true true rfl (by kernel_rfl) (by kernel_rfl) ?_
     have hc_ := SlicesCloneLmendArc_ok hS h124 hq126
     refine WL.fnq hE (hc_) (runs_plain rfl) bd97 rfl rfl rfl ?_
     clear hE hS hc_; rintro e w ⟨a127, c128, n129, cs130, rfl, h131, rfl, hS⟩; refine ⟨_, rfl, ?_⟩; clear a; intro a hE
     refine WL.nil ?_
     refine ⟨⟨fun _ => (hS.tail), fun _ => ((hS.tail).dropAt 3)⟩, ?_⟩
     refine Rg.one (i := 16) true true rfl (by kernel_rfl) (by kernel_rfl) (by kernel_rfl) ?_
     refine WL.lit hE hS (e := 144) (es := 3) (vs := [(0, .agg (MendArc.cells x91).toArray)]) (cs := [.int .i64 x91.From, .int .i64 x91.To, .int .i64 x91.Len]) (runs_plain rfl) rfl (by kernel_rfl) rfl ?_; clear hE hS a w; intro b133 a w hE hS
     refine WL.nil ?_
     refine ⟨⟨fun _ => ((hS.tail).tail), fun _ => (((hS.tail).tail).dropAt 3)⟩, ?_⟩
     refine Rg.one (i := 17) true true rfl (by kernel_rfl) (by kernel_rfl) (by kernel_rfl) ?_
     refine WL.appD hE hS 0 (m := 1) (runs_plain rfl) rfl rfl rfl ap97 rfl h131 rfl (xs := [x91]) (Ev.cons (c1 := [.int .i64 x91.From, .int .i64 x91.To, .int .i64 x91.Len]) rfl rfl (Ev.nil)) rfl rfl hx135 rfl ?_; clear hE hS a w; intro a136 c137 cs138 a w h139 hE hS
     refine WL.nil ?_
     refine ⟨⟨fun _ => (hS.tail), fun _ => ((hS.tail).dropAt 3)⟩, ?_⟩
     obtain ⟨h142, h143⟩ := ix_some hx141
     refine Rg.takeP (i := 18) hE rfl (by kernel_rfl) (runs_plain rfl) (Gives.idx hE ((x91.From).toNat) rfl rfl sl125 h142 (by have := hn104; omega) (hS.vecAok 4 rfl (by have := hn104; omega : (x91.From).toNat < q77.length))) rfl (tw_sel (fun _ => (hS.tail)) (fun _ => ((hS.tail).dropAt 3))) ?_; clear hE a; intro a hE
     refine Rg.one (i := 19) false true rfl (by kernel_rfl) (by kernel_rfl) (by kernel_rfl) ?_
     have hF := hS.fixD RMendArc.mono 0 rfl h139 (rfl); clear hS; obtain ⟨s145, hle146, hS, h147⟩ := hF
     replace h1 := Sl.mono RMendArc.mono hle146 h1
     replace h124 := Sl.mono RMendArc.mono hle146 h124
     replace h65 := Sl.mono RI.mono hle146 h65
     replace h102 := Ev.mono (RL.mono RMendArc.mono) hle146 h102
     replace h75 := Ev.mono RI.mono hle146 h75
     refine WL.setD hE hS 3 rfl (runs_plain rfl) rfl rfl (vs := [.slice a136 x134.length c137]) rfl ty97 rfl rfl rfl h102 hn104 (sx_some hx149).1 hx149 ⟨_, _, rfl, h147⟩ rfl ?_; clear hE hS a w; intro cs150 a w h151 hn152 hE hS
     refine WL.nil ?_
     refine ⟨⟨fun h => absurd h (by decide), fun _ => (St.down hle146 (hS.dropAt 3))⟩, ?_⟩
     refine Rg.done (by kernel_rfl) ?_
     exact key _ _ _ _ hle146 h1 h65 h151 hn152 h75 (hE.pick _ ⟨rfl, rfl, rfl, rfl, rfl, trivial⟩) hS
    ·refine Br.mk (i := 16) true true rfl (by kernel_rfl) (by kernel_rfl) ?_
     refine WL.lit hE hS (e := 144) (es := 3) (vs := [(0, .agg (MendArc.cells x91).toArray)]) (cs := [.int .i64 x91.From, .int .i64 x91.To, .int .i64 x91.Len]) (runs_plain rfl) rfl (by kernel_rfl) rfl ?_; clear hE hS a w; intro b133 a w hE hS
     refine WL.nil ?_
     refine ⟨⟨fun _ => (hS.tail), fun _ => ((hS.tail).dropAt 3)⟩, ?_⟩
     refine Rg.one (i := 14) true true rfl (by kernel_rfl) (by kernel_rfl) (by kernel_rfl) ?_
     have hc_ := SlicesCloneLmendArc_ok hS h124 hq126
     refine WL.fnq hE (hc_) (runs_plain rfl) bd97 rfl rfl rfl ?_
     clear hE hS hc_; rintro e w ⟨a127, c128, n129, cs130, rfl, h131, rfl, hS⟩; refine ⟨_, rfl, ?_⟩; clear a; intro a hE
     refine WL.nil ?_
     refine ⟨⟨fun _ => ((hS.tail).tail), fun _ => (((hS.tail).tail).dropAt 3)⟩, ?_⟩
     refine Rg.one (i := 17) true true rfl (by kernel_rfl) (by kernel_rfl) (by kernel_rfl) ?_
     replace hS := hS.front 1 rfl
     refine WL.appD hE hS 0 (m := 1) (runs_plain rfl) rfl rfl rfl ap97 rfl h131 rfl (xs := [x91]) (Ev.cons (c1 := [.int .i64 x91.From, .int .i64 x91.To, .int .i64 x91.Len]) rfl rfl (Ev.nil)) rfl rfl hx135 rfl ?_; clear hE hS a w; intro a136 c137 cs138 a w h139 hE hS
     refine WL.nil ?_
     refine ⟨⟨fun _ => (hS.tail), fun _ => ((hS.tail).dropAt 3)⟩, ?_⟩
     obtain ⟨h142, h143⟩ := ix_some hx141
     refine Rg.takeP (i := 18) hE rfl (by kernel_rfl) (runs_plain rfl) (Gives.idx hE ((x91.From).toNat) rfl rfl sl125 h142 (by have := hn104; omega) (hS.vecAok 4 rfl (by have := hn104; omega : (x91.From).toNat < q77.length))) rfl (tw_sel (fun _ => (hS.tail)) (fun _ => ((hS.tail).dropAt 3))) ?_; clear hE a; intro a hE
     refine Rg.one (i := 19) false true rfl (by kernel_rfl) (by kernel_rfl) (by kernel_rfl) ?_
     have hF := hS.fixD RMendArc.mono 0 rfl h139 (rfl); clear hS; obtain ⟨s145, hle146, hS, h147⟩ := hF
     replace h1 := Sl.mono RMendArc.mono hle146 h1
     replace h124 := Sl.mono RMendArc.mono hle146 h124
     replace h65 := Sl.mono RI.mono hle146 h65
     replace h102 := Ev.mono (RL.mono RMendArc.mono) hle146 h102
     replace h75 := Ev.mono RI.mono hle146 h75
     refine WL.setD hE hS 3 rfl (runs_plain rfl) rfl rfl (vs := [.slice a136 x134.length c137]) rfl ty97 rfl rfl rfl h102 hn104 (sx_some hx149).1 hx149 ⟨_, _, rfl, h147⟩ rfl ?_; clear hE hS a w; intro cs150 a w h151 hn152 hE hS
     refine WL.nil ?_
     refine ⟨⟨fun h => absurd h (by decide), fun _ => (St.down hle146 (hS.dropAt 3))⟩, ?_⟩
     refine Rg.done (by kernel_rfl) ?_
     exact key _ _ _ _ hle146 h1 h65 h151 hn152 h75 (hE.pick _ ⟨rfl, rfl, rfl, rfl, rfl, trivial⟩) hS
   clear hE hS a w; intro s145 cs150 a w hle153 h1 h65 h151 hn152 h75 hE hS
   subst hK111
   refine W.region ?_
   refine WL.vS hS hE (runs_plain rfl) (Gives.inc hE rfl (by have := h1.small; omega)) rfl ?_; clear hE a; intro a hE
   refine WL.vS hS hE (runs_plain rfl) (Gives.p hE rfl) rfl ?_; clear hE a; intro a hE
   refine WL.nil ?_
   replace hS := hS.tail
   subst hK105
   exact ⟨rest92.length, Nat.lt_succ_self _, rest92, k90 + 1, x148, cs150, s145, rfl, hd93, (Sg.Le.trans hle98 hle153), hq88, h151, hn152, hE.pick _ ⟨rfl, rfl, rfl, rfl, rfl, trivial⟩, hS⟩
 ·clear hE hS a w; rintro a w ⟨q99, cs103, s97, hle98, rfl, h102, hn104, hE, hS⟩
  replace h1 := Sl.mono RMendArc.mono hle98 h1
  replace h65 := Sl.mono RI.mono hle98 h65
  replace h83 := Ev.mono (RL.mono RMendArc.mono) hle98 h83
  replace h75 := Ev.mono RI.mono hle98 h75
  refine W.seq (W.region ?_)
  refine WL.vS hS hE (runs_plain rfl) (Gives.loadB hE 0 rfl rfl rfl ty122) rfl ?_; clear hE a; intro a hE
  refine WL.vS hS hE (runs_plain rfl) (Gives.nilOk hE rfl) rfl ?_; clear hE a; intro a hE
  refine WL.vS hS hE (runs_plain rfl) (Gives.fld hE rfl fl127_0) rfl ?_; clear hE a; intro a hE
  refine WL.vS hS hE (runs_plain rfl) (Gives.loadB hE 1 rfl rfl rfl ty29) rfl ?_; clear hE a; intro a hE
  refine WL.vS hS hE (runs_plain rfl) (Gives.len hE rfl sl29) rfl ?_; clear hE a; intro a hE
  obtain ⟨x154, hx155, hr⟩ := bindS hr
  refine WL.mkD (Rr := RB) hE hS (runs_plain rfl) rfl rfl ap71 zr4 rfl hx155 rfl ?_; clear hE hS a w; intro b156 cs157 a w h158 hE hS
  refine WL.alloc hE hS (runs_plain rfl) zr71 rfl ?_; clear hE hS a w; intro b160 a w hE hS
  refine WL.storeI hE hS 0 rfl [.slice (some ⟨b156, 0, none⟩) x154.length x154.length] (runs_plain rfl) rfl rfl rfl ty71 rfl rfl rfl rfl ?_; clear hE hS a w; intro a w hE hS
  refine WL.nil ?_
  refine W.seq (W.region ?_)
  refine WL.vS hS hE (runs_plain rfl) (Gives.loadB hE 2 rfl rfl rfl ty122) rfl ?_; clear hE a; intro a hE
  refine WL.vS hS hE (runs_plain rfl) (Gives.nilOk hE rfl) rfl ?_; clear hE a; intro a hE
  refine WL.vS hS hE (runs_plain rfl) (Gives.fld hE rfl fl127_0) rfl ?_; clear hE a; intro a hE
  refine WL.vS hS hE (runs_plain rfl) (Gives.loadB hE 3 rfl rfl rfl ty29) rfl ?_; clear hE a; intro a hE
  refine WL.vS hS hE (runs_plain rfl) (Gives.len hE rfl sl29) rfl ?_; clear hE a; intro a hE
  obtain ⟨x161, hx162, hr⟩ := bindS hr
  refine WL.mkD (Rr := RI .i64) hE hS (runs_plain rfl) rfl rfl ap29 zr3 rfl hx162 rfl ?_; clear hE hS a w; intro b163 cs164 a w h165 hE hS
  refine WL.alloc hE hS (runs_plain rfl) zr29 rfl ?_; clear hE hS a w; intro b167 a w hE hS
  refine WL.storeI hE hS 0 rfl [.slice (some ⟨b163, 0, none⟩) x161.length x161.length] (runs_plain rfl) rfl rfl rfl ty29 rfl rfl rfl rfl ?_; clear hE hS a w; intro a w hE hS
  refine WL.nil ?_
  refine W.seq (W.region ?_)
  refine WL.alloc hE hS (runs_plain rfl) zr29 rfl ?_; clear hE hS a w; intro b168 a w hE hS
  refine WL.nil ?_
  refine W.seq (W.region ?_)
  refine WL.alloc hE hS (runs_plain rfl) zr4 rfl ?_; clear hE hS a w; intro b169 a w hE hS
  refine WL.storeI hE hS 0 rfl [.bool true] (runs_plain rfl) rfl rfl rfl ty4 rfl rfl rfl rfl ?_; clear hE hS a w; intro a w hE hS
  refine WL.nil ?_
  refine W.seq (W.region ?_)
  replace hS := hS.vecNil 3 1
  refine WL.vS hS hE (runs_plain rfl) (Gives.mkfn hE (vs := [.pointer (some ⟨b86, 0, none⟩), .pointer (some ⟨b167, 0, none⟩), .pointer (some ⟨b169, 0, none⟩), .pointer (some ⟨b160, 0, none⟩), .pointer (some ⟨b168, 0, none⟩)]) rfl) rfl ?_; clear hE a; intro a hE
  refine WL.vS hS hE (runs_plain rfl) (Gives.p hE rfl) rfl ?_; clear hE a; intro a hE
  refine WL.nil ?_
  refine W.seq ?_
  refine W.seq (W.region ?_)
  refine WL.vS hS hE (runs_plain rfl) (Gives.p hE rfl) rfl ?_; clear hE a; intro a hE
  refine WL.vS hS hE (runs_plain rfl) (Gives.len hE rfl sl97) rfl ?_; clear hE a; intro a hE
  refine WL.vS hS hE (runs_plain rfl) (Gives.p hE rfl) rfl ?_; clear hE a; intro a hE
  refine WL.nil ?_
  obtain ⟨q172, hq171, hr⟩ := bindS hr
  refine W.cut (fun a w => ∃ (q182 : List Bool), ∃ (q188 : List Int), ∃ (q194 : List Int), ∃ (q200 : List Int), ∃ (q207 : Bool), ∃ (cs186 : List Value), ∃ (cs192 : List Value), ∃ (cs198 : List Value), ∃ (a201 : Option Addr), ∃ (c202 : Nat), ∃ (n204 : Nat), ∃ (cs205 : List Value), (q182, q188, q194, q200, q207) = q172 ∧ Ev 1 RB s97 cs186 q182 ∧ q182.length = x154.length ∧ Ev 1 (RI .i64) s97 cs192 q188 ∧ q188.length = x161.length ∧ Ev 1 (RI .i64) s97 cs198 q194 ∧ q194.length = q69.length ∧ Ev 1 (RI .i64) s97 cs205 q200 ∧ q200.length = n204 ∧ Rep a 128 [(6, .pointer (some ⟨b86, 0, none⟩)), (9, .pointer (some ⟨b160, 0, none⟩)), (11, .pointer (some ⟨b168, 0, none⟩)), (12, .pointer (some ⟨b169, 0, none⟩)), (13, .func (.func 98) #[] #[.pointer (some ⟨b86, 0, none⟩), .pointer (some ⟨b167, 0, none⟩), .pointer (some ⟨b169, 0, none⟩), .pointer (some ⟨b160, 0, none⟩), .pointer (some ⟨b168, 0, none⟩)])] ∧ St w s97 (vecC 3 1 a201 c202 n204 cs205 :: pt b169 (.cells #[.bool q207] 4 (0, 0)) :: pt b168 (.cells #[.slice a201 n204 c202] 29 (0, 0)) :: pt b167 (.cells #[.slice (some ⟨b163, 0, none⟩) x161.length x161.length] 29 (0, 0)) :: vecC 3 1 (some ⟨b163, 0, none⟩) x161.length x161.length cs192 :: pt b160 (.cells #[.slice (some ⟨b156, 0, none⟩) x154.length x154.length] 71 (0, 0)) :: vecC 4 1 (some ⟨b156, 0, none⟩) x154.length x154.length cs186 :: pt b86 (.cells #[.pointer (some ⟨b85, 0, none⟩)] 122 (0, 0)) :: pt b85 (.cells #[.slice a71 q69.length c72, .slice a63 x52.last.length c64, .slice a79 q77.length c80] 127 (0, 0)) :: vecC 97 1 a79 c80 q77.length cs103 :: vecC 3 1 a71 c72 q69.length cs198 :: R)) ?_ ?_
  ·refine W.block ?_
   refine W.loop (fun m a w => ∃ (rest175 : List MendArc) (k173 : Nat), ∃ (q182 : List Bool), ∃ (q188 : List Int), ∃ (q194 : List Int), ∃ (q200 : List Int), ∃ (q207 : Bool), ∃ (cs186 : List Value), ∃ (cs192 : List Value), ∃ (cs198 : List Value), ∃ (a201 : Option Addr), ∃ (c202 : Nat), ∃ (n204 : Nat), ∃ (cs205 : List Value), rest175.length = m ∧ x1.drop k173 = rest175 ∧ MendSolverwith.loop2 x52 q99 rest175 q182 q188 q194 q200 q207 = some q172 ∧ Ev 1 RB s97 cs186 q182 ∧ q182.length = x154.length ∧ Ev 1 (RI .i64) s97 cs192 q188 ∧ q188.length = x161.length ∧ Ev 1 (RI .i64) s97 cs198 q194 ∧ q194.length = q69.length ∧ Ev 1 (RI .i64) s97 cs205 q200 ∧ q200.length = n204 ∧ Rep a 128 [(6, .pointer (some ⟨b86, 0, none⟩)), (9, .pointer (some ⟨b160, 0, none⟩)), (11, .pointer (some ⟨b168, 0, none⟩)), (12, .pointer (some ⟨b169, 0, none⟩)), (13, .func (.func 98) #[] #[.pointer (some ⟨b86, 0, none⟩), .pointer (some ⟨b167, 0, none⟩), .pointer (some ⟨b169, 0, none⟩), .pointer (some ⟨b160, 0, none⟩), .pointer (some ⟨b168, 0, none⟩)]), (75, .slice a1 x1.length c1), (76, .int .i64 ((x1).length : Int)), (77, .int .i64 ((k173 : Nat) : Int))] ∧ St w s97 (vecC 3 1 a201 c202 n204 cs205 :: pt b169 (.cells #[.bool q207] 4 (0, 0)) :: pt b168 (.cells #[.slice a201 n204 c202] 29 (0, 0)) :: pt b167 (.cells #[.slice (some ⟨b163, 0, none⟩) x161.length x161.length] 29 (0, 0)) :: vecC 3 1 (some ⟨b163, 0, none⟩) x161.length x161.length cs192 :: pt b160 (.cells #[.slice (some ⟨b156, 0, none⟩) x154.length x154.length] 71 (0, 0)) :: vecC 4 1 (some ⟨b156, 0, none⟩) x154.length x154.length cs186 :: pt b86 (.cells #[.pointer (some ⟨b85, 0, none⟩)] 122 (0, 0)) :: pt b85 (.cells #[.slice a71 q69.length c72, .slice a63 x52.last.length c64, .slice a79 q77.length c80] 127 (0, 0)) :: vecC 97 1 a79 c80 q77.length cs103 :: vecC 3 1 a71 c72 q69.length cs198 :: R)) (m := x1.length) ⟨x1, 0, x154, x161, q69, [], true, cs157, cs164, cs74, none, 0, 0, [], rfl, rfl, hq171, h158, (rfl), h165, (rfl), h75, rfl, (Ev.nil), (rfl), hE.pick _ ⟨rfl, rfl, rfl, rfl, rfl, rfl, rfl, rfl, trivial⟩, hS⟩ ?_
   clear hE hS a w hq171; rintro m179 a w ⟨rest175, k173, q182, q188, q194, q200, q207, cs186, cs192, cs198, a201, c202, n204, cs205, rfl, hd176, hq171, h185, hn187, h191, hn193, h197, hn199, h203, rfl, hE, hS⟩
   refine W.gen fun K208 hK208 => ?_
   rcases rest175 with _ | ⟨x174, rest175⟩
   ·have hlt177 := drop_nil hd176
    refine W.seq (W.region ?_)
    refine WL.vS hS hE (runs_plain rfl) (Gives.p hE rfl) rfl ?_; clear hE a; intro a hE
    refine WL.nil ?_
    refine W.seq ?_
    refine W.condF hE rfl (decide_eq_false (by omega)) ?_
    subst hK208
    refine W.exit rfl ?_
    exact ⟨q182, q188, q194, q200, q207, cs186, cs192, cs198, a201, c202, q200.length, cs205, Option.some.inj hq171, h185, hn187, h191, hn193, h197, hn199, h203, rfl, hE.pick _ ⟨rfl, rfl, rfl, rfl, rfl, trivial⟩, hS⟩
   ·obtain ⟨hlt177, hx178, hd176⟩ := drop_cons hd176
    rw [MendSolverwith.loop2] at hq171
    refine W.seq (W.region ?_)
    refine WL.vS hS hE (runs_plain rfl) (Gives.p hE rfl) rfl ?_; clear hE a; intro a hE
    refine WL.nil ?_
    refine W.seq ?_
    refine W.condT hE rfl (decide_eq_true (by omega)) ?_
    refine W.skip ?_
    refine W.seq ?_
    refine W.block ?_
    refine W.seq (W.region ?_)
    obtain ⟨cs209, hl210, hR211, hat212⟩ := h1.at hx178
    subst hR211
    refine WL.vS hS hE (runs_plain rfl) (Gives.idx hE k173 rfl rfl sl97 rfl hlt177 (h1.aok hlt177)) rfl ?_; clear hE a; intro a hE
    refine WL.vS hS hE (runs_plain rfl) (Gives.loadA hE rfl (fun w h => hat212 w _ h) ty144) rfl ?_; clear hE a; intro a hE
    refine WL.alloc hE hS (runs_plain rfl) zr144 rfl ?_; clear hE hS a w; intro b213 a w hE hS
    refine WL.storeI hE hS 0 rfl (MendArc.cells x174) (runs_plain rfl) rfl rfl rfl ty144 rfl rfl rfl rfl ?_; clear hE hS a w; intro a w hE hS
    refine WL.nil ?_
    refine W.region ?_
    refine WL.vS hS hE (runs_plain rfl) (Gives.p hE rfl) rfl ?_; clear hE a; intro a hE
    refine WL.vS hS hE (runs_plain rfl) (Gives.loadBA hE 0 rfl rfl ty144) rfl ?_; clear hE a; intro a hE
    obtain ⟨q214, hq215, hq171⟩ := bindS hq171
    replace hS := hS.front 10 rfl
    replace hS := hS.front 11 rfl
    replace hS := hS.front 3 rfl
    replace hS := hS.front 9 rfl
    replace hS := hS.front 8 rfl
    replace hS := hS.front 11 rfl
    replace hS := hS.front 8 rfl
    replace hS := hS.front 10 rfl
    replace hS := hS.front 9 rfl
    replace hS := hS.front 10 rfl
    replace hS := hS.front 11 rfl
    have hc_ := MendSolverwith_1_v1_ok (y5 := (MendSolver.mk q194 x52.last q99)) hS h191 hn193 h185 hn187 h203 rfl h197 hn199 h65 h102 hn104 hq215
    refine WL.fnw hE (hc_) rfl (runs_plain rfl) bd98 rfl rfl rfl ?_
    clear hE hS hc_; rintro e w ⟨cs216, cs219, cs222, a225, c226, n227, cs228, rfl, h217, hn218, h220, hn221, h223, hn224, h229, rfl, hS⟩; refine ⟨_, rfl, ?_⟩; clear a; intro a hE
    refine WL.nil ?_
    refine W.region ?_
    refine WL.vS hS hE (runs_plain rfl) (Gives.inc hE rfl (by have := h1.small; omega)) rfl ?_; clear hE a; intro a hE
    refine WL.vS hS hE (runs_plain rfl) (Gives.p hE rfl) rfl ?_; clear hE a; intro a hE
    refine WL.nil ?_
    replace hS := hS.dropAt 11
    replace hS := hS.front 9 rfl
    replace hS := hS.front 10 rfl
    replace hS := hS.front 7 rfl
    replace hS := hS.front 3 rfl
    replace hS := hS.front 9 rfl
    replace hS := hS.front 7 rfl
    replace hS := hS.front 9 rfl
    replace hS := hS.front 7 rfl
    replace hS := hS.front 9 rfl
    replace hS := hS.front 9 rfl
    replace hS := hS.front 10 rfl
    subst hK208
    exact ⟨rest175.length, Nat.lt_succ_self _, rest175, k173 + 1, q214.2.1, q214.1, q214.2.2.1, q214.2.2.2.2, q214.2.2.2.1, cs219, cs216, cs222, a225, c226, q214.2.2.2.2.length, cs228, rfl, hd176, hq171, h220, hn221, h217, hn218, h223, hn224, h229, rfl, hE.pick _ ⟨rfl, rfl, rfl, rfl, rfl, rfl, rfl, rfl, trivial⟩, hS⟩
  ·clear hE hS a w; rintro a w ⟨q182, q188, q194, q200, q207, cs186, cs192, cs198, a201, c202, n204, cs205, rfl, h185, hn187, h191, hn193, h197, hn199, h203, rfl, hE, hS⟩
   dsimp only at hr
   refine W.seq (W.region ?_)
   refine WL.vS hS hE (runs_plain rfl) (Gives.loadB hE 7 rfl rfl rfl ty122) rfl ?_; clear hE a; intro a hE
   obtain ⟨q230, hq231, hr⟩ := bindS hr
   replace hS := hS.front 9 rfl
   replace hS := hS.front 10 rfl
   replace hS := hS.front 10 rfl
   have hc_ := MendSolverbound_v1_ok (y0 := (MendSolver.mk q194 x52.last q99)) hS h197 hn199 h65 h102 hn104 hq231
   refine WL.fnq hE (hc_) (runs_plain rfl) bd99 rfl rfl rfl ?_
   clear hE hS hc_; rintro e w ⟨rfl, hS⟩; refine ⟨_, rfl, ?_⟩; clear a; intro a hE
   refine WL.vS hS hE (runs_plain rfl) (Gives.p hE rfl) rfl ?_; clear hE a; intro a hE
   refine WL.nil ?_
   refine W.seq ?_
   obtain ⟨q233, hq232, hr⟩ := bindS hr
   refine W.cut (fun a w => ∃ (q238 : List Bool), ∃ (q244 : List Int), ∃ (q250 : List Int), ∃ (q256 : List Int), ∃ (q263 : Bool), ∃ (cs242 : List Value), ∃ (cs248 : List Value), ∃ (cs254 : List Value), ∃ (a257 : Option Addr), ∃ (c258 : Nat), ∃ (n260 : Nat), ∃ (cs261 : List Value), (.next (q238, q244, q250, q256, q263)) = q233 ∧ Ev 1 RB s97 cs242 q238 ∧ q238.length = x154.length ∧ Ev 1 (RI .i64) s97 cs248 q244 ∧ q244.length = x161.length ∧ Ev 1 (RI .i64) s97 cs254 q250 ∧ q250.length = q69.length ∧ Ev 1 (RI .i64) s97 cs261 q256 ∧ q256.length = n260 ∧ Rep a 128 [(6, .pointer (some ⟨b86, 0, none⟩)), (12, .pointer (some ⟨b169, 0, none⟩))] ∧ St w s97 (pt b85 (.cells #[.slice a71 q69.length c72, .slice a63 x52.last.length c64, .slice a79 q77.length c80] 127 (0, 0)) :: vecC 3 1 a71 c72 q69.length cs254 :: vecC 97 1 a79 c80 q77.length cs103 :: vecC 3 1 a257 c258 n260 cs261 :: pt b169 (.cells #[.bool q263] 4 (0, 0)) :: pt b168 (.cells #[.slice a257 n260 c258] 29 (0, 0)) :: pt b167 (.cells #[.slice (some ⟨b163, 0, none⟩) x161.length x161.length] 29 (0, 0)) :: vecC 3 1 (some ⟨b163, 0, none⟩) x161.length x161.length cs248 :: pt b160 (.cells #[.slice (some ⟨b156, 0, none⟩) x154.length x154.length] 71 (0, 0)) :: vecC 4 1 (some ⟨b156, 0, none⟩) x154.length x154.length cs242 :: pt b86 (.cells #[.pointer (some ⟨b85, 0, none⟩)] 122 (0, 0)) :: R)) ?_ ?_
   ·refine W.block ?_
    refine W.loop (fun m a w => ∃ (n234 : Nat), ∃ (q238 : List Bool), ∃ (q244 : List Int), ∃ (q250 : List Int), ∃ (q256 : List Int), ∃ (q263 : Bool), ∃ (cs242 : List Value), ∃ (cs248 : List Value), ∃ (cs254 : List Value), ∃ (a257 : Option Addr), ∃ (c258 : Nat), ∃ (n260 : Nat), ∃ (cs261 : List Value), n234 = m ∧ MendSolverwith.loop3 x52 q99 q230 n234 q238 q244 q250 q256 q263 = some q233 ∧ Ev 1 RB s97 cs242 q238 ∧ q238.length = x154.length ∧ Ev 1 (RI .i64) s97 cs248 q244 ∧ q244.length = x161.length ∧ Ev 1 (RI .i64) s97 cs254 q250 ∧ q250.length = q69.length ∧ Ev 1 (RI .i64) s97 cs261 q256 ∧ q256.length = n260 ∧ Rep a 128 [(6, .pointer (some ⟨b86, 0, none⟩)), (9, .pointer (some ⟨b160, 0, none⟩)), (11, .pointer (some ⟨b168, 0, none⟩)), (12, .pointer (some ⟨b169, 0, none⟩)), (13, .func (.func 98) #[] #[.pointer (some ⟨b86, 0, none⟩), .pointer (some ⟨b167, 0, none⟩), .pointer (some ⟨b169, 0, none⟩), .pointer (some ⟨b160, 0, none⟩), .pointer (some ⟨b168, 0, none⟩)]), (16, .int .i64 q230)] ∧ St w s97 (pt b85 (.cells #[.slice a71 q69.length c72, .slice a63 x52.last.length c64, .slice a79 q77.length c80] 127 (0, 0)) :: vecC 3 1 a71 c72 q69.length cs254 :: vecC 97 1 a79 c80 q77.length cs103 :: vecC 3 1 a257 c258 n260 cs261 :: pt b169 (.cells #[.bool q263] 4 (0, 0)) :: pt b168 (.cells #[.slice a257 n260 c258] 29 (0, 0)) :: pt b167 (.cells #[.slice (some ⟨b163, 0, none⟩) x161.length x161.length] 29 (0, 0)) :: vecC 3 1 (some ⟨b163, 0, none⟩) x161.length x161.length cs248 :: pt b160 (.cells #[.slice (some ⟨b156, 0, none⟩) x154.length x154.length] 71 (0, 0)) :: vecC 4 1 (some ⟨b156, 0, none⟩) x154.length x154.length cs242 :: pt b86 (.cells #[.pointer (some ⟨b85, 0, none⟩)] 122 (0, 0)) :: R)) (m := fu) ⟨fu, q182, q188, q194, q200, q207, cs186, cs192, cs198, a201, c202, q200.length, cs205, rfl, hq232, h185, hn187, h191, hn193, h197, hn199, h203, rfl, hE.pick _ ⟨rfl, rfl, rfl, rfl, rfl, rfl, trivial⟩, hS⟩ ?_
    clear hE hS a w hq232; rintro m235 a w ⟨n234, q238, q244, q250, q256, q263, cs242, cs248, cs254, a257, c258, n260, cs261, rfl, hq232, h241, hn243, h247, hn249, h253, hn255, h259, rfl, hE, hS⟩
    refine W.gen fun K264 hK264 => ?_
    rcases n234 with _ | n234
    ·rw [MendSolverwith.loop3] at hq232; exact absurd hq232 (by simp)
    rw [MendSolverwith.loop3] at hq232
    refine W.seq ?_
    refine W.seq ?_
    obtain ⟨q266, hq265, hq232⟩ := bndS hq232
    refine W.cut (fun a w => ∃ (q269 : Bool), q269 = q266 ∧ Rep a 128 [(6, .pointer (some ⟨b86, 0, none⟩)), (9, .pointer (some ⟨b160, 0, none⟩)), (11, .pointer (some ⟨b168, 0, none⟩)), (12, .pointer (some ⟨b169, 0, none⟩)), (13, .func (.func 98) #[] #[.pointer (some ⟨b86, 0, none⟩), .pointer (some ⟨b167, 0, none⟩), .pointer (some ⟨b169, 0, none⟩), .pointer (some ⟨b160, 0, none⟩), .pointer (some ⟨b168, 0, none⟩)]), (16, .int .i64 q230), (92, .bool q269)] ∧ St w s97 (pt b85 (.cells #[.slice a71 q69.length c72, .slice a63 x52.last.length c64, .slice a79 q77.length c80] 127 (0, 0)) :: vecC 3 1 a71 c72 q69.length cs254 :: vecC 97 1 a79 c80 q77.length cs103 :: vecC 3 1 a257 c258 q256.length cs261 :: pt b169 (.cells #[.bool q263] 4 (0, 0)) :: pt b168 (.cells #[.slice a257 q256.length c258] 29 (0, 0)) :: pt b167 (.cells #[.slice (some ⟨b163, 0, none⟩) x161.length x161.length] 29 (0, 0)) :: vecC 3 1 (some ⟨b163, 0, none⟩) x161.length x161.length cs248 :: pt b160 (.cells #[.slice (some ⟨b156, 0, none⟩) x154.length x154.length] 71 (0, 0)) :: vecC 4 1 (some ⟨b156, 0, none⟩) x154.length x154.length cs242 :: pt b86 (.cells #[.pointer (some ⟨b85, 0, none⟩)] 122 (0, 0)) :: R)) ?_ ?_
    ·refine W.gen fun K270 hK270 => ?_
     refine W.region ?_
     refine WL.vS hS hE (runs_plain rfl) (Gives.loadB hE 5 rfl rfl rfl ty29) rfl ?_; clear hE a; intro a hE
     refine WL.vS hS hE (runs_plain rfl) (Gives.len hE rfl sl29) rfl ?_; clear hE a; intro a hE
     refine WL.vS hS hE (runs_plain rfl) (Gives.p hE rfl) rfl ?_; clear hE a; intro a hE
     refine WL.vS hS hE (runs_plain rfl) (Gives.p hE rfl) rfl ?_; clear hE a; intro a hE
     rcases Bool.eq_false_or_eq_true (decide (((q256.length : Nat) : Int) > 0)) with hg271 | hg271
     ·replace hq265 := iteT hg271 hq265
      refine WL.vS hS hE (runs_if hE rfl rfl rfl hg271) (Gives.loadB hE 4 rfl rfl rfl ty4) rfl ?_; clear hE a; intro a hE
      refine WL.vS hS hE (runs_plain rfl) (Gives.pickT hE rfl hg271 rfl) rfl ?_; clear hE a; intro a hE
      refine WL.nil ?_
      subst hK270
      exact ⟨q263, hq265, hE.pick _ ⟨rfl, rfl, rfl, rfl, rfl, rfl, rfl, trivial⟩, hS⟩
     ·replace hq265 := iteF hg271 hq265
      refine WL.no hE (runs_not hE rfl rfl rfl (by rw [hg271]; decide)) rfl ?_; clear hE a; intro a hE
      refine WL.vS hS hE (runs_plain rfl) (Gives.pickF hE rfl hg271 rfl) rfl ?_; clear hE a; intro a hE
      refine WL.nil ?_
      subst hK270
      exact ⟨false, hq265, hE.pick _ ⟨rfl, rfl, rfl, rfl, rfl, rfl, rfl, trivial⟩, hS⟩
    ·clear hE hS a w; rintro a w ⟨q269, rfl, hE, hS⟩
     refine W.cond hE rfl (fun hc272 => ?_) (fun hc272 => ?_)
     ·replace hq232 := iteT hc272 hq232
      refine W.skip ?_
      refine W.block ?_
      refine W.seq (W.region ?_)
      refine WL.vS hS hE (runs_plain rfl) (Gives.loadB hE 5 rfl rfl rfl ty29) rfl ?_; clear hE a; intro a hE
      obtain ⟨x273, hx274, hq232⟩ := bindS hq232
      obtain ⟨hi275, hlt276, hy277⟩ := gx_some hx274
      obtain ⟨vs278, hl279, hR280, hd281, hget282⟩ := h259.at hy277
      subst hR280
      refine WL.vS hS hE (runs_plain rfl) (Gives.idx hE (((0 : Int)).toNat) rfl rfl sl29 hi275 (by omega) (hS.vecAok 3 rfl (by omega : ((0 : Int)).toNat < q256.length))) rfl ?_; clear hE a; intro a hE
      refine WL.vS hS hE (runs_plain rfl) (Gives.load1 hE rfl (fun w h => St.vecSees h 3 rfl (((0 : Int)).toNat * 1) _ hget282) ty3) rfl ?_; clear hE a; intro a hE
      refine WL.vS hS hE (runs_plain rfl) (Gives.p hE rfl) rfl ?_; clear hE a; intro a hE
      refine WL.nil ?_
      refine W.seq (W.region ?_)
      refine WL.vS hS hE (runs_plain rfl) (Gives.loadB hE 5 rfl rfl rfl ty29) rfl ?_; clear hE a; intro a hE
      obtain ⟨x283, hx284, hq232⟩ := bindS hq232
      obtain ⟨h285, h286, _, h287, _, _⟩ := cutl_some hx284
      have h289 := (hS.vecCap 3 rfl).1
      have h288 : x283 = q256.drop ((1 : Int)).toNat := by rw [h287]; simp
      have h290 : Ev 1 (RI .i64) s97 (cs261.drop (((1 : Int)).toNat * 1)) x283 := by rw [h288]; exact h259.drop _
      have hn291 : x283.length = (q256.length - ((1 : Int)).toNat) := by rw [h288, List.length_drop]
      replace hS := hS.vecDrop 3 rfl (k := ((1 : Int)).toNat) (by omega)
      refine WL.vS hS hE (runs_plain rfl) (Gives.slL hE sl29 rfl rfl h285 (by omega) (cutA_sliced _ _ _ _ _)) rfl ?_; clear hE a; intro a hE
      refine WL.storeI hE hS 5 rfl [.slice (cutA a257 c258 ((1 : Int)).toNat 1) (q256.length - ((1 : Int)).toNat) (c258 - ((1 : Int)).toNat)] (runs_plain rfl) rfl rfl rfl ty29 rfl rfl rfl rfl ?_; clear hE hS a w; intro a w hE hS
      refine WL.nil ?_
      refine W.seq (W.region ?_)
      refine WL.vS hS hE (runs_plain rfl) (Gives.loadB hE 8 rfl rfl rfl ty71) rfl ?_; clear hE a; intro a hE
      refine WL.vS hS hE (runs_plain rfl) (Gives.p hE rfl) rfl ?_; clear hE a; intro a hE
      obtain ⟨_, hx293, hq232⟩ := bindS hq232
      obtain ⟨h294, h295⟩ := ix_some hx293
      refine WL.vS hS hE (runs_plain rfl) (Gives.idx hE ((x273).toNat) rfl rfl sl71 h294 (by have := hn243; omega) (hS.vecAok 9 rfl (by have := hn243; omega : (x273).toNat < x154.length))) rfl ?_; clear hE a; intro a hE
      obtain ⟨x297, hx298, hq232⟩ := bindS hq232
      refine WL.setD hE hS 9 rfl (runs_plain rfl) rfl rfl (vs := [.bool false]) rfl ty4 rfl rfl rfl h241 hn243 (sx_some hx298).1 hx298 rfl rfl ?_; clear hE hS a w; intro cs299 a w h300 hn301 hE hS
      refine WL.nil ?_
      refine W.seq ?_
      refine W.seq (W.region ?_)
      refine WL.vS hS hE (runs_plain rfl) (Gives.loadB hE 10 rfl rfl rfl ty122) rfl ?_; clear hE a; intro a hE
      refine WL.vS hS hE (runs_plain rfl) (Gives.nilOk hE rfl) rfl ?_; clear hE a; intro a hE
      refine WL.vS hS hE (runs_plain rfl) (Gives.fld hE rfl fl127_0) rfl ?_; clear hE a; intro a hE
      refine WL.vS hS hE (runs_plain rfl) (Gives.loadB hE 0 rfl rfl rfl ty29) rfl ?_; clear hE a; intro a hE
      refine WL.vS hS hE (runs_plain rfl) (Gives.p hE rfl) rfl ?_; clear hE a; intro a hE
      obtain ⟨x302, hx303, hq232⟩ := bindS hq232
      obtain ⟨hi304, hlt305, hy306⟩ := gx_some hx303
      obtain ⟨vs307, hl308, hR309, hd310, hget311⟩ := h253.at hy306
      subst hR309
      refine WL.vS hS hE (runs_plain rfl) (Gives.idx hE ((x273).toNat) rfl rfl sl29 hi304 (by have := hn255; omega) (hS.vecAok 1 rfl (by have := hn255; omega : (x273).toNat < q69.length))) rfl ?_; clear hE a; intro a hE
      refine WL.vS hS hE (runs_plain rfl) (Gives.load1 hE rfl (fun w h => St.vecSees h 1 rfl ((x273).toNat * 1) _ hget311) ty3) rfl ?_; clear hE a; intro a hE
      refine WL.vS hS hE (runs_plain rfl) (Gives.p hE rfl) rfl ?_; clear hE a; intro a hE
      refine WL.vS hS hE (runs_plain rfl) (Gives.p hE rfl) rfl ?_; clear hE a; intro a hE
      refine WL.nil ?_
      refine W.cond hE rfl (fun hc312 => ?_) (fun hc312 => ?_)
      ·replace hq232 := iteT hc312 hq232
       refine W.seq (W.region ?_)
       refine WL.vS hS hE (runs_plain rfl) (Gives.p hE rfl) rfl ?_; clear hE a; intro a hE
       refine WL.vS hS hE (runs_plain rfl) (Gives.p hE rfl) rfl ?_; clear hE a; intro a hE
       refine WL.nil ?_
       refine W.ret ?_
       subst hK264
       rw [← Option.some.inj hq232] at hr
       dsimp only at hr
       refine finG (fn := Try.f94) (rs := [.tmp 4, .tmp 5]) (vs := [_, _]) hE rfl ⟨rfl, rfl, trivial⟩ ?_
       obtain rfl := Option.some.inj hr
       replace hS := hS.tail
       replace hS := hS.tail
       replace hS := hS.tail
       replace hS := hS.tail
       replace hS := hS.tail
       replace hS := hS.tail
       replace hS := hS.tail
       replace hS := hS.tail
       replace hS := hS.tail
       replace hS := hS.tail
       replace hS := hS.tail
       exact ⟨none, s97, rfl, hle98, Pt.nil, hS⟩
      ·replace hq232 := iteF hc312 hq232
       refine W.skip ?_
       refine W.seq (W.region ?_)
       refine WL.vS hS hE (runs_plain rfl) (Gives.loadB hE 10 rfl rfl rfl ty122) rfl ?_; clear hE a; intro a hE
       refine WL.vS hS hE (runs_plain rfl) (Gives.nilOk hE rfl) rfl ?_; clear hE a; intro a hE
       refine WL.vS hS hE (runs_plain rfl) (Gives.fld hE rfl fl127_2) rfl ?_; clear hE a; intro a hE
       refine WL.vS hS hE (runs_plain rfl) (Gives.loadB hE 0 rfl rfl rfl ty125) rfl ?_; clear hE a; intro a hE
       refine WL.vS hS hE (runs_plain rfl) (Gives.p hE rfl) rfl ?_; clear hE a; intro a hE
       obtain ⟨x313, hx314, hq232⟩ := bindS hq232
       obtain ⟨hi315, hlt316, hy317⟩ := gx_some hx314
       obtain ⟨vs318, hl319, hR320, hd321, hget322⟩ := h102.at hy317
       obtain ⟨a323, c324, rfl, h325⟩ := hR320
       refine WL.vS hS hE (runs_plain rfl) (Gives.idx hE ((x273).toNat) rfl rfl sl125 hi315 (by have := hn104; omega) (hS.vecAok 2 rfl (by have := hn104; omega : (x273).toNat < q77.length))) rfl ?_; clear hE a; intro a hE
       refine WL.vS hS hE (runs_plain rfl) (Gives.load1 hE rfl (fun w h => St.vecSees h 2 rfl ((x273).toNat * 1) _ hget322) ty97) rfl ?_; clear hE a; intro a hE
       refine WL.vS hS hE (runs_plain rfl) (Gives.len hE rfl sl97) rfl ?_; clear hE a; intro a hE
       refine WL.vS hS hE (runs_plain rfl) (Gives.p hE rfl) rfl ?_; clear hE a; intro a hE
       refine WL.nil ?_
       obtain ⟨q327, hq326, hq232⟩ := bindS hq232
       refine W.cut (fun a w => ∃ (q337 : List Bool), ∃ (q343 : List Int), ∃ (q349 : List Int), ∃ (q355 : List Int), ∃ (q362 : Bool), ∃ (cs341 : List Value), ∃ (cs347 : List Value), ∃ (cs353 : List Value), ∃ (a356 : Option Addr), ∃ (c357 : Nat), ∃ (n359 : Nat), ∃ (cs360 : List Value), (q337, q343, q349, q355, q362) = q327 ∧ Ev 1 RB s97 cs341 q337 ∧ q337.length = x154.length ∧ Ev 1 (RI .i64) s97 cs347 q343 ∧ q343.length = x161.length ∧ Ev 1 (RI .i64) s97 cs353 q349 ∧ q349.length = q69.length ∧ Ev 1 (RI .i64) s97 cs360 q355 ∧ q355.length = n359 ∧ Rep a 128 [(6, .pointer (some ⟨b86, 0, none⟩)), (9, .pointer (some ⟨b160, 0, none⟩)), (11, .pointer (some ⟨b168, 0, none⟩)), (12, .pointer (some ⟨b169, 0, none⟩)), (13, .func (.func 98) #[] #[.pointer (some ⟨b86, 0, none⟩), .pointer (some ⟨b167, 0, none⟩), .pointer (some ⟨b169, 0, none⟩), .pointer (some ⟨b160, 0, none⟩), .pointer (some ⟨b168, 0, none⟩)]), (16, .int .i64 q230)] ∧ St w s97 (pt b85 (.cells #[.slice a71 q69.length c72, .slice a63 x52.last.length c64, .slice a79 q77.length c80] 127 (0, 0)) :: vecC 3 1 a71 c72 q69.length cs353 :: vecC 97 1 a79 c80 q77.length cs103 :: vecC 3 1 a356 c357 n359 cs360 :: pt b169 (.cells #[.bool q362] 4 (0, 0)) :: pt b168 (.cells #[.slice a356 n359 c357] 29 (0, 0)) :: pt b167 (.cells #[.slice (some ⟨b163, 0, none⟩) x161.length x161.length] 29 (0, 0)) :: vecC 3 1 (some ⟨b163, 0, none⟩) x161.length x161.length cs347 :: pt b160 (.cells #[.slice (some ⟨b156, 0, none⟩) x154.length x154.length] 71 (0, 0)) :: vecC 4 1 (some ⟨b156, 0, none⟩) x154.length x154.length cs341 :: pt b86 (.cells #[.pointer (some ⟨b85, 0, none⟩)] 122 (0, 0)) :: R)) ?_ ?_
       ·refine W.block ?_
        refine W.loop (fun m a w => ∃ (rest330 : List MendArc) (k328 : Nat), ∃ (q337 : List Bool), ∃ (q343 : List Int), ∃ (q349 : List Int), ∃ (q355 : List Int), ∃ (q362 : Bool), ∃ (cs341 : List Value), ∃ (cs347 : List Value), ∃ (cs353 : List Value), ∃ (a356 : Option Addr), ∃ (c357 : Nat), ∃ (n359 : Nat), ∃ (cs360 : List Value), rest330.length = m ∧ x313.drop k328 = rest330 ∧ MendSolverwith.loop4 x52 q99 rest330 q337 q343 q349 q355 q362 = some q327 ∧ Ev 1 RB s97 cs341 q337 ∧ q337.length = x154.length ∧ Ev 1 (RI .i64) s97 cs347 q343 ∧ q343.length = x161.length ∧ Ev 1 (RI .i64) s97 cs353 q349 ∧ q349.length = q69.length ∧ Ev 1 (RI .i64) s97 cs360 q355 ∧ q355.length = n359 ∧ Rep a 128 [(6, .pointer (some ⟨b86, 0, none⟩)), (9, .pointer (some ⟨b160, 0, none⟩)), (11, .pointer (some ⟨b168, 0, none⟩)), (12, .pointer (some ⟨b169, 0, none⟩)), (13, .func (.func 98) #[] #[.pointer (some ⟨b86, 0, none⟩), .pointer (some ⟨b167, 0, none⟩), .pointer (some ⟨b169, 0, none⟩), .pointer (some ⟨b160, 0, none⟩), .pointer (some ⟨b168, 0, none⟩)]), (16, .int .i64 q230), (116, .slice a323 x313.length c324), (117, .int .i64 ((x313).length : Int)), (118, .int .i64 ((k328 : Nat) : Int))] ∧ St w s97 (pt b85 (.cells #[.slice a71 q69.length c72, .slice a63 x52.last.length c64, .slice a79 q77.length c80] 127 (0, 0)) :: vecC 3 1 a71 c72 q69.length cs353 :: vecC 97 1 a79 c80 q77.length cs103 :: vecC 3 1 a356 c357 n359 cs360 :: pt b169 (.cells #[.bool q362] 4 (0, 0)) :: pt b168 (.cells #[.slice a356 n359 c357] 29 (0, 0)) :: pt b167 (.cells #[.slice (some ⟨b163, 0, none⟩) x161.length x161.length] 29 (0, 0)) :: vecC 3 1 (some ⟨b163, 0, none⟩) x161.length x161.length cs347 :: pt b160 (.cells #[.slice (some ⟨b156, 0, none⟩) x154.length x154.length] 71 (0, 0)) :: vecC 4 1 (some ⟨b156, 0, none⟩) x154.length x154.length cs341 :: pt b86 (.cells #[.pointer (some ⟨b85, 0, none⟩)] 122 (0, 0)) :: R)) (m := x313.length) ⟨x313, 0, x297, q244, q250, x283, q263, cs299, cs248, cs254, (cutA a257 c258 ((1 : Int)).toNat 1), (c258 - ((1 : Int)).toNat), (q256.length - ((1 : Int)).toNat), (cs261.drop (((1 : Int)).toNat * 1)), rfl, rfl, hq326, h300, hn301, h247, hn249, h253, hn255, h290, hn291, hE.pick _ ⟨rfl, rfl, rfl, rfl, rfl, rfl, rfl, rfl, rfl, trivial⟩, hS⟩ ?_
        clear hE hS a w hq326; rintro m334 a w ⟨rest330, k328, q337, q343, q349, q355, q362, cs341, cs347, cs353, a356, c357, n359, cs360, rfl, hd331, hq326, h340, hn342, h346, hn348, h352, hn354, h358, rfl, hE, hS⟩
        refine W.gen fun K363 hK363 => ?_
        rcases rest330 with _ | ⟨x329, rest330⟩
        ·have hlt332 := drop_nil hd331
         refine W.seq (W.region ?_)
         refine WL.vS hS hE (runs_plain rfl) (Gives.p hE rfl) rfl ?_; clear hE a; intro a hE
         refine WL.nil ?_
         refine W.seq ?_
         refine W.condF hE rfl (decide_eq_false (by omega)) ?_
         subst hK363
         refine W.exit rfl ?_
         exact ⟨q337, q343, q349, q355, q362, cs341, cs347, cs353, a356, c357, q355.length, cs360, Option.some.inj hq326, h340, hn342, h346, hn348, h352, hn354, h358, rfl, hE.pick _ ⟨rfl, rfl, rfl, rfl, rfl, rfl, trivial⟩, hS⟩
        ·obtain ⟨hlt332, hx333, hd331⟩ := drop_cons hd331
         rw [MendSolverwith.loop4] at hq326
         refine W.seq (W.region ?_)
         refine WL.vS hS hE (runs_plain rfl) (Gives.p hE rfl) rfl ?_; clear hE a; intro a hE
         refine WL.nil ?_
         refine W.seq ?_
         refine W.condT hE rfl (decide_eq_true (by omega)) ?_
         refine W.skip ?_
         refine W.seq ?_
         refine W.block ?_
         refine W.seq (W.region ?_)
         obtain ⟨cs364, hl365, hR366, hat367⟩ := h325.at hx333
         subst hR366
         refine WL.vS hS hE (runs_plain rfl) (Gives.idx hE k328 rfl rfl sl97 rfl hlt332 (h325.aok hlt332)) rfl ?_; clear hE a; intro a hE
         refine WL.vS hS hE (runs_plain rfl) (Gives.loadA hE rfl (fun w h => hat367 w _ h) ty144) rfl ?_; clear hE a; intro a hE
         refine WL.alloc hE hS (runs_plain rfl) zr144 rfl ?_; clear hE hS a w; intro b368 a w hE hS
         refine WL.storeI hE hS 0 rfl (MendArc.cells x329) (runs_plain rfl) rfl rfl rfl ty144 rfl rfl rfl rfl ?_; clear hE hS a w; intro a w hE hS
         refine WL.nil ?_
         refine W.region ?_
         refine WL.vS hS hE (runs_plain rfl) (Gives.p hE rfl) rfl ?_; clear hE a; intro a hE
         refine WL.vS hS hE (runs_plain rfl) (Gives.loadBA hE 0 rfl rfl ty144) rfl ?_; clear hE a; intro a hE
         obtain ⟨q369, hq370, hq326⟩ := bindS hq326
         replace hS := hS.front 3 rfl
         replace hS := hS.front 3 rfl
         replace hS := hS.front 4 rfl
         replace hS := hS.front 10 rfl
         replace hS := hS.front 9 rfl
         replace hS := hS.front 6 rfl
         replace hS := hS.front 8 rfl
         replace hS := hS.front 10 rfl
         replace hS := hS.front 9 rfl
         replace hS := hS.front 10 rfl
         replace hS := hS.front 11 rfl
         have hc_ := MendSolverwith_1_v1_ok (y5 := (MendSolver.mk q349 x52.last q99)) hS h346 hn348 h340 hn342 h358 rfl h352 hn354 h65 h102 hn104 hq370
         refine WL.fnw hE (hc_) rfl (runs_plain rfl) bd98 rfl rfl rfl ?_
         clear hE hS hc_; rintro e w ⟨cs371, cs374, cs377, a380, c381, n382, cs383, rfl, h372, hn373, h375, hn376, h378, hn379, h384, rfl, hS⟩; refine ⟨_, rfl, ?_⟩; clear a; intro a hE
         refine WL.nil ?_
         refine W.region ?_
         refine WL.vS hS hE (runs_plain rfl) (Gives.inc hE rfl (by have := h325.small; omega)) rfl ?_; clear hE a; intro a hE
         refine WL.vS hS hE (runs_plain rfl) (Gives.p hE rfl) rfl ?_; clear hE a; intro a hE
         refine WL.nil ?_
         replace hS := hS.dropAt 11
         replace hS := hS.front 7 rfl
         replace hS := hS.front 4 rfl
         replace hS := hS.front 7 rfl
         replace hS := hS.front 4 rfl
         replace hS := hS.front 6 rfl
         replace hS := hS.front 6 rfl
         replace hS := hS.front 8 rfl
         replace hS := hS.front 10 rfl
         replace hS := hS.front 10 rfl
         replace hS := hS.front 10 rfl
         subst hK363
         exact ⟨rest330.length, Nat.lt_succ_self _, rest330, k328 + 1, q369.2.1, q369.1, q369.2.2.1, q369.2.2.2.2, q369.2.2.2.1, cs374, cs371, cs377, a380, c381, q369.2.2.2.2.length, cs383, rfl, hd331, hq326, h375, hn376, h372, hn373, h378, hn379, h384, rfl, hE.pick _ ⟨rfl, rfl, rfl, rfl, rfl, rfl, rfl, rfl, rfl, trivial⟩, hS⟩
       ·clear hE hS a w; rintro a w ⟨q337, q343, q349, q355, q362, cs341, cs347, cs353, a356, c357, n359, cs360, rfl, h340, hn342, h346, hn348, h352, hn354, h358, rfl, hE, hS⟩
        dsimp only at hq232
        subst hK264
        exact ⟨n234, Nat.lt_succ_self _, n234, q337, q343, q349, q355, q362, cs341, cs347, cs353, a356, c357, q355.length, cs360, rfl, hq232, h340, hn342, h346, hn348, h352, hn354, h358, rfl, hE.pick _ ⟨rfl, rfl, rfl, rfl, rfl, rfl, trivial⟩, hS⟩
     ·replace hq232 := iteF hc272 hq232
      subst hK264
      refine W.exit rfl ?_
      exact ⟨q238, q244, q250, q256, q263, cs242, cs248, cs254, a257, c258, q256.length, cs261, Option.some.inj hq232, h241, hn243, h247, hn249, h253, hn255, h259, rfl, hE.pick _ ⟨rfl, rfl, trivial⟩, hS⟩
   ·clear hE hS a w; rintro a w ⟨q238, q244, q250, q256, q263, cs242, cs248, cs254, a257, c258, n260, cs261, rfl, h241, hn243, h247, hn249, h253, hn255, h259, rfl, hE, hS⟩
    dsimp only at hr
    refine W.seq ?_
    refine W.regionQ (C := fun w => St w s97 (pt b85 (.cells #[.slice a71 q69.length c72, .slice a63 x52.last.length c64, .slice a79 q77.length c80] 127 (0, 0)) :: vecC 3 1 a71 c72 q69.length cs254 :: vecC 97 1 a79 c80 q77.length cs103 :: vecC 3 1 a257 c258 q256.length cs261 :: pt b169 (.cells #[.bool q263] 4 (0, 0)) :: pt b168 (.cells #[.slice a257 q256.length c258] 29 (0, 0)) :: pt b167 (.cells #[.slice (some ⟨b163, 0, none⟩) x161.length x161.length] 29 (0, 0)) :: vecC 3 1 (some ⟨b163, 0, none⟩) x161.length x161.length cs248 :: pt b160 (.cells #[.slice (some ⟨b156, 0, none⟩) x154.length x154.length] 71 (0, 0)) :: vecC 4 1 (some ⟨b156, 0, none⟩) x154.length x154.length cs242 :: pt b86 (.cells #[.pointer (some ⟨b85, 0, none⟩)] 122 (0, 0)) :: R)) mixed (by kernel_rfl) hS.drew ?_
    refine QL.v hE (runs_plain rfl) (Gives.loadB hE 10 rfl rfl rfl ty122) rfl ?_; clear hE a; intro a hE
    refine QL.v hE (runs_plain rfl) (Gives.loadB hE 4 rfl rfl rfl ty4) rfl ?_; clear hE a; intro a hE
    refine QL.v hE (runs_plain rfl) (Gives.p hE rfl) rfl ?_; clear hE a; intro a hE
    refine QL.v hE (runs_plain rfl) (Gives.p hE rfl) rfl ?_; clear hE a; intro a hE
    refine QL.nil ?_; clear hS w; intro w hS
    refine W.ret ?_
    have hF := hS.fixD RI.mono 1 rfl h253 hn255; clear hS; obtain ⟨s385, hle386, hS, h387⟩ := hF
    (try rw [← hn255] at hE)
    (try rw [← hn255] at hS)
    replace h65 := Sl.mono RI.mono hle386 h65
    replace h102 := Ev.mono (RL.mono RMendArc.mono) hle386 h102
    replace h259 := Ev.mono RI.mono hle386 h259
    replace h247 := Ev.mono RI.mono hle386 h247
    replace h241 := Ev.mono RB.mono hle386 h241
    have hF := hS.fixD (RL.mono RMendArc.mono) 1 rfl h102 hn104; clear hS; obtain ⟨s388, hle389, hS, h390⟩ := hF
    (try rw [← hn104] at hE)
    (try rw [← hn104] at hS)
    replace h387 := Sl.mono RI.mono hle389 h387
    replace h65 := Sl.mono RI.mono hle389 h65
    replace h259 := Ev.mono RI.mono hle389 h259
    replace h247 := Ev.mono RI.mono hle389 h247
    replace h241 := Ev.mono RB.mono hle389 h241
    have hF := hS.fixB (es := 3) (Rr := RMendSolver) (v := (MendSolver.mk q250 x52.last q99)) RMendSolver.mono 0 rfl rfl ⟨_, _, _, _, _, _, rfl, h387, h65, h390⟩; clear hS; obtain ⟨s391, hle392, hS, h393⟩ := hF
    replace h259 := Ev.mono RI.mono hle392 h259
    replace h247 := Ev.mono RI.mono hle392 h247
    replace h241 := Ev.mono RB.mono hle392 h241
    refine finG (fn := Try.f94) (rs := [.tmp 4, .tmp 5]) (vs := [_, _]) hE rfl ⟨rfl, rfl, trivial⟩ ?_
    obtain rfl := Option.some.inj hr
    replace hS := hS.tail
    replace hS := hS.tail
    replace hS := hS.tail
    replace hS := hS.tail
    replace hS := hS.tail
    replace hS := hS.tail
    replace hS := hS.tail
    replace hS := hS.tail
    exact ⟨(some ⟨b85, 0, none⟩), s391, rfl, (Sg.Le.trans (Sg.Le.trans (Sg.Le.trans hle98 hle386) hle389) hle392), h393, hS⟩
set_option maxHeartbeats 8000000 in
theorem Mendpicked_ok {fu : Nat}  {w : World} {s : Sg} {R : List HP} {x0 : MendGraph} {a0_0 : Option Addr} {c0_0 : Nat} {a0_1 : Option Addr} {c0_1 : Nat} {a0_2 : Option Addr} {c0_2 : Nat} {a0_3 : Option Addr} {c0_3 : Nat} {a0_4 : Option Addr} {c0_4 : Nat} {x1 : List Int} {a1 : Option Addr} {c1 : Nat} (hS : St w s (R)) (h0_0 : Sl 1 (RI .i64) s a0_0 c0_0 x0.Ready) (h0_1 : Sl 1 (RI .i64) s a0_1 c0_1 x0.Last) (h0_2 : Sl 1 (RI .i64) s a0_2 c0_2 x0.Due) (h0_3 : Sl 3 RMendArc s a0_3 c0_3 x0.Arcs) (h0_4 : Sl 1 RMendChoice s a0_4 c0_4 x0.Choices) (h1 : Sl 1 (RI .i64) s a1 c1 x1) {r : (Option MendSolver) × Bool} (hr : Mendpicked fu x0 x1 = some r) :
  Calls Try.prog 86 [.agg [.slice a0_0 x0.Ready.length c0_0, .slice a0_1 x0.Last.length c0_1, .slice a0_2 x0.Due.length c0_2, .slice a0_3 x0.Arcs.length c0_3, .slice a0_4 x0.Choices.length c0_4].toArray, .slice a1 x1.length c1].toArray w (fun e w => ∃ (a0 : Option Addr) (t : Sg), e = .returned (.tuple #[.pointer a0, .bool r.2]) ∧ s.Le t ∧ Pt 3 RMendSolver t a0 r.1 ∧ St w t (R)) := by
 refine enter Try.func86 rfl rfl rfl fun a hE => ?_
 rw [Mendpicked] at hr
 refine W.seq (W.region ?_)
 refine WL.box hE hS (runs_plain rfl) rfl rfl rfl ?_; clear hE hS a w; intro b51 a w hE hS
 refine WL.vS hS hE (runs_plain rfl) (Gives.p hE rfl) rfl ?_; clear hE a; intro a hE
 refine WL.vS hS hE (runs_plain rfl) (Gives.p hE rfl) rfl ?_; clear hE a; intro a hE
 refine WL.nil ?_
 refine W.seq (W.region ?_)
 refine WL.vS hS hE (runs_plain rfl) (Gives.loadBA hE 0 rfl rfl ty100) rfl ?_; clear hE a; intro a hE
 obtain ⟨q52, hq53, hr⟩ := bindS hr
 have hc_ := Mendstart_ok hS h0_0 h0_1 h0_2 h0_3 h0_4 hq53
 refine WL.fnq hE (hc_) (runs_plain rfl) bd93 rfl rfl rfl ?_
 clear hE hS hc_; rintro e w ⟨a54, s56, rfl, hle57, h55, hS⟩; refine ⟨_, rfl, ?_⟩; clear a; intro a hE
 replace h0_0 := Sl.mono RI.mono hle57 h0_0
 replace h0_1 := Sl.mono RI.mono hle57 h0_1
 replace h0_2 := Sl.mono RI.mono hle57 h0_2
 replace h0_3 := Sl.mono RMendArc.mono hle57 h0_3
 replace h0_4 := Sl.mono RMendChoice.mono hle57 h0_4
 replace h1 := Sl.mono RI.mono hle57 h1
 refine WL.vS hS hE (runs_plain rfl) (Gives.p hE rfl) rfl ?_; clear hE a; intro a hE
 refine WL.vS hS hE (runs_plain rfl) (Gives.p hE rfl) rfl ?_; clear hE a; intro a hE
 refine WL.vS hS hE (runs_plain rfl) (Gives.p hE rfl) rfl ?_; clear hE a; intro a hE
 refine WL.vS hS hE (runs_plain rfl) (Gives.p hE rfl) rfl ?_; clear hE a; intro a hE
 refine WL.vS hS hE (runs_plain rfl) (Gives.p hE rfl) rfl ?_; clear hE a; intro a hE
 refine WL.nil ?_
 refine W.seq ?_
 refine W.seq (W.region ?_)
 refine WL.vS hS hE (runs_plain rfl) (Gives.p hE rfl) rfl ?_; clear hE a; intro a hE
 refine WL.vS hS hE (runs_plain rfl) (Gives.len hE rfl sl29) rfl ?_; clear hE a; intro a hE
 refine WL.vS hS hE (runs_plain rfl) (Gives.p hE rfl) rfl ?_; clear hE a; intro a hE
 refine WL.nil ?_
 obtain ⟨q59, hq58, hr⟩ := bindS hr
 refine W.cut (fun a w => ∃ (q69 : Option MendSolver), ∃ (q72 : Bool), ∃ (a70 : Option Addr), ∃ (s67 : Sg), s56.Le s67 ∧ (q69, q72) = q59 ∧ Pt 3 RMendSolver s67 a70 q69 ∧ Rep a 45 [(6, .pointer a70), (7, .bool q72)] ∧ St w s67 (pt b51 (.cells #[.slice a0_0 x0.Ready.length c0_0, .slice a0_1 x0.Last.length c0_1, .slice a0_2 x0.Due.length c0_2, .slice a0_3 x0.Arcs.length c0_3, .slice a0_4 x0.Choices.length c0_4] 100 (0, 0)) :: R)) ?_ ?_
 ·refine W.block ?_
  refine W.loop (fun m a w => ∃ (rest62 : List Int) (k60 : Nat), ∃ (q69 : Option MendSolver), ∃ (q72 : Bool), ∃ (a70 : Option Addr), ∃ (s67 : Sg), rest62.length = m ∧ x1.drop k60 = rest62 ∧ s56.Le s67 ∧ Mendpicked.loop1 x0 fu rest62 k60 q69 q72 = some q59 ∧ Pt 3 RMendSolver s67 a70 q69 ∧ Rep a 45 [(2, .pointer (some ⟨b51, 0, none⟩)), (6, .pointer a70), (7, .bool q72), (15, .slice a1 x1.length c1), (16, .int .i64 ((x1).length : Int)), (17, .int .i64 ((k60 : Nat) : Int))] ∧ St w s67 (pt b51 (.cells #[.slice a0_0 x0.Ready.length c0_0, .slice a0_1 x0.Last.length c0_1, .slice a0_2 x0.Due.length c0_2, .slice a0_3 x0.Arcs.length c0_3, .slice a0_4 x0.Choices.length c0_4] 100 (0, 0)) :: R)) (m := x1.length) ⟨x1, 0, q52.1, q52.2, a54, s56, rfl, rfl, (Sg.Le.refl _), hq58, h55, hE.pick _ ⟨rfl, rfl, rfl, rfl, rfl, rfl, trivial⟩, hS⟩ ?_
  clear hE hS a w hq58; rintro m66 a w ⟨rest62, k60, q69, q72, a70, s67, rfl, hd63, hle68, hq58, h71, hE, hS⟩
  refine W.gen fun K73 hK73 => ?_
  replace h0_0 := Sl.mono RI.mono hle68 h0_0
  replace h0_1 := Sl.mono RI.mono hle68 h0_1
  replace h0_2 := Sl.mono RI.mono hle68 h0_2
  replace h0_3 := Sl.mono RMendArc.mono hle68 h0_3
  replace h0_4 := Sl.mono RMendChoice.mono hle68 h0_4
  replace h1 := Sl.mono RI.mono hle68 h1
  replace h55 := Pt.mono RMendSolver.mono hle68 h55
  rcases rest62 with _ | ⟨x61, rest62⟩
  ·have hlt64 := drop_nil hd63
   refine W.seq (W.region ?_)
   refine WL.vS hS hE (runs_plain rfl) (Gives.p hE rfl) rfl ?_; clear hE a; intro a hE
   refine WL.nil ?_
   refine W.seq ?_
   refine W.condF hE rfl (decide_eq_false (by omega)) ?_
   subst hK73
   refine W.exit rfl ?_
   exact ⟨q69, q72, a70, s67, hle68, Option.some.inj hq58, h71, hE.pick _ ⟨rfl, rfl, trivial⟩, hS⟩
  ·obtain ⟨hlt64, hx65, hd63⟩ := drop_cons hd63
   rw [Mendpicked.loop1] at hq58
   refine W.seq (W.region ?_)
   refine WL.vS hS hE (runs_plain rfl) (Gives.p hE rfl) rfl ?_; clear hE a; intro a hE
   refine WL.nil ?_
   refine W.seq ?_
   refine W.condT hE rfl (decide_eq_true (by omega)) ?_
   refine W.skip ?_
   refine W.seq ?_
   refine W.block ?_
   refine W.seq (W.region ?_)
   refine WL.vS hS hE (runs_plain rfl) (Gives.p hE rfl) rfl ?_; clear hE a; intro a hE
   obtain ⟨cs74, hl75, hR76, hat77⟩ := h1.at hx65
   subst hR76
   refine WL.vS hS hE (runs_plain rfl) (Gives.idx hE k60 rfl rfl sl29 rfl hlt64 (h1.aok hlt64)) rfl ?_; clear hE a; intro a hE
   refine WL.vS hS hE (runs_plain rfl) (Gives.load1 hE rfl (fun w h => hat77 w _ h) ty3) rfl ?_; clear hE a; intro a hE
   refine WL.vS hS hE (runs_plain rfl) (Gives.p hE rfl) rfl ?_; clear hE a; intro a hE
   refine WL.vS hS hE (runs_plain rfl) (Gives.p hE rfl) rfl ?_; clear hE a; intro a hE
   refine WL.nil ?_
   refine W.seq ?_
   obtain ⟨q79, hq78, hq58⟩ := bndS hq58
   refine W.cut (fun a w => ∃ (q82 : Bool), q82 = q79 ∧ Rep a 45 [(2, .pointer (some ⟨b51, 0, none⟩)), (6, .pointer a70), (7, .bool q72), (8, .int .i64 ((k60 : Nat) : Int)), (9, .int .i64 x61), (15, .slice a1 x1.length c1), (16, .int .i64 ((x1).length : Int)), (17, .int .i64 ((k60 : Nat) : Int)), (26, .bool q82)] ∧ St w s67 (pt b51 (.cells #[.slice a0_0 x0.Ready.length c0_0, .slice a0_1 x0.Last.length c0_1, .slice a0_2 x0.Due.length c0_2, .slice a0_3 x0.Arcs.length c0_3, .slice a0_4 x0.Choices.length c0_4] 100 (0, 0)) :: R)) ?_ ?_
   ·refine W.gen fun K83 hK83 => ?_
    refine W.region ?_
    refine WL.vS hS hE (runs_plain rfl) (Gives.p hE rfl) rfl ?_; clear hE a; intro a hE
    refine WL.vS hS hE (runs_plain rfl) (Gives.p hE rfl) rfl ?_; clear hE a; intro a hE
    rcases Bool.eq_false_or_eq_true q72 with hg84 | hg84
    ·replace hq78 := iteT hg84 hq78
     refine WL.vS hS hE (runs_if hE rfl rfl rfl hg84) (Gives.p hE rfl) rfl ?_; clear hE a; intro a hE
     refine WL.vS hS hE (runs_if hE rfl rfl rfl hg84) (Gives.p hE rfl) rfl ?_; clear hE a; intro a hE
     refine WL.vS hS hE (runs_plain rfl) (Gives.pickT hE rfl hg84 rfl) rfl ?_; clear hE a; intro a hE
     refine WL.nil ?_
     subst hK83
     exact ⟨decide (x61 > 0), hq78, hE.pick _ ⟨rfl, rfl, rfl, rfl, rfl, rfl, rfl, rfl, rfl, trivial⟩, hS⟩
    ·replace hq78 := iteF hg84 hq78
     refine WL.no hE (runs_not hE rfl rfl rfl (by rw [hg84]; decide)) rfl ?_; clear hE a; intro a hE
     refine WL.no hE (runs_not hE rfl rfl rfl (by rw [hg84]; decide)) rfl ?_; clear hE a; intro a hE
     refine WL.vS hS hE (runs_plain rfl) (Gives.pickF hE rfl hg84 rfl) rfl ?_; clear hE a; intro a hE
     refine WL.nil ?_
     subst hK83
     exact ⟨false, hq78, hE.pick _ ⟨rfl, rfl, rfl, rfl, rfl, rfl, rfl, rfl, rfl, trivial⟩, hS⟩
   ·clear hE hS a w; rintro a w ⟨q82, rfl, hE, hS⟩
    obtain ⟨q86, hq85, hq58⟩ := bindS hq58
    refine W.cut (fun a w => ∃ (q89 : Option MendSolver), ∃ (q92 : Bool), ∃ (a90 : Option Addr), ∃ (s87 : Sg), s67.Le s87 ∧ (q89, q92) = q86 ∧ Pt 3 RMendSolver s87 a90 q89 ∧ Rep a 45 [(2, .pointer (some ⟨b51, 0, none⟩)), (6, .pointer a90), (7, .bool q92), (15, .slice a1 x1.length c1), (16, .int .i64 ((x1).length : Int)), (17, .int .i64 ((k60 : Nat) : Int))] ∧ St w s87 (pt b51 (.cells #[.slice a0_0 x0.Ready.length c0_0, .slice a0_1 x0.Last.length c0_1, .slice a0_2 x0.Due.length c0_2, .slice a0_3 x0.Arcs.length c0_3, .slice a0_4 x0.Choices.length c0_4] 100 (0, 0)) :: R)) ?_ ?_
    ·refine W.gen fun K93 hK93 => ?_
     refine W.cond hE rfl (fun hc94 => ?_) (fun hc94 => ?_)
     ·replace hq85 := iteT hc94 hq85
      refine W.region ?_
      refine WL.vS hS hE (runs_plain rfl) (Gives.p hE rfl) rfl ?_; clear hE a; intro a hE
      refine WL.vS hS hE (runs_plain rfl) (Gives.fld hE rfl fl100_4) rfl ?_; clear hE a; intro a hE
      refine WL.vS hS hE (runs_plain rfl) (Gives.loadB hE 0 rfl rfl rfl ty98) rfl ?_; clear hE a; intro a hE
      refine WL.vS hS hE (runs_plain rfl) (Gives.p hE rfl) rfl ?_; clear hE a; intro a hE
      obtain ⟨x95, hx96, hq85⟩ := bindS hq85
      obtain ⟨hi97, hlt98, hy99⟩ := gx_some hx96
      obtain ⟨cs100, hl101, hR102, hat103⟩ := h0_4.at hy99
      obtain ⟨a104, c105, rfl, h106⟩ := hR102
      refine WL.vS hS hE (runs_plain rfl) (Gives.idx hE (((k60 : Nat) : Int)).toNat rfl rfl sl98 hi97 hlt98 (h0_4.aok hlt98)) rfl ?_; clear hE a; intro a hE
      refine WL.vS hS hE (runs_plain rfl) (Gives.fld hE rfl fl138_0) rfl ?_; clear hE a; intro a hE
      refine WL.vS hS hE (runs_plain rfl) (Gives.load1 hE rfl (fun w h => hat103 w _ h) ty125) rfl ?_; clear hE a; intro a hE
      refine WL.vS hS hE (runs_plain rfl) (Gives.p hE rfl) rfl ?_; clear hE a; intro a hE
      refine WL.vS hS hE (runs_plain rfl) (Gives.p hE rfl) rfl ?_; clear hE a; intro a hE
      obtain ⟨x107, hx108, hq85⟩ := bindS hq85
      obtain ⟨hi109, hlt110, hy111⟩ := gx_some hx108
      obtain ⟨cs112, hl113, hR114, hat115⟩ := h106.at hy111
      obtain ⟨a116, c117, rfl, h118⟩ := hR114
      refine WL.vS hS hE (runs_plain rfl) (Gives.idx hE (w64 (x61 - 1)).toNat rfl rfl sl125 hi109 hlt110 (h106.aok hlt110)) rfl ?_; clear hE a; intro a hE
      refine WL.vS hS hE (runs_plain rfl) (Gives.load1 hE rfl (fun w h => hat115 w _ h) ty97) rfl ?_; clear hE a; intro a hE
      obtain ⟨q119, hq120, hq85⟩ := bindS hq85
      have hc_ := MendSolverwith_ok hS h71 h118 hq120
      refine WL.fnq hE (hc_) (runs_plain rfl) bd94 rfl rfl rfl ?_
      clear hE hS hc_; rintro e w ⟨a121, s123, rfl, hle124, h122, hS⟩; refine ⟨_, rfl, ?_⟩; clear a; intro a hE
      replace h71 := Pt.mono RMendSolver.mono hle124 h71
      replace h1 := Sl.mono RI.mono hle124 h1
      replace h0_4 := Sl.mono RMendChoice.mono hle124 h0_4
      replace h106 := Sl.mono (RL.mono RMendArc.mono) hle124 h106
      replace h118 := Sl.mono RMendArc.mono hle124 h118
      replace h0_0 := Sl.mono RI.mono hle124 h0_0
      replace h0_1 := Sl.mono RI.mono hle124 h0_1
      replace h0_2 := Sl.mono RI.mono hle124 h0_2
      replace h0_3 := Sl.mono RMendArc.mono hle124 h0_3
      refine WL.vS hS hE (runs_plain rfl) (Gives.p hE rfl) rfl ?_; clear hE a; intro a hE
      refine WL.vS hS hE (runs_plain rfl) (Gives.p hE rfl) rfl ?_; clear hE a; intro a hE
      refine WL.vS hS hE (runs_plain rfl) (Gives.p hE rfl) rfl ?_; clear hE a; intro a hE
      refine WL.vS hS hE (runs_plain rfl) (Gives.p hE rfl) rfl ?_; clear hE a; intro a hE
      refine WL.vS hS hE (runs_plain rfl) (Gives.p hE rfl) rfl ?_; clear hE a; intro a hE
      refine WL.nil ?_
      subst hK93
      exact ⟨q119.1, q119.2, a121, s123, hle124, Option.some.inj hq85, h122, hE.pick _ ⟨rfl, rfl, rfl, rfl, rfl, rfl, trivial⟩, hS⟩
     ·replace hq85 := iteF hc94 hq85
      refine W.skip ?_
      subst hK93
      exact ⟨q69, q72, a70, s67, (Sg.Le.refl _), Option.some.inj hq85, h71, hE.pick _ ⟨rfl, rfl, rfl, rfl, rfl, rfl, trivial⟩, hS⟩
    ·clear hE hS a w; rintro a w ⟨q89, q92, a90, s87, hle88, rfl, h91, hE, hS⟩
     dsimp only at hq58
     replace h71 := Pt.mono RMendSolver.mono hle88 h71
     replace h1 := Sl.mono RI.mono hle88 h1
     replace h0_0 := Sl.mono RI.mono hle88 h0_0
     replace h0_1 := Sl.mono RI.mono hle88 h0_1
     replace h0_2 := Sl.mono RI.mono hle88 h0_2
     replace h0_3 := Sl.mono RMendArc.mono hle88 h0_3
     replace h0_4 := Sl.mono RMendChoice.mono hle88 h0_4
     refine W.region ?_
     refine WL.vS hS hE (runs_plain rfl) (Gives.inc hE rfl (by have := h1.small; omega)) rfl ?_; clear hE a; intro a hE
     refine WL.vS hS hE (runs_plain rfl) (Gives.p hE rfl) rfl ?_; clear hE a; intro a hE
     refine WL.nil ?_
     subst hK73
     exact ⟨rest62.length, Nat.lt_succ_self _, rest62, k60 + 1, q89, q92, a90, s87, rfl, hd63, (Sg.Le.trans hle68 hle88), hq58, h91, hE.pick _ ⟨rfl, rfl, rfl, rfl, rfl, rfl, trivial⟩, hS⟩
 ·clear hE hS a w; rintro a w ⟨q69, q72, a70, s67, hle68, rfl, h71, hE, hS⟩
  dsimp only at hr
  replace h0_0 := Sl.mono RI.mono hle68 h0_0
  replace h0_1 := Sl.mono RI.mono hle68 h0_1
  replace h0_2 := Sl.mono RI.mono hle68 h0_2
  replace h0_3 := Sl.mono RMendArc.mono hle68 h0_3
  replace h0_4 := Sl.mono RMendChoice.mono hle68 h0_4
  replace h1 := Sl.mono RI.mono hle68 h1
  replace h55 := Pt.mono RMendSolver.mono hle68 h55
  refine W.seq (W.region ?_)
  refine WL.vS hS hE (runs_plain rfl) (Gives.p hE rfl) rfl ?_; clear hE a; intro a hE
  refine WL.vS hS hE (runs_plain rfl) (Gives.p hE rfl) rfl ?_; clear hE a; intro a hE
  refine WL.vS hS hE (runs_plain rfl) (Gives.p hE rfl) rfl ?_; clear hE a; intro a hE
  refine WL.vS hS hE (runs_plain rfl) (Gives.p hE rfl) rfl ?_; clear hE a; intro a hE
  refine WL.nil ?_
  refine W.ret ?_
  refine finG (fn := Try.f86) (rs := [.tmp 4, .tmp 5]) (vs := [_, _]) hE rfl ⟨rfl, rfl, trivial⟩ ?_
  obtain rfl := Option.some.inj hr
  replace hS := hS.tail
  exact ⟨a70, s67, rfl, (Sg.Le.trans hle57 hle68), h71, hS⟩
set_option maxHeartbeats 8000000 in
theorem MendTimes_ok {fu : Nat}  {w : World} {s : Sg} {R : List HP} {x0 : MendGraph} {a0_0 : Option Addr} {c0_0 : Nat} {a0_1 : Option Addr} {c0_1 : Nat} {a0_2 : Option Addr} {c0_2 : Nat} {a0_3 : Option Addr} {c0_3 : Nat} {a0_4 : Option Addr} {c0_4 : Nat} {x1 : List Int} {a1 : Option Addr} {c1 : Nat} (hS : St w s (R)) (h0_0 : Sl 1 (RI .i64) s a0_0 c0_0 x0.Ready) (h0_1 : Sl 1 (RI .i64) s a0_1 c0_1 x0.Last) (h0_2 : Sl 1 (RI .i64) s a0_2 c0_2 x0.Due) (h0_3 : Sl 3 RMendArc s a0_3 c0_3 x0.Arcs) (h0_4 : Sl 1 RMendChoice s a0_4 c0_4 x0.Choices) (h1 : Sl 1 (RI .i64) s a1 c1 x1) {r : (List Int) × Int} (hr : MendTimes fu x0 x1 = some r) :
  Calls Try.prog 63 [.agg [.slice a0_0 x0.Ready.length c0_0, .slice a0_1 x0.Last.length c0_1, .slice a0_2 x0.Due.length c0_2, .slice a0_3 x0.Arcs.length c0_3, .slice a0_4 x0.Choices.length c0_4].toArray, .slice a1 x1.length c1].toArray w (fun e w => ∃ (a0 : Option Addr) (c0 : Nat) (t : Sg), e = .returned (.tuple #[.slice a0 r.1.length c0, .int .i64 r.2]) ∧ s.Le t ∧ Sl 1 (RI .i64) t a0 c0 r.1 ∧ St w t (R)) := by
 refine enter Try.func63 rfl rfl rfl fun a hE => ?_
 rw [MendTimes] at hr
 refine W.seq (W.region ?_)
 refine WL.box hE hS (runs_plain rfl) rfl rfl rfl ?_; clear hE hS a w; intro b51 a w hE hS
 refine WL.vS hS hE (runs_plain rfl) (Gives.p hE rfl) rfl ?_; clear hE a; intro a hE
 refine WL.vS hS hE (runs_plain rfl) (Gives.p hE rfl) rfl ?_; clear hE a; intro a hE
 refine WL.nil ?_
 refine W.seq ?_
 refine W.seq (W.region ?_)
 refine WL.vS hS hE (runs_plain rfl) (Gives.loadBA hE 0 rfl rfl ty100) rfl ?_; clear hE a; intro a hE
 refine WL.vS hS hE (runs_plain rfl) (Gives.p hE rfl) rfl ?_; clear hE a; intro a hE
 obtain ⟨q52, hq53, hr⟩ := bindS hr
 have hc_ := MendcheckPick_ok hS h0_0 h0_1 h0_2 h0_3 h0_4 h1 hq53
 refine WL.fnq hE (hc_) (runs_plain rfl) bd85 rfl rfl rfl ?_
 clear hE hS hc_; rintro e w ⟨rfl, hS⟩; refine ⟨_, rfl, ?_⟩; clear a; intro a hE
 refine WL.vS hS hE (runs_plain rfl) (Gives.p hE rfl) rfl ?_; clear hE a; intro a hE
 refine WL.nil ?_
 refine W.seq (W.region ?_)
 refine WL.vS hS hE (runs_plain rfl) (Gives.p hE rfl) rfl ?_; clear hE a; intro a hE
 refine WL.vS hS hE (runs_plain rfl) (Gives.p hE rfl) rfl ?_; clear hE a; intro a hE
 refine WL.nil ?_
 refine W.cond hE rfl (fun hc54 => ?_) (fun hc54 => ?_)
 ·replace hr := iteT hc54 hr
  refine W.seq (W.region ?_)
  refine WL.vS hS hE (runs_plain rfl) (Gives.p hE rfl) rfl ?_; clear hE a; intro a hE
  refine WL.vS hS hE (runs_plain rfl) (Gives.p hE rfl) rfl ?_; clear hE a; intro a hE
  refine WL.vS hS hE (runs_plain rfl) (Gives.p hE rfl) rfl ?_; clear hE a; intro a hE
  refine WL.nil ?_
  refine W.ret ?_
  refine finG (fn := Try.f63) (rs := [.tmp 4, .tmp 5]) (vs := [_, _]) hE rfl ⟨rfl, rfl, trivial⟩ ?_
  obtain rfl := Option.some.inj hr
  replace hS := hS.tail
  exact ⟨none, 0, s, rfl, (Sg.Le.refl _), Sl.nil, hS⟩
 ·replace hr := iteF hc54 hr
  refine W.skip ?_
  refine W.seq (W.region ?_)
  refine WL.vS hS hE (runs_plain rfl) (Gives.loadBA hE 0 rfl rfl ty100) rfl ?_; clear hE a; intro a hE
  refine WL.vS hS hE (runs_plain rfl) (Gives.p hE rfl) rfl ?_; clear hE a; intro a hE
  obtain ⟨q55, hq56, hr⟩ := bindS hr
  have hc_ := Mendpicked_ok hS h0_0 h0_1 h0_2 h0_3 h0_4 h1 hq56
  refine WL.fnq hE (hc_) (runs_plain rfl) bd86 rfl rfl rfl ?_
  clear hE hS hc_; rintro e w ⟨a57, s59, rfl, hle60, h58, hS⟩; refine ⟨_, rfl, ?_⟩; clear a; intro a hE
  replace h0_0 := Sl.mono RI.mono hle60 h0_0
  replace h0_1 := Sl.mono RI.mono hle60 h0_1
  replace h0_2 := Sl.mono RI.mono hle60 h0_2
  replace h0_3 := Sl.mono RMendArc.mono hle60 h0_3
  replace h0_4 := Sl.mono RMendChoice.mono hle60 h0_4
  replace h1 := Sl.mono RI.mono hle60 h1
  refine WL.vS hS hE (runs_plain rfl) (Gives.p hE rfl) rfl ?_; clear hE a; intro a hE
  refine WL.vS hS hE (runs_plain rfl) (Gives.p hE rfl) rfl ?_; clear hE a; intro a hE
  refine WL.vS hS hE (runs_plain rfl) (Gives.p hE rfl) rfl ?_; clear hE a; intro a hE
  refine WL.vS hS hE (runs_plain rfl) (Gives.p hE rfl) rfl ?_; clear hE a; intro a hE
  refine WL.vS hS hE (runs_plain rfl) (Gives.p hE rfl) rfl ?_; clear hE a; intro a hE
  refine WL.nil ?_
  refine W.seq ?_
  refine W.seq (W.region ?_)
  refine WL.vS hS hE (runs_plain rfl) (Gives.p hE rfl) rfl ?_; clear hE a; intro a hE
  refine WL.vS hS hE (runs_plain rfl) (Gives.p hE rfl) rfl ?_; clear hE a; intro a hE
  refine WL.nil ?_
  refine W.cond hE rfl (fun hc61 => ?_) (fun hc61 => ?_)
  ·replace hr := iteT hc61 hr
   refine W.seq (W.region ?_)
   refine WL.vS hS hE (runs_plain rfl) (Gives.p hE rfl) rfl ?_; clear hE a; intro a hE
   refine WL.vS hS hE (runs_plain rfl) (Gives.p hE rfl) rfl ?_; clear hE a; intro a hE
   refine WL.nil ?_
   refine W.ret ?_
   refine finG (fn := Try.f63) (rs := [.tmp 4, .tmp 5]) (vs := [_, _]) hE rfl ⟨rfl, rfl, trivial⟩ ?_
   obtain rfl := Option.some.inj hr
   replace hS := hS.tail
   exact ⟨none, 0, s59, rfl, hle60, Sl.nil, hS⟩
  ·replace hr := iteF hc61 hr
   refine W.skip ?_
   refine W.seq (W.region ?_)
   refine WL.vS hS hE (runs_plain rfl) (Gives.p hE rfl) rfl ?_; clear hE a; intro a hE
   obtain ⟨x62, hx63, hr⟩ := bindS hr
   obtain ⟨b64, o65, cs66, rfl, hl67, hR68, hat69⟩ := h58.at hx63
   obtain ⟨a70, c71, a73, c74, a76, c77, rfl, h72, h75, h78⟩ := hR68
   refine WL.vS hS hE (runs_plain rfl) (Gives.nilOk hE rfl) rfl ?_; clear hE a; intro a hE
   refine WL.vS hS hE (runs_plain rfl) (Gives.fld hE rfl fl127_0) rfl ?_; clear hE a; intro a hE
   refine WL.vS hS hE (runs_plain rfl) (Gives.load1 hE rfl (fun w h => (hat69 w _ h).one rfl) ty29) rfl ?_; clear hE a; intro a hE
   refine WL.vS hS hE (runs_plain rfl) (Gives.p hE rfl) rfl ?_; clear hE a; intro a hE
   refine WL.vS hS hE (runs_plain rfl) (Gives.p hE rfl) rfl ?_; clear hE a; intro a hE
   refine WL.nil ?_
   refine W.ret ?_
   refine finG (fn := Try.f63) (rs := [.tmp 4, .tmp 5]) (vs := [_, _]) hE rfl ⟨rfl, rfl, trivial⟩ ?_
   obtain rfl := Option.some.inj hr
   replace hS := hS.tail
   exact ⟨a70, c71, s59, rfl, hle60, h72, hS⟩
set_option maxHeartbeats 8000000 in
theorem FishtopawakeMend_ok {fu : Nat}  {w : World} {s : Sg} {R : List HP}  (hS : St w s (R))  {r : Bool} (hr : FishtopawakeMend fu = some r) :
  Calls Try.prog 27 [].toArray w (fun e w => e = .returned (.bool r) ∧ St w s (R)) := by
 refine enter Try.func27 rfl rfl rfl fun a hE => ?_
 rw [FishtopawakeMend] at hr
 refine W.seq (W.region ?_)
 refine WL.vS hS hE (runs_plain rfl) (Gives.p hE rfl) rfl ?_; clear hE a; intro a hE
 refine WL.nil ?_
 refine W.seq (W.region ?_)
 refine WL.vS hS hE (runs_plain rfl) (Gives.build hE (vs := []) [.slice none 0 0, .slice none 0 0, .slice none 0 0, .slice none 0 0, .slice none 0 0] rfl (by kernel_rfl)) rfl ?_; clear hE a; intro a hE
 refine WL.lit hE hS (e := 3) (es := 1) (vs := [(0, .int .i64 (-1))]) (cs := [.int .i64 (-1)]) (runs_plain rfl) rfl (by kernel_rfl) rfl ?_; clear hE hS a w; intro b51 a w hE hS
 replace hS := hS.ptVec (es := 1) (m := 1) rfl (by decide)
 have h53 : Ev 1 (RI .i64) s [.int .i64 (-1)] [(-1)] := (Ev.cons (c1 := [.int .i64 (-1)]) rfl rfl (Ev.nil))
 have hF := hS.fixD RI.mono 0 rfl h53 (rfl); clear hS; obtain ⟨s54, hle55, hS, h56⟩ := hF
 obtain ⟨q57, hq58, hr⟩ := bindS hr
 have hc_ := MendTimes_ok hS Sl.nil Sl.nil Sl.nil Sl.nil Sl.nil h56 hq58
 refine WL.fnq hE (hc_) (runs_plain rfl) bd63 rfl rfl rfl ?_
 clear hE hS hc_; rintro e w ⟨a59, c60, s62, rfl, hle63, h61, hS⟩; refine ⟨_, rfl, ?_⟩; clear a; intro a hE
 replace h56 := Sl.mono RI.mono hle63 h56
 refine WL.vS hS hE (runs_plain rfl) (Gives.p hE rfl) rfl ?_; clear hE a; intro a hE
 refine WL.vS hS hE (runs_plain rfl) (Gives.p hE rfl) rfl ?_; clear hE a; intro a hE
 refine WL.vS hS hE (runs_plain rfl) (Gives.p hE rfl) rfl ?_; clear hE a; intro a hE
 refine WL.vS hS hE (runs_plain rfl) (Gives.p hE rfl) rfl ?_; clear hE a; intro a hE
 refine WL.vS hS hE (runs_plain rfl) (Gives.p hE rfl) rfl ?_; clear hE a; intro a hE
 refine WL.nil ?_
 refine W.seq (W.region ?_)
 refine WL.vS hS hE (runs_plain rfl) (Gives.p hE rfl) rfl ?_; clear hE a; intro a hE
 refine WL.vS hS hE (runs_plain rfl) (Gives.p hE rfl) rfl ?_; clear hE a; intro a hE
 refine WL.vS hS hE (runs_plain rfl) (Gives.p hE rfl) rfl ?_; clear hE a; intro a hE
 refine WL.nil ?_
 refine W.ret ?_
 refine finG (fn := Try.f27) (rs := [.tmp 0]) (vs := [_]) hE rfl ⟨rfl, trivial⟩ ?_
 obtain rfl := Option.some.inj hr
 exact ⟨rfl, (hS.down (Sg.Le.trans hle55 hle63))⟩
set_option maxHeartbeats 8000000 in
theorem Planwithin_ok  {w : World} {s : Sg} {R : List HP} {x0 : Int} {x1 : Int} {x2 : Int} (hS : St w s (R))  {r : Bool} (hr : Planwithin x0 x1 x2 = r) :
  Calls Try.prog 35 [.int .i64 x0, .int .i64 x1, .int .i64 x2].toArray w (fun e w => e = .returned (.bool r) ∧ St w s (R)) := by
 refine enter Try.func35 rfl rfl rfl fun a hE => ?_
 rw [Planwithin] at hr
 refine W.seq (W.region ?_)
 refine WL.vS hS hE (runs_plain rfl) (Gives.p hE rfl) rfl ?_; clear hE a; intro a hE
 refine WL.nil ?_
 refine W.seq ?_
 obtain ⟨q52, hq51, hr⟩ := bndS hr
 refine W.cut (fun a w => ∃ (q55 : Bool), q55 = q52 ∧ Rep a 15 [(6, .bool q55)] ∧ St w s (R)) ?_ ?_
 ·refine W.gen fun K56 hK56 => ?_
  refine W.region ?_
  refine WL.vS hS hE (runs_plain rfl) (Gives.p hE rfl) rfl ?_; clear hE a; intro a hE
  refine WL.vS hS hE (runs_plain rfl) (Gives.p hE rfl) rfl ?_; clear hE a; intro a hE
  refine WL.vS hS hE (runs_plain rfl) (Gives.p hE rfl) rfl ?_; clear hE a; intro a hE
  refine WL.vS hS hE (runs_plain rfl) (Gives.p hE rfl) rfl ?_; clear hE a; intro a hE
  rcases Bool.eq_false_or_eq_true (decide (x0 ≥ x1)) with hg57 | hg57
  ·replace hq51 := iteT hg57 hq51
   refine WL.vS hS hE (runs_if hE rfl rfl rfl hg57) (Gives.p hE rfl) rfl ?_; clear hE a; intro a hE
   refine WL.vS hS hE (runs_if hE rfl rfl rfl hg57) (Gives.p hE rfl) rfl ?_; clear hE a; intro a hE
   refine WL.vS hS hE (runs_if hE rfl rfl rfl hg57) (Gives.p hE rfl) rfl ?_; clear hE a; intro a hE
   refine WL.vS hS hE (runs_plain rfl) (Gives.pickT hE rfl hg57 rfl) rfl ?_; clear hE a; intro a hE
   refine WL.vS hS hE (runs_plain rfl) (Gives.p hE rfl) rfl ?_; clear hE a; intro a hE
   refine WL.nil ?_
   subst hK56
   exact ⟨decide (x0 ≤ x2), hq51, hE.pick _ ⟨rfl, trivial⟩, hS⟩
  ·replace hq51 := iteF hg57 hq51
   refine WL.no hE (runs_not hE rfl rfl rfl (by rw [hg57]; decide)) rfl ?_; clear hE a; intro a hE
   refine WL.no hE (runs_not hE rfl rfl rfl (by rw [hg57]; decide)) rfl ?_; clear hE a; intro a hE
   refine WL.no hE (runs_not hE rfl rfl rfl (by rw [hg57]; decide)) rfl ?_; clear hE a; intro a hE
   refine WL.vS hS hE (runs_plain rfl) (Gives.pickF hE rfl hg57 rfl) rfl ?_; clear hE a; intro a hE
   refine WL.vS hS hE (runs_plain rfl) (Gives.p hE rfl) rfl ?_; clear hE a; intro a hE
   refine WL.nil ?_
   subst hK56
   exact ⟨false, hq51, hE.pick _ ⟨rfl, trivial⟩, hS⟩
 ·clear hE hS a w; rintro a w ⟨q55, rfl, hE, hS⟩
  refine W.ret ?_
  refine finG (fn := Try.f35) (rs := [.tmp 6]) (vs := [_]) hE rfl ⟨rfl, trivial⟩ ?_
  subst hr
  exact ⟨rfl, hS⟩
set_option maxHeartbeats 8000000 in
theorem PlanCheckPeriodic_ok  {w : World} {s : Sg} {R : List HP} {x0 : PlanPeriodic} {a0_0 : Option Addr} {c0_0 : Nat} (hS : St w s (R)) (h0_0 : Sl 5 RPlanRule s a0_0 c0_0 x0.Rules) {r : Int} (hr : PlanCheckPeriodic x0 = r) :
  Calls Try.prog 10 [.agg [.int .i64 x0.Period, .int .i64 x0.Events, .slice a0_0 x0.Rules.length c0_0].toArray].toArray w (fun e w => e = .returned (.int .i64 r) ∧ St w s (R)) := by
 refine enter Try.func10 rfl rfl rfl fun a hE => ?_
 rw [PlanCheckPeriodic] at hr
 refine W.seq (W.region ?_)
 refine WL.box hE hS (runs_plain rfl) rfl rfl rfl ?_; clear hE hS a w; intro b51 a w hE hS
 refine WL.vS hS hE (runs_plain rfl) (Gives.p hE rfl) rfl ?_; clear hE a; intro a hE
 refine WL.nil ?_
 refine W.seq ?_
 refine W.block ?_
 refine W.seq ?_
 obtain ⟨q53, hq52, hr⟩ := bndS hr
 refine W.cut (fun a w => ∃ (q56 : Bool), q56 = q53 ∧ Rep a 77 [(1, .pointer (some ⟨b51, 0, none⟩)), (5, .bool q56)] ∧ St w s (pt b51 (.cells #[.int .i64 x0.Period, .int .i64 x0.Events, .slice a0_0 x0.Rules.length c0_0] 24 (0, 0)) :: R)) ?_ ?_
 ·refine W.gen fun K57 hK57 => ?_
  refine W.region ?_
  refine WL.vS hS hE (runs_plain rfl) (Gives.fld hE rfl fl24_0) rfl ?_; clear hE a; intro a hE
  refine WL.vS hS hE (runs_plain rfl) (Gives.loadB hE 0 rfl rfl rfl ty3) rfl ?_; clear hE a; intro a hE
  refine WL.fnq hE (Planwithin_ok hS  rfl (r := Planwithin x0.Period 2 3600)) (runs_plain rfl) bd35 rfl rfl rfl ?_
  clear hE hS; rintro e w ⟨rfl, hS⟩; refine ⟨_, rfl, ?_⟩; clear a; intro a hE
  refine WL.vS hS hE (runs_plain rfl) (Gives.p hE rfl) rfl ?_; clear hE a; intro a hE
  refine WL.vS hS hE (runs_plain rfl) (Gives.p hE rfl) rfl ?_; clear hE a; intro a hE
  rcases Bool.eq_false_or_eq_true (!(Planwithin x0.Period 2 3600)) with hg58 | hg58
  ·replace hq52 := iteT hg58 hq52
   refine WL.no hE (runs_not hE rfl rfl rfl (by rw [hg58]; decide)) rfl ?_; clear hE a; intro a hE
   refine WL.no hE (runs_not hE rfl rfl rfl (by rw [hg58]; decide)) rfl ?_; clear hE a; intro a hE
   refine WL.no hE (runs_not hE rfl rfl rfl (by rw [hg58]; decide)) rfl ?_; clear hE a; intro a hE
   refine WL.no hE (runs_not hE rfl rfl rfl (by rw [hg58]; decide)) rfl ?_; clear hE a; intro a hE
   refine WL.vS hS hE (runs_plain rfl) (Gives.pickT hE rfl hg58 rfl) rfl ?_; clear hE a; intro a hE
   refine WL.vS hS hE (runs_plain rfl) (Gives.p hE rfl) rfl ?_; clear hE a; intro a hE
   refine WL.nil ?_
   subst hK57
   exact ⟨true, hq52, hE.pick _ ⟨rfl, rfl, trivial⟩, hS⟩
  ·replace hq52 := iteF hg58 hq52
   refine WL.vS hS hE (runs_if hE rfl rfl rfl hg58) (Gives.fld hE rfl fl24_1) rfl ?_; clear hE a; intro a hE
   refine WL.vS hS hE (runs_if hE rfl rfl rfl hg58) (Gives.loadB hE 0 rfl rfl rfl ty3) rfl ?_; clear hE a; intro a hE
   refine WL.fnq hE (Planwithin_ok hS  rfl (r := Planwithin x0.Events 1 8)) (runs_if hE rfl rfl rfl hg58) bd35 rfl rfl rfl ?_
   clear hE hS; rintro e w ⟨rfl, hS⟩; refine ⟨_, rfl, ?_⟩; clear a; intro a hE
   refine WL.vS hS hE (runs_if hE rfl rfl rfl hg58) (Gives.p hE rfl) rfl ?_; clear hE a; intro a hE
   refine WL.vS hS hE (runs_plain rfl) (Gives.pickF hE rfl hg58 rfl) rfl ?_; clear hE a; intro a hE
   refine WL.vS hS hE (runs_plain rfl) (Gives.p hE rfl) rfl ?_; clear hE a; intro a hE
   refine WL.nil ?_
   subst hK57
   exact ⟨!(Planwithin x0.Events 1 8), hq52, hE.pick _ ⟨rfl, rfl, trivial⟩, hS⟩
 ·clear hE hS a w; rintro a w ⟨q56, rfl, hE, hS⟩
  refine W.cond hE rfl (fun hc59 => ?_) (fun hc59 => ?_)
  ·replace hr := iteT hc59 hr
   refine W.seq (W.region ?_)
   refine WL.vS hS hE (runs_plain rfl) (Gives.p hE rfl) rfl ?_; clear hE a; intro a hE
   refine WL.nil ?_
   refine W.ret ?_
   refine finG (fn := Try.f10) (rs := [.tmp 2]) (vs := [_]) hE rfl ⟨rfl, trivial⟩ ?_
   subst hr
   replace hS := hS.tail
   exact ⟨rfl, hS⟩
  ·replace hr := iteF hc59 hr
   refine W.seq (W.region ?_)
   refine WL.vS hS hE (runs_plain rfl) (Gives.fld hE rfl fl24_2) rfl ?_; clear hE a; intro a hE
   refine WL.vS hS hE (runs_plain rfl) (Gives.loadB hE 0 rfl rfl rfl ty22) rfl ?_; clear hE a; intro a hE
   refine WL.vS hS hE (runs_plain rfl) (Gives.len hE rfl sl22) rfl ?_; clear hE a; intro a hE
   refine WL.vS hS hE (runs_plain rfl) (Gives.p hE rfl) rfl ?_; clear hE a; intro a hE
   refine WL.vS hS hE (runs_plain rfl) (Gives.p hE rfl) rfl ?_; clear hE a; intro a hE
   refine WL.nil ?_
   refine W.cond hE rfl (fun hc60 => ?_) (fun hc60 => ?_)
   ·replace hr := iteT hc60 hr
    refine W.seq (W.region ?_)
    refine WL.vS hS hE (runs_plain rfl) (Gives.p hE rfl) rfl ?_; clear hE a; intro a hE
    refine WL.nil ?_
    refine W.ret ?_
    refine finG (fn := Try.f10) (rs := [.tmp 2]) (vs := [_]) hE rfl ⟨rfl, trivial⟩ ?_
    subst hr
    replace hS := hS.tail
    exact ⟨rfl, hS⟩
   ·replace hr := iteF hc60 hr
    refine W.skip ?_
    refine W.seq ?_
    refine W.seq (W.region ?_)
    refine WL.vS hS hE (runs_plain rfl) (Gives.fld hE rfl fl24_2) rfl ?_; clear hE a; intro a hE
    refine WL.vS hS hE (runs_plain rfl) (Gives.loadB hE 0 rfl rfl rfl ty22) rfl ?_; clear hE a; intro a hE
    refine WL.vS hS hE (runs_plain rfl) (Gives.len hE rfl sl22) rfl ?_; clear hE a; intro a hE
    refine WL.vS hS hE (runs_plain rfl) (Gives.p hE rfl) rfl ?_; clear hE a; intro a hE
    refine WL.nil ?_
    obtain ⟨q62, hq61, hr⟩ := bndS hr
    refine W.cut (fun a w => (.next ()) = q62 ∧ Rep a 77 [] ∧ St w s (pt b51 (.cells #[.int .i64 x0.Period, .int .i64 x0.Events, .slice a0_0 x0.Rules.length c0_0] 24 (0, 0)) :: R)) ?_ ?_
    ·refine W.block ?_
     refine W.loop (fun m a w => ∃ (rest65 : List PlanRule) (k63 : Nat), rest65.length = m ∧ x0.Rules.drop k63 = rest65 ∧ PlanCheckPeriodic.loop1 x0 rest65 = q62 ∧ Rep a 77 [(1, .pointer (some ⟨b51, 0, none⟩)), (22, .slice a0_0 x0.Rules.length c0_0), (23, .int .i64 ((x0.Rules).length : Int)), (24, .int .i64 ((k63 : Nat) : Int))] ∧ St w s (pt b51 (.cells #[.int .i64 x0.Period, .int .i64 x0.Events, .slice a0_0 x0.Rules.length c0_0] 24 (0, 0)) :: R)) (m := x0.Rules.length) ⟨x0.Rules, 0, rfl, rfl, hq61, hE.pick _ ⟨rfl, rfl, rfl, rfl, trivial⟩, hS⟩ ?_
     clear hE hS a w hq61; rintro m69 a w ⟨rest65, k63, rfl, hd66, hq61, hE, hS⟩
     refine W.gen fun K72 hK72 => ?_
     rcases rest65 with _ | ⟨x64, rest65⟩
     ·have hlt67 := drop_nil hd66
      refine W.seq (W.region ?_)
      refine WL.vS hS hE (runs_plain rfl) (Gives.p hE rfl) rfl ?_; clear hE a; intro a hE
      refine WL.nil ?_
      refine W.seq ?_
      refine W.condF hE rfl (decide_eq_false (by omega)) ?_
      subst hK72
      refine W.exit rfl ?_
      exact ⟨hq61, hE.pick _ trivial, hS⟩
     ·obtain ⟨hlt67, hx68, hd66⟩ := drop_cons hd66
      rw [PlanCheckPeriodic.loop1] at hq61
      refine W.seq (W.region ?_)
      refine WL.vS hS hE (runs_plain rfl) (Gives.p hE rfl) rfl ?_; clear hE a; intro a hE
      refine WL.nil ?_
      refine W.seq ?_
      refine W.condT hE rfl (decide_eq_true (by omega)) ?_
      refine W.skip ?_
      refine W.seq ?_
      refine W.block ?_
      refine W.seq (W.region ?_)
      obtain ⟨cs73, hl74, hR75, hat76⟩ := h0_0.at hx68
      subst hR75
      refine WL.vS hS hE (runs_plain rfl) (Gives.idx hE k63 rfl rfl sl22 rfl hlt67 (h0_0.aok hlt67)) rfl ?_; clear hE a; intro a hE
      refine WL.vS hS hE (runs_plain rfl) (Gives.loadA hE rfl (fun w h => hat76 w _ h) ty37) rfl ?_; clear hE a; intro a hE
      refine WL.alloc hE hS (runs_plain rfl) zr37 rfl ?_; clear hE hS a w; intro b77 a w hE hS
      refine WL.storeI hE hS 0 rfl (PlanRule.cells x64) (runs_plain rfl) rfl rfl rfl ty37 rfl rfl rfl rfl ?_; clear hE hS a w; intro a w hE hS
      refine WL.nil ?_
      refine W.block ?_
      refine W.seq ?_
      obtain ⟨q79, hq78, hq61⟩ := bndS hq61
      refine W.cut (fun a w => ∃ (q82 : Bool), q82 = q79 ∧ Rep a 77 [(1, .pointer (some ⟨b51, 0, none⟩)), (4, .pointer (some ⟨b77, 0, none⟩)), (22, .slice a0_0 x0.Rules.length c0_0), (23, .int .i64 ((x0.Rules).length : Int)), (24, .int .i64 ((k63 : Nat) : Int)), (28, .bool q82)] ∧ St w s (pt b77 (.cells (PlanRule.cells x64).toArray 37 (0, 0)) :: pt b51 (.cells #[.int .i64 x0.Period, .int .i64 x0.Events, .slice a0_0 x0.Rules.length c0_0] 24 (0, 0)) :: R)) ?_ ?_
      ·refine W.gen fun K83 hK83 => ?_
       refine W.region ?_
       refine WL.vS hS hE (runs_plain rfl) (Gives.fld hE rfl fl37_0) rfl ?_; clear hE a; intro a hE
       refine WL.vS hS hE (runs_plain rfl) (Gives.loadB hE 0 rfl rfl rfl ty3) rfl ?_; clear hE a; intro a hE
       refine WL.vS hS hE (runs_plain rfl) (Gives.fld hE rfl fl24_1) rfl ?_; clear hE a; intro a hE
       refine WL.vS hS hE (runs_plain rfl) (Gives.loadB hE 1 rfl rfl rfl ty3) rfl ?_; clear hE a; intro a hE
       refine WL.vS hS hE (runs_plain rfl) (Gives.p hE rfl) rfl ?_; clear hE a; intro a hE
       refine WL.fnq hE (Planwithin_ok hS  rfl (r := Planwithin x64.From 0 (w64 (x0.Events - 1)))) (runs_plain rfl) bd35 rfl rfl rfl ?_
       clear hE hS; rintro e w ⟨rfl, hS⟩; refine ⟨_, rfl, ?_⟩; clear a; intro a hE
       refine WL.vS hS hE (runs_plain rfl) (Gives.p hE rfl) rfl ?_; clear hE a; intro a hE
       refine WL.vS hS hE (runs_plain rfl) (Gives.p hE rfl) rfl ?_; clear hE a; intro a hE
       rcases Bool.eq_false_or_eq_true (!(Planwithin x64.From 0 (w64 (x0.Events - 1)))) with hg84 | hg84
       ·replace hq78 := iteT hg84 hq78
        refine WL.no hE (runs_not hE rfl rfl rfl (by rw [hg84]; decide)) rfl ?_; clear hE a; intro a hE
        refine WL.no hE (runs_not hE rfl rfl rfl (by rw [hg84]; decide)) rfl ?_; clear hE a; intro a hE
        refine WL.no hE (runs_not hE rfl rfl rfl (by rw [hg84]; decide)) rfl ?_; clear hE a; intro a hE
        refine WL.no hE (runs_not hE rfl rfl rfl (by rw [hg84]; decide)) rfl ?_; clear hE a; intro a hE
        refine WL.no hE (runs_not hE rfl rfl rfl (by rw [hg84]; decide)) rfl ?_; clear hE a; intro a hE
        refine WL.no hE (runs_not hE rfl rfl rfl (by rw [hg84]; decide)) rfl ?_; clear hE a; intro a hE
        refine WL.no hE (runs_not hE rfl rfl rfl (by rw [hg84]; decide)) rfl ?_; clear hE a; intro a hE
        refine WL.vS hS hE (runs_plain rfl) (Gives.pickT hE rfl hg84 rfl) rfl ?_; clear hE a; intro a hE
        refine WL.vS hS hE (runs_plain rfl) (Gives.p hE rfl) rfl ?_; clear hE a; intro a hE
        refine WL.nil ?_
        subst hK83
        exact ⟨true, hq78, hE.pick _ ⟨rfl, rfl, rfl, rfl, rfl, rfl, trivial⟩, hS⟩
       ·replace hq78 := iteF hg84 hq78
        refine WL.vS hS hE (runs_if hE rfl rfl rfl hg84) (Gives.fld hE rfl fl37_1) rfl ?_; clear hE a; intro a hE
        refine WL.vS hS hE (runs_if hE rfl rfl rfl hg84) (Gives.loadB hE 0 rfl rfl rfl ty3) rfl ?_; clear hE a; intro a hE
        refine WL.vS hS hE (runs_if hE rfl rfl rfl hg84) (Gives.fld hE rfl fl24_1) rfl ?_; clear hE a; intro a hE
        refine WL.vS hS hE (runs_if hE rfl rfl rfl hg84) (Gives.loadB hE 1 rfl rfl rfl ty3) rfl ?_; clear hE a; intro a hE
        refine WL.vS hS hE (runs_if hE rfl rfl rfl hg84) (Gives.p hE rfl) rfl ?_; clear hE a; intro a hE
        refine WL.fnq hE (Planwithin_ok hS  rfl (r := Planwithin x64.To 0 (w64 (x0.Events - 1)))) (runs_if hE rfl rfl rfl hg84) bd35 rfl rfl rfl ?_
        clear hE hS; rintro e w ⟨rfl, hS⟩; refine ⟨_, rfl, ?_⟩; clear a; intro a hE
        refine WL.vS hS hE (runs_if hE rfl rfl rfl hg84) (Gives.p hE rfl) rfl ?_; clear hE a; intro a hE
        refine WL.vS hS hE (runs_plain rfl) (Gives.pickF hE rfl hg84 rfl) rfl ?_; clear hE a; intro a hE
        refine WL.vS hS hE (runs_plain rfl) (Gives.p hE rfl) rfl ?_; clear hE a; intro a hE
        refine WL.nil ?_
        subst hK83
        exact ⟨!(Planwithin x64.To 0 (w64 (x0.Events - 1))), hq78, hE.pick _ ⟨rfl, rfl, rfl, rfl, rfl, rfl, trivial⟩, hS⟩
      ·clear hE hS a w; rintro a w ⟨q82, rfl, hE, hS⟩
       refine W.cond hE rfl (fun hc85 => ?_) (fun hc85 => ?_)
       ·replace hq61 := iteT hc85 hq61
        refine W.seq (W.region ?_)
        refine WL.vS hS hE (runs_plain rfl) (Gives.p hE rfl) rfl ?_; clear hE a; intro a hE
        refine WL.nil ?_
        refine W.ret ?_
        subst hK72
        rw [← hq61] at hr
        dsimp only at hr
        refine finG (fn := Try.f10) (rs := [.tmp 2]) (vs := [_]) hE rfl ⟨rfl, trivial⟩ ?_
        subst hr
        replace hS := hS.tail
        replace hS := hS.tail
        exact ⟨rfl, hS⟩
       ·replace hq61 := iteF hc85 hq61
        refine W.seq (W.region ?_)
        refine WL.vS hS hE (runs_plain rfl) (Gives.fld hE rfl fl37_0) rfl ?_; clear hE a; intro a hE
        refine WL.vS hS hE (runs_plain rfl) (Gives.loadB hE 0 rfl rfl rfl ty3) rfl ?_; clear hE a; intro a hE
        refine WL.vS hS hE (runs_plain rfl) (Gives.fld hE rfl fl37_1) rfl ?_; clear hE a; intro a hE
        refine WL.vS hS hE (runs_plain rfl) (Gives.loadB hE 0 rfl rfl rfl ty3) rfl ?_; clear hE a; intro a hE
        refine WL.vS hS hE (runs_plain rfl) (Gives.p hE rfl) rfl ?_; clear hE a; intro a hE
        refine WL.vS hS hE (runs_plain rfl) (Gives.p hE rfl) rfl ?_; clear hE a; intro a hE
        refine WL.nil ?_
        refine W.cond hE rfl (fun hc86 => ?_) (fun hc86 => ?_)
        ·replace hq61 := iteT hc86 hq61
         refine W.seq (W.region ?_)
         refine WL.vS hS hE (runs_plain rfl) (Gives.p hE rfl) rfl ?_; clear hE a; intro a hE
         refine WL.nil ?_
         refine W.ret ?_
         subst hK72
         rw [← hq61] at hr
         dsimp only at hr
         refine finG (fn := Try.f10) (rs := [.tmp 2]) (vs := [_]) hE rfl ⟨rfl, trivial⟩ ?_
         subst hr
         replace hS := hS.tail
         replace hS := hS.tail
         exact ⟨rfl, hS⟩
        ·replace hq61 := iteF hc86 hq61
         refine W.seq ?_
         obtain ⟨q88, hq87, hq61⟩ := bndS hq61
         refine W.cut (fun a w => ∃ (q91 : Bool), q91 = q88 ∧ Rep a 77 [(1, .pointer (some ⟨b51, 0, none⟩)), (22, .slice a0_0 x0.Rules.length c0_0), (23, .int .i64 ((x0.Rules).length : Int)), (24, .int .i64 ((k63 : Nat) : Int)), (51, .bool q91)] ∧ St w s (pt b77 (.cells (PlanRule.cells x64).toArray 37 (0, 0)) :: pt b51 (.cells #[.int .i64 x0.Period, .int .i64 x0.Events, .slice a0_0 x0.Rules.length c0_0] 24 (0, 0)) :: R)) ?_ ?_
         ·refine W.gen fun K92 hK92 => ?_
          refine W.region ?_
          refine WL.vS hS hE (runs_plain rfl) (Gives.fld hE rfl fl37_2) rfl ?_; clear hE a; intro a hE
          refine WL.vS hS hE (runs_plain rfl) (Gives.loadB hE 0 rfl rfl rfl ty3) rfl ?_; clear hE a; intro a hE
          refine WL.fnq hE (Planwithin_ok hS  rfl (r := Planwithin x64.Min 0 3600)) (runs_plain rfl) bd35 rfl rfl rfl ?_
          clear hE hS; rintro e w ⟨rfl, hS⟩; refine ⟨_, rfl, ?_⟩; clear a; intro a hE
          refine WL.vS hS hE (runs_plain rfl) (Gives.p hE rfl) rfl ?_; clear hE a; intro a hE
          refine WL.vS hS hE (runs_plain rfl) (Gives.p hE rfl) rfl ?_; clear hE a; intro a hE
          rcases Bool.eq_false_or_eq_true (!(Planwithin x64.Min 0 3600)) with hg93 | hg93
          ·replace hq87 := iteT hg93 hq87
           refine WL.no hE (runs_not hE rfl rfl rfl (by rw [hg93]; decide)) rfl ?_; clear hE a; intro a hE
           refine WL.no hE (runs_not hE rfl rfl rfl (by rw [hg93]; decide)) rfl ?_; clear hE a; intro a hE
           refine WL.no hE (runs_not hE rfl rfl rfl (by rw [hg93]; decide)) rfl ?_; clear hE a; intro a hE
           refine WL.no hE (runs_not hE rfl rfl rfl (by rw [hg93]; decide)) rfl ?_; clear hE a; intro a hE
           refine WL.no hE (runs_not hE rfl rfl rfl (by rw [hg93]; decide)) rfl ?_; clear hE a; intro a hE
           refine WL.no hE (runs_not hE rfl rfl rfl (by rw [hg93]; decide)) rfl ?_; clear hE a; intro a hE
           refine WL.no hE (runs_not hE rfl rfl rfl (by rw [hg93]; decide)) rfl ?_; clear hE a; intro a hE
           refine WL.no hE (runs_not hE rfl rfl rfl (by rw [hg93]; decide)) rfl ?_; clear hE a; intro a hE
           refine WL.no hE (runs_not hE rfl rfl rfl (by rw [hg93]; decide)) rfl ?_; clear hE a; intro a hE
           refine WL.no hE (runs_not hE rfl rfl rfl (by rw [hg93]; decide)) rfl ?_; clear hE a; intro a hE
           refine WL.no hE (runs_not hE rfl rfl rfl (by rw [hg93]; decide)) rfl ?_; clear hE a; intro a hE
           refine WL.no hE (runs_not hE rfl rfl rfl (by rw [hg93]; decide)) rfl ?_; clear hE a; intro a hE
           refine WL.vS hS hE (runs_plain rfl) (Gives.pickT hE rfl hg93 rfl) rfl ?_; clear hE a; intro a hE
           refine WL.vS hS hE (runs_plain rfl) (Gives.p hE rfl) rfl ?_; clear hE a; intro a hE
           refine WL.no hE (runs_not hE rfl rfl rfl (by decide)) rfl ?_; clear hE a; intro a hE
           refine WL.no hE (runs_not hE rfl rfl rfl (by decide)) rfl ?_; clear hE a; intro a hE
           refine WL.no hE (runs_not hE rfl rfl rfl (by decide)) rfl ?_; clear hE a; intro a hE
           refine WL.no hE (runs_not hE rfl rfl rfl (by decide)) rfl ?_; clear hE a; intro a hE
           refine WL.vS hS hE (runs_plain rfl) (Gives.pickT hE rfl rfl rfl) rfl ?_; clear hE a; intro a hE
           refine WL.vS hS hE (runs_plain rfl) (Gives.p hE rfl) rfl ?_; clear hE a; intro a hE
           refine WL.nil ?_
           subst hK92
           exact ⟨true, hq87, hE.pick _ ⟨rfl, rfl, rfl, rfl, rfl, trivial⟩, hS⟩
          ·replace hq87 := iteF hg93 hq87
           refine WL.vS hS hE (runs_if hE rfl rfl rfl hg93) (Gives.fld hE rfl fl37_3) rfl ?_; clear hE a; intro a hE
           refine WL.vS hS hE (runs_if hE rfl rfl rfl hg93) (Gives.loadB hE 0 rfl rfl rfl ty3) rfl ?_; clear hE a; intro a hE
           refine WL.vS hS hE (runs_if hE rfl rfl rfl hg93) (Gives.fld hE rfl fl37_2) rfl ?_; clear hE a; intro a hE
           refine WL.vS hS hE (runs_if hE rfl rfl rfl hg93) (Gives.loadB hE 0 rfl rfl rfl ty3) rfl ?_; clear hE a; intro a hE
           refine WL.vS hS hE (runs_if hE rfl rfl rfl hg93) (Gives.fld hE rfl fl37_2) rfl ?_; clear hE a; intro a hE
           refine WL.vS hS hE (runs_if hE rfl rfl rfl hg93) (Gives.loadB hE 0 rfl rfl rfl ty3) rfl ?_; clear hE a; intro a hE
           refine WL.vS hS hE (runs_if hE rfl rfl rfl hg93) (Gives.fld hE rfl fl24_0) rfl ?_; clear hE a; intro a hE
           refine WL.vS hS hE (runs_if hE rfl rfl rfl hg93) (Gives.loadB hE 1 rfl rfl rfl ty3) rfl ?_; clear hE a; intro a hE
           refine WL.vS hS hE (runs_if hE rfl rfl rfl hg93) (Gives.p hE rfl) rfl ?_; clear hE a; intro a hE
           refine WL.vS hS hE (runs_if hE rfl rfl rfl hg93) (Gives.p hE rfl) rfl ?_; clear hE a; intro a hE
           refine WL.fnq hE (Planwithin_ok hS  rfl (r := Planwithin x64.Max x64.Min (w64 ((w64 (x64.Min + x0.Period)) - 1)))) (runs_if hE rfl rfl rfl hg93) bd35 rfl rfl rfl ?_
           clear hE hS; rintro e w ⟨rfl, hS⟩; refine ⟨_, rfl, ?_⟩; clear a; intro a hE
           refine WL.vS hS hE (runs_if hE rfl rfl rfl hg93) (Gives.p hE rfl) rfl ?_; clear hE a; intro a hE
           refine WL.vS hS hE (runs_plain rfl) (Gives.pickF hE rfl hg93 rfl) rfl ?_; clear hE a; intro a hE
           refine WL.vS hS hE (runs_plain rfl) (Gives.p hE rfl) rfl ?_; clear hE a; intro a hE
           rcases Bool.eq_false_or_eq_true (!(Planwithin x64.Max x64.Min (w64 ((w64 (x64.Min + x0.Period)) - 1)))) with hg94 | hg94
           ·replace hq87 := iteT hg94 hq87
            refine WL.no hE (runs_not hE rfl rfl rfl (by rw [hg94]; decide)) rfl ?_; clear hE a; intro a hE
            refine WL.no hE (runs_not hE rfl rfl rfl (by rw [hg94]; decide)) rfl ?_; clear hE a; intro a hE
            refine WL.no hE (runs_not hE rfl rfl rfl (by rw [hg94]; decide)) rfl ?_; clear hE a; intro a hE
            refine WL.no hE (runs_not hE rfl rfl rfl (by rw [hg94]; decide)) rfl ?_; clear hE a; intro a hE
            refine WL.vS hS hE (runs_plain rfl) (Gives.pickT hE rfl hg94 rfl) rfl ?_; clear hE a; intro a hE
            refine WL.vS hS hE (runs_plain rfl) (Gives.p hE rfl) rfl ?_; clear hE a; intro a hE
            refine WL.nil ?_
            subst hK92
            exact ⟨true, hq87, hE.pick _ ⟨rfl, rfl, rfl, rfl, rfl, trivial⟩, hS⟩
           ·replace hq87 := iteF hg94 hq87
            refine WL.vS hS hE (runs_if hE rfl rfl rfl hg94) (Gives.fld hE rfl fl37_4) rfl ?_; clear hE a; intro a hE
            refine WL.vS hS hE (runs_if hE rfl rfl rfl hg94) (Gives.loadB hE 0 rfl rfl rfl ty3) rfl ?_; clear hE a; intro a hE
            refine WL.fnq hE (Planwithin_ok hS  rfl (r := Planwithin x64.Weight 0 1000)) (runs_if hE rfl rfl rfl hg94) bd35 rfl rfl rfl ?_
            clear hE hS; rintro e w ⟨rfl, hS⟩; refine ⟨_, rfl, ?_⟩; clear a; intro a hE
            refine WL.vS hS hE (runs_if hE rfl rfl rfl hg94) (Gives.p hE rfl) rfl ?_; clear hE a; intro a hE
            refine WL.vS hS hE (runs_plain rfl) (Gives.pickF hE rfl hg94 rfl) rfl ?_; clear hE a; intro a hE
            refine WL.vS hS hE (runs_plain rfl) (Gives.p hE rfl) rfl ?_; clear hE a; intro a hE
            refine WL.nil ?_
            subst hK92
            exact ⟨!(Planwithin x64.Weight 0 1000), hq87, hE.pick _ ⟨rfl, rfl, rfl, rfl, rfl, trivial⟩, hS⟩
         ·clear hE hS a w; rintro a w ⟨q91, rfl, hE, hS⟩
          refine W.cond hE rfl (fun hc95 => ?_) (fun hc95 => ?_)
          ·replace hq61 := iteT hc95 hq61
           refine W.seq (W.region ?_)
           refine WL.vS hS hE (runs_plain rfl) (Gives.p hE rfl) rfl ?_; clear hE a; intro a hE
           refine WL.nil ?_
           refine W.ret ?_
           subst hK72
           rw [← hq61] at hr
           dsimp only at hr
           refine finG (fn := Try.f10) (rs := [.tmp 2]) (vs := [_]) hE rfl ⟨rfl, trivial⟩ ?_
           subst hr
           replace hS := hS.tail
           replace hS := hS.tail
           exact ⟨rfl, hS⟩
          ·replace hq61 := iteF hc95 hq61
           refine W.skip ?_
           refine W.region ?_
           refine WL.vS hS hE (runs_plain rfl) (Gives.inc hE rfl (by have := h0_0.small; omega)) rfl ?_; clear hE a; intro a hE
           refine WL.vS hS hE (runs_plain rfl) (Gives.p hE rfl) rfl ?_; clear hE a; intro a hE
           refine WL.nil ?_
           replace hS := hS.tail
           subst hK72
           exact ⟨rest65.length, Nat.lt_succ_self _, rest65, k63 + 1, rfl, hd66, hq61, hE.pick _ ⟨rfl, rfl, rfl, rfl, trivial⟩, hS⟩
    ·clear hE hS a w; rintro a w ⟨rfl, hE, hS⟩
     dsimp only at hr
     refine W.seq (W.region ?_)
     refine WL.vS hS hE (runs_plain rfl) (Gives.p hE rfl) rfl ?_; clear hE a; intro a hE
     refine WL.nil ?_
     refine W.ret ?_
     refine finG (fn := Try.f10) (rs := [.tmp 2]) (vs := [_]) hE rfl ⟨rfl, trivial⟩ ?_
     subst hr
     replace hS := hS.tail
     exact ⟨rfl, hS⟩
set_option maxHeartbeats 8000000 in
theorem MathBitsMul64_ok  {w : World} {s : Sg} {R : List HP} {x0 : Int} {x1 : Int} (hS : St w s (R))  {r : Int × Int} (hr : MathBitsMul64 x0 x1 = r) :
  Calls Try.prog 89 [.int .u64 x0, .int .u64 x1].toArray w (fun e w => e = .returned (.tuple #[.int .u64 r.1, .int .u64 r.2]) ∧ St w s (R)) := by
 refine enter Try.func89 rfl rfl rfl fun a hE => ?_
 rw [MathBitsMul64] at hr
 refine W.seq (W.region ?_)
 refine WL.vS hS hE (runs_plain rfl) (Gives.p hE rfl) rfl ?_; clear hE a; intro a hE
 refine WL.vS hS hE (runs_plain rfl) (Gives.p hE rfl) rfl ?_; clear hE a; intro a hE
 refine WL.nil ?_
 refine W.seq (W.region ?_)
 refine WL.vS hS hE (runs_plain rfl) (Gives.p hE rfl) rfl ?_; clear hE a; intro a hE
 refine WL.vS hS hE (runs_plain rfl) (Gives.p hE rfl) rfl ?_; clear hE a; intro a hE
 refine WL.vS hS hE (runs_plain rfl) (Gives.p hE rfl) rfl ?_; clear hE a; intro a hE
 refine WL.nil ?_
 refine W.seq (W.region ?_)
 refine WL.vS hS hE (runs_plain rfl) (Gives.p hE rfl) rfl ?_; clear hE a; intro a hE
 refine WL.vS hS hE (runs_plain rfl) (Gives.shr hE rfl rfl (by decide)) rfl ?_; clear hE a; intro a hE
 refine WL.vS hS hE (runs_plain rfl) (Gives.p hE rfl) rfl ?_; clear hE a; intro a hE
 refine WL.nil ?_
 refine W.seq (W.region ?_)
 refine WL.vS hS hE (runs_plain rfl) (Gives.p hE rfl) rfl ?_; clear hE a; intro a hE
 refine WL.vS hS hE (runs_plain rfl) (Gives.p hE rfl) rfl ?_; clear hE a; intro a hE
 refine WL.vS hS hE (runs_plain rfl) (Gives.p hE rfl) rfl ?_; clear hE a; intro a hE
 refine WL.nil ?_
 refine W.seq (W.region ?_)
 refine WL.vS hS hE (runs_plain rfl) (Gives.p hE rfl) rfl ?_; clear hE a; intro a hE
 refine WL.vS hS hE (runs_plain rfl) (Gives.shr hE rfl rfl (by decide)) rfl ?_; clear hE a; intro a hE
 refine WL.vS hS hE (runs_plain rfl) (Gives.p hE rfl) rfl ?_; clear hE a; intro a hE
 refine WL.nil ?_
 refine W.seq (W.region ?_)
 refine WL.vS hS hE (runs_plain rfl) (Gives.p hE rfl) rfl ?_; clear hE a; intro a hE
 refine WL.vS hS hE (runs_plain rfl) (Gives.p hE rfl) rfl ?_; clear hE a; intro a hE
 refine WL.vS hS hE (runs_plain rfl) (Gives.p hE rfl) rfl ?_; clear hE a; intro a hE
 refine WL.vS hS hE (runs_plain rfl) (Gives.p hE rfl) rfl ?_; clear hE a; intro a hE
 refine WL.nil ?_
 refine W.seq (W.region ?_)
 refine WL.vS hS hE (runs_plain rfl) (Gives.p hE rfl) rfl ?_; clear hE a; intro a hE
 refine WL.vS hS hE (runs_plain rfl) (Gives.p hE rfl) rfl ?_; clear hE a; intro a hE
 refine WL.vS hS hE (runs_plain rfl) (Gives.p hE rfl) rfl ?_; clear hE a; intro a hE
 refine WL.vS hS hE (runs_plain rfl) (Gives.p hE rfl) rfl ?_; clear hE a; intro a hE
 refine WL.vS hS hE (runs_plain rfl) (Gives.shr hE rfl rfl (by decide)) rfl ?_; clear hE a; intro a hE
 refine WL.vS hS hE (runs_plain rfl) (Gives.p hE rfl) rfl ?_; clear hE a; intro a hE
 refine WL.vS hS hE (runs_plain rfl) (Gives.p hE rfl) rfl ?_; clear hE a; intro a hE
 refine WL.nil ?_
 refine W.seq (W.region ?_)
 refine WL.vS hS hE (runs_plain rfl) (Gives.p hE rfl) rfl ?_; clear hE a; intro a hE
 refine WL.vS hS hE (runs_plain rfl) (Gives.p hE rfl) rfl ?_; clear hE a; intro a hE
 refine WL.vS hS hE (runs_plain rfl) (Gives.p hE rfl) rfl ?_; clear hE a; intro a hE
 refine WL.nil ?_
 refine W.seq (W.region ?_)
 refine WL.vS hS hE (runs_plain rfl) (Gives.p hE rfl) rfl ?_; clear hE a; intro a hE
 refine WL.vS hS hE (runs_plain rfl) (Gives.shr hE rfl rfl (by decide)) rfl ?_; clear hE a; intro a hE
 refine WL.vS hS hE (runs_plain rfl) (Gives.p hE rfl) rfl ?_; clear hE a; intro a hE
 refine WL.nil ?_
 refine W.seq (W.region ?_)
 refine WL.vS hS hE (runs_plain rfl) (Gives.p hE rfl) rfl ?_; clear hE a; intro a hE
 refine WL.vS hS hE (runs_plain rfl) (Gives.p hE rfl) rfl ?_; clear hE a; intro a hE
 refine WL.vS hS hE (runs_plain rfl) (Gives.p hE rfl) rfl ?_; clear hE a; intro a hE
 refine WL.vS hS hE (runs_plain rfl) (Gives.p hE rfl) rfl ?_; clear hE a; intro a hE
 refine WL.vS hS hE (runs_plain rfl) (Gives.p hE rfl) rfl ?_; clear hE a; intro a hE
 refine WL.vS hS hE (runs_plain rfl) (Gives.p hE rfl) rfl ?_; clear hE a; intro a hE
 refine WL.nil ?_
 refine W.seq (W.region ?_)
 refine WL.vS hS hE (runs_plain rfl) (Gives.p hE rfl) rfl ?_; clear hE a; intro a hE
 refine WL.vS hS hE (runs_plain rfl) (Gives.p hE rfl) rfl ?_; clear hE a; intro a hE
 refine WL.vS hS hE (runs_plain rfl) (Gives.p hE rfl) rfl ?_; clear hE a; intro a hE
 refine WL.vS hS hE (runs_plain rfl) (Gives.p hE rfl) rfl ?_; clear hE a; intro a hE
 refine WL.vS hS hE (runs_plain rfl) (Gives.p hE rfl) rfl ?_; clear hE a; intro a hE
 refine WL.vS hS hE (runs_plain rfl) (Gives.p hE rfl) rfl ?_; clear hE a; intro a hE
 refine WL.vS hS hE (runs_plain rfl) (Gives.shr hE rfl rfl (by decide)) rfl ?_; clear hE a; intro a hE
 refine WL.vS hS hE (runs_plain rfl) (Gives.p hE rfl) rfl ?_; clear hE a; intro a hE
 refine WL.vS hS hE (runs_plain rfl) (Gives.p hE rfl) rfl ?_; clear hE a; intro a hE
 refine WL.nil ?_
 refine W.seq (W.region ?_)
 refine WL.vS hS hE (runs_plain rfl) (Gives.p hE rfl) rfl ?_; clear hE a; intro a hE
 refine WL.vS hS hE (runs_plain rfl) (Gives.p hE rfl) rfl ?_; clear hE a; intro a hE
 refine WL.vS hS hE (runs_plain rfl) (Gives.p hE rfl) rfl ?_; clear hE a; intro a hE
 refine WL.vS hS hE (runs_plain rfl) (Gives.p hE rfl) rfl ?_; clear hE a; intro a hE
 refine WL.nil ?_
 refine W.ret ?_
 refine finG (fn := Try.f89) (rs := [.tmp 4, .tmp 5]) (vs := [_, _]) hE rfl ⟨rfl, rfl, trivial⟩ ?_
 subst hr
 exact ⟨rfl, hS⟩
set_option maxHeartbeats 8000000 in
theorem MathBitsMul_ok  {w : World} {s : Sg} {R : List HP} {x0 : Int} {x1 : Int} (hS : St w s (R))  {r : Int × Int} (hr : MathBitsMul x0 x1 = r) :
  Calls Try.prog 77 [.int .u64 x0, .int .u64 x1].toArray w (fun e w => e = .returned (.tuple #[.int .u64 r.1, .int .u64 r.2]) ∧ St w s (R)) := by
 refine enter Try.func77 rfl rfl rfl fun a hE => ?_
 rw [MathBitsMul] at hr
 refine W.seq (W.region ?_)
 refine WL.vS hS hE (runs_plain rfl) (Gives.p hE rfl) rfl ?_; clear hE a; intro a hE
 refine WL.vS hS hE (runs_plain rfl) (Gives.p hE rfl) rfl ?_; clear hE a; intro a hE
 refine WL.nil ?_
 refine W.seq ?_
 refine W.condF hE rfl rfl ?_
 refine W.skip ?_
 refine W.seq (W.region ?_)
 refine WL.vS hS hE (runs_plain rfl) (Gives.p hE rfl) rfl ?_; clear hE a; intro a hE
 refine WL.vS hS hE (runs_plain rfl) (Gives.p hE rfl) rfl ?_; clear hE a; intro a hE
 obtain ⟨q51, hq52, hr⟩ := bndS hr
 have hc_ := MathBitsMul64_ok hS  hq52
 refine WL.fnq hE (hc_) (runs_plain rfl) bd89 rfl rfl rfl ?_
 clear hE hS hc_; rintro e w ⟨rfl, hS⟩; refine ⟨_, rfl, ?_⟩; clear a; intro a hE
 refine WL.vS hS hE (runs_plain rfl) (Gives.p hE rfl) rfl ?_; clear hE a; intro a hE
 refine WL.vS hS hE (runs_plain rfl) (Gives.p hE rfl) rfl ?_; clear hE a; intro a hE
 refine WL.vS hS hE (runs_plain rfl) (Gives.p hE rfl) rfl ?_; clear hE a; intro a hE
 refine WL.vS hS hE (runs_plain rfl) (Gives.p hE rfl) rfl ?_; clear hE a; intro a hE
 refine WL.vS hS hE (runs_plain rfl) (Gives.p hE rfl) rfl ?_; clear hE a; intro a hE
 refine WL.nil ?_
 refine W.seq (W.region ?_)
 refine WL.vS hS hE (runs_plain rfl) (Gives.p hE rfl) rfl ?_; clear hE a; intro a hE
 refine WL.vS hS hE (runs_plain rfl) (Gives.p hE rfl) rfl ?_; clear hE a; intro a hE
 refine WL.vS hS hE (runs_plain rfl) (Gives.p hE rfl) rfl ?_; clear hE a; intro a hE
 refine WL.vS hS hE (runs_plain rfl) (Gives.p hE rfl) rfl ?_; clear hE a; intro a hE
 refine WL.nil ?_
 refine W.ret ?_
 refine finG (fn := Try.f77) (rs := [.tmp 4, .tmp 5]) (vs := [_, _]) hE rfl ⟨rfl, rfl, trivial⟩ ?_
 subst hr
 exact ⟨rfl, hS⟩
set_option maxHeartbeats 8000000 in
theorem SlicesRepeatLbool_ok {fu : Nat}  {w : World} {s : Sg} {R : List HP} {x0 : List Bool} {a0 : Option Addr} {c0 : Nat} {x1 : Int} (hS : St w s (R)) (h0 : Sl 1 RB s a0 c0 x0) {r : (List Bool)} (hr : SlicesRepeatLbool fu x0 x1 = some r) :
  Calls Try.prog 46 [.slice a0 x0.length c0, .int .i64 x1].toArray w (fun e w => ∃ (a0 : Option Addr) (c0 n0 : Nat) (cs0 : List Value), e = .returned (.slice a0 n0 c0) ∧ Ev 1 RB s cs0 r ∧ r.length = n0 ∧ St w s (vecC 4 1 a0 c0 n0 cs0 :: R)) := by
 refine enter Try.func46 rfl rfl rfl fun a hE => ?_
 rw [SlicesRepeatLbool] at hr
 refine W.seq (W.region ?_)
 refine WL.vS hS hE (runs_plain rfl) (Gives.p hE rfl) rfl ?_; clear hE a; intro a hE
 refine WL.nil ?_
 refine W.seq ?_
 refine W.seq (W.region ?_)
 refine WL.vS hS hE (runs_plain rfl) (Gives.p hE rfl) rfl ?_; clear hE a; intro a hE
 refine WL.vS hS hE (runs_plain rfl) (Gives.p hE rfl) rfl ?_; clear hE a; intro a hE
 refine WL.nil ?_
 refine W.cond hE rfl (fun hc51 => ?_) (fun hc51 => ?_)
 ·replace hr := iteT hc51 hr
  refine W.region ?_
  exact absurd hr (by simp)
 ·replace hr := iteF hc51 hr
  refine W.skip ?_
  refine W.seq (W.region ?_)
  refine WL.vS hS hE (runs_plain rfl) (Gives.p hE rfl) rfl ?_; clear hE a; intro a hE
  refine WL.vS hS hE (runs_plain rfl) (Gives.len hE rfl sl71) rfl ?_; clear hE a; intro a hE
  refine WL.vS hS hE (runs_plain rfl) (Gives.conv hE rfl hu3 ui110) rfl ?_; clear hE a; intro a hE
  refine WL.vS hS hE (runs_plain rfl) (Gives.p hE rfl) rfl ?_; clear hE a; intro a hE
  refine WL.vS hS hE (runs_plain rfl) (Gives.conv hE rfl hu3 ui110) rfl ?_; clear hE a; intro a hE
  obtain ⟨q52, hq53, hr⟩ := bndS hr
  have hc_ := MathBitsMul_ok hS  hq53
  refine WL.fnq hE (hc_) (runs_plain rfl) bd77 rfl rfl rfl ?_
  clear hE hS hc_; rintro e w ⟨rfl, hS⟩; refine ⟨_, rfl, ?_⟩; clear a; intro a hE
  refine WL.vS hS hE (runs_plain rfl) (Gives.p hE rfl) rfl ?_; clear hE a; intro a hE
  refine WL.vS hS hE (runs_plain rfl) (Gives.p hE rfl) rfl ?_; clear hE a; intro a hE
  refine WL.vS hS hE (runs_plain rfl) (Gives.p hE rfl) rfl ?_; clear hE a; intro a hE
  refine WL.vS hS hE (runs_plain rfl) (Gives.p hE rfl) rfl ?_; clear hE a; intro a hE
  refine WL.vS hS hE (runs_plain rfl) (Gives.p hE rfl) rfl ?_; clear hE a; intro a hE
  refine WL.nil ?_
  refine W.seq ?_
  refine W.seq ?_
  obtain ⟨q55, hq54, hr⟩ := bndS hr
  refine W.cut (fun a w => ∃ (q58 : Bool), q58 = q55 ∧ Rep a 48 [(0, .slice a0 x0.length c0), (6, .int .u64 q52.2), (26, .bool q58)] ∧ St w s (R)) ?_ ?_
  ·refine W.gen fun K59 hK59 => ?_
   refine W.region ?_
   refine WL.vS hS hE (runs_plain rfl) (Gives.p hE rfl) rfl ?_; clear hE a; intro a hE
   refine WL.vS hS hE (runs_plain rfl) (Gives.p hE rfl) rfl ?_; clear hE a; intro a hE
   refine WL.vS hS hE (runs_plain rfl) (Gives.p hE rfl) rfl ?_; clear hE a; intro a hE
   rcases Bool.eq_false_or_eq_true (decide (q52.1 > 0)) with hg60 | hg60
   ·replace hq54 := iteT hg60 hq54
    refine WL.no hE (runs_not hE rfl rfl rfl (by rw [hg60]; decide)) rfl ?_; clear hE a; intro a hE
    refine WL.no hE (runs_not hE rfl rfl rfl (by rw [hg60]; decide)) rfl ?_; clear hE a; intro a hE
    refine WL.vS hS hE (runs_plain rfl) (Gives.pickT hE rfl hg60 rfl) rfl ?_; clear hE a; intro a hE
    refine WL.nil ?_
    subst hK59
    exact ⟨true, hq54, hE.pick _ ⟨rfl, rfl, rfl, trivial⟩, hS⟩
   ·replace hq54 := iteF hg60 hq54
    refine WL.vS hS hE (runs_if hE rfl rfl rfl hg60) (Gives.p hE rfl) rfl ?_; clear hE a; intro a hE
    refine WL.vS hS hE (runs_if hE rfl rfl rfl hg60) (Gives.p hE rfl) rfl ?_; clear hE a; intro a hE
    refine WL.vS hS hE (runs_plain rfl) (Gives.pickF hE rfl hg60 rfl) rfl ?_; clear hE a; intro a hE
    refine WL.nil ?_
    subst hK59
    exact ⟨decide (q52.2 > 9223372036854775807), hq54, hE.pick _ ⟨rfl, rfl, rfl, trivial⟩, hS⟩
  ·clear hE hS a w; rintro a w ⟨q58, rfl, hE, hS⟩
   refine W.cond hE rfl (fun hc61 => ?_) (fun hc61 => ?_)
   ·replace hr := iteT hc61 hr
    refine W.region ?_
    exact absurd hr (by simp)
   ·replace hr := iteF hc61 hr
    refine W.skip ?_
    refine W.seq (W.region ?_)
    refine WL.vS hS hE (runs_plain rfl) (Gives.p hE rfl) rfl ?_; clear hE a; intro a hE
    refine WL.vS hS hE (runs_plain rfl) (Gives.conv hE rfl hu110 ui3) rfl ?_; clear hE a; intro a hE
    obtain ⟨x62, hx63, hr⟩ := bindS hr
    refine WL.mkD (Rr := RB) hE hS (runs_plain rfl) rfl rfl ap71 zr4 rfl hx63 rfl ?_; clear hE hS a w; intro b64 cs65 a w h66 hE hS
    refine WL.vS hS hE (runs_plain rfl) (Gives.p hE rfl) rfl ?_; clear hE a; intro a hE
    refine WL.nil ?_
    refine W.seq (W.region ?_)
    refine WL.vS hS hE (runs_plain rfl) (Gives.p hE rfl) rfl ?_; clear hE a; intro a hE
    refine WL.vS hS hE (runs_plain rfl) (Gives.p hE rfl) rfl ?_; clear hE a; intro a hE
    obtain ⟨x68, hx69, hr⟩ := bndS hr
    refine WL.cpS hE hS 0 (runs_plain rfl) cp71 (by rw [sliced_zero]; rfl) rfl rfl (Nat.zero_le _) (Nat.le_refl _) h66 rfl RB.one h0 rfl rfl ?_; clear hE hS a w; intro cs70 a w h71 hE hS
    have hn72 : x68.length = x62.length := by rw [← hx69, cpl_length (Nat.zero_le _) (by omega)]; try rfl
    rw [hx69] at h71
    refine WL.vS hS hE (runs_plain rfl) (Gives.p hE rfl) rfl ?_; clear hE a; intro a hE
    refine WL.nil ?_
    refine W.seq ?_
    obtain ⟨q74, hq73, hr⟩ := bindS hr
    refine W.cut (fun a w => ∃ (q79 : Int), ∃ (q80 : List Bool), ∃ (cs84 : List Value), (q79, q80) = q74 ∧ Ev 1 RB s cs84 q80 ∧ q80.length = x62.length ∧ Rep a 48 [(7, .slice (some ⟨b64, 0, none⟩) x62.length x62.length)] ∧ St w s (vecC 4 1 (some ⟨b64, 0, none⟩) x62.length x62.length cs84 :: R)) ?_ ?_
    ·refine W.block ?_
     refine W.loop (fun m a w => ∃ (n75 : Nat), ∃ (q79 : Int), ∃ (q80 : List Bool), ∃ (cs84 : List Value), n75 = m ∧ SlicesRepeatLbool.loop1 x62 n75 q79 q80 = some q74 ∧ Ev 1 RB s cs84 q80 ∧ q80.length = x62.length ∧ Rep a 48 [(7, .slice (some ⟨b64, 0, none⟩) x62.length x62.length), (8, .int .i64 q79)] ∧ St w s (vecC 4 1 (some ⟨b64, 0, none⟩) x62.length x62.length cs84 :: R)) (m := fu) ⟨fu, ((min x0.length (x62.length - 0) : Nat) : Int), x68, cs70, rfl, hq73, h71, hn72, hE.pick _ ⟨rfl, rfl, trivial⟩, hS⟩ ?_
     clear hE hS a w hq73; rintro m76 a w ⟨n75, q79, q80, cs84, rfl, hq73, h83, hn85, hE, hS⟩
     refine W.gen fun K86 hK86 => ?_
     rcases n75 with _ | n75
     ·rw [SlicesRepeatLbool.loop1] at hq73; exact absurd hq73 (by simp)
     rw [SlicesRepeatLbool.loop1] at hq73
     refine W.seq ?_
     refine W.seq (W.region ?_)
     refine WL.vS hS hE (runs_plain rfl) (Gives.p hE rfl) rfl ?_; clear hE a; intro a hE
     refine WL.vS hS hE (runs_plain rfl) (Gives.p hE rfl) rfl ?_; clear hE a; intro a hE
     refine WL.vS hS hE (runs_plain rfl) (Gives.len hE rfl sl71) rfl ?_; clear hE a; intro a hE
     refine WL.vS hS hE (runs_plain rfl) (Gives.p hE rfl) rfl ?_; clear hE a; intro a hE
     refine WL.nil ?_
     refine W.cond hE rfl (fun hc87 => ?_) (fun hc87 => ?_)
     ·replace hq73 := iteT hc87 hq73
      refine W.skip ?_
      refine W.block ?_
      refine W.gen fun K88 hK88 => ?_
      refine W.regionE (sel (fun w => St w s (R)) (fun w => St w s (R))) (fun b i => cond b ([0, 1, 2, 3, 4, 5, 6, 7, 8, 9].contains i) ([0, 1, 2, 3, 4, 5, 6, 7, 8, 9].contains i)) mixed ?_
      replace hS := hS.drew
      refine Rg.takeP (i := 0) hE rfl (by kernel_rfl) (runs_plain rfl) (Gives.p hE rfl) rfl (tw_sel (fun _ => (hS.tail)) (fun _ => (hS.tail))) ?_; clear hE a; intro a hE
      refine Rg.takeP (i := 1) hE rfl (by kernel_rfl) (runs_plain rfl) (Gives.p hE rfl) rfl (tw_sel (fun _ => (hS.tail)) (fun _ => (hS.tail))) ?_; clear hE a; intro a hE
      refine Rg.takeP (i := 2) hE rfl (by kernel_rfl) (runs_plain rfl) (Gives.p hE rfl) rfl (tw_sel (fun _ => (hS.tail)) (fun _ => (hS.tail))) ?_; clear hE a; intro a hE
      obtain ⟨x89, hx90, hq73⟩ := bindS hq73
      obtain ⟨h91, h92, h93, h94, h95, h96⟩ := cutl_some hx90
      have h97 := (hS.vecCap 0 rfl).1
      refine Rg.takeP (i := 3) hE rfl (by kernel_rfl) (runs_plain rfl) (Gives.slL hE sl71 rfl rfl h91 (by have := hn85; omega) rfl) rfl (tw_sel (fun _ => (hS.tail)) (fun _ => (hS.tail))) ?_; clear hE a; intro a hE
      refine Rg.takeP (i := 4) hE rfl (by kernel_rfl) (runs_plain rfl) (Gives.p hE rfl) rfl (tw_sel (fun _ => (hS.tail)) (fun _ => (hS.tail))) ?_; clear hE a; intro a hE
      refine Rg.takeP (i := 5) hE rfl (by kernel_rfl) (runs_plain rfl) (Gives.p hE rfl) rfl (tw_sel (fun _ => (hS.tail)) (fun _ => (hS.tail))) ?_; clear hE a; intro a hE
      obtain ⟨x98, hx99, hq73⟩ := bindS hq73
      obtain ⟨h100, h101, h102, h103, h104, h105⟩ := cutl_some hx99
      have h106 := (hS.vecCap 0 rfl).1
      refine Rg.takeP (i := 6) hE rfl (by kernel_rfl) (runs_plain rfl) (Gives.slH hE sl71 rfl rfl h101 (Int.le_trans h102 (by have := hn85; omega)) rfl) rfl (tw_sel (fun _ => (hS.tail)) (fun _ => (hS.tail))) ?_; clear hE a; intro a hE
      refine Rg.one (i := 7) true true rfl (by kernel_rfl) (by kernel_rfl) (by kernel_rfl) ?_
      obtain ⟨x107, hx108, hq73⟩ := bndS hq73
      refine WL.cpO (lo2 := 0) (hi2 := (q79).toNat) hE hS 0 (runs_plain rfl) cp71 rfl rfl rfl (by have := hn85; omega) (by have := hn85; omega) (by have := hn85; omega) (by have := hn85; omega) h83 hn85 (h83.allOne RB.one) rfl ?_; clear hE hS a w; intro cs109 a w h110 hE hS
      have hn111 : x107.length = x62.length := by rw [← hx108, cpl_length (by have := hn85; omega) (by have := hn85; omega)]; try exact hn85
      rw [hx108] at h110
      refine WL.nil ?_
      refine ⟨⟨fun _ => (hS.tail), fun _ => (hS.tail)⟩, ?_⟩
      refine Rg.takeP (i := 8) hE rfl (by kernel_rfl) (runs_plain rfl) (Gives.p hE rfl) rfl (tw_sel (fun _ => (hS.tail)) (fun _ => (hS.tail))) ?_; clear hE a; intro a hE
      refine Rg.takeP (i := 9) hE rfl (by kernel_rfl) (runs_plain rfl) (Gives.p hE rfl) rfl (tw_sel (fun _ => (hS.tail)) (fun _ => (hS.tail))) ?_; clear hE a; intro a hE
      refine Rg.done (by kernel_rfl) ?_
      subst hK88
      subst hK86
      exact ⟨n75, Nat.lt_succ_self _, n75, (w64 (q79 + ((min ((q80.take ((q79).toNat)).drop 0).length (x62.length - ((q79).toNat)) : Nat) : Int))), x107, cs109, rfl, hq73, h110, hn111, hE.pick _ ⟨rfl, rfl, trivial⟩, hS⟩
     ·replace hq73 := iteF hc87 hq73
      subst hK86
      refine W.exit rfl ?_
      exact ⟨q79, q80, cs84, Option.some.inj hq73, h83, hn85, hE.pick _ ⟨rfl, trivial⟩, hS⟩
    ·clear hE hS a w; rintro a w ⟨q79, q80, cs84, rfl, h83, hn85, hE, hS⟩
     dsimp only at hr
     refine W.seq (W.region ?_)
     refine WL.vS hS hE (runs_plain rfl) (Gives.p hE rfl) rfl ?_; clear hE a; intro a hE
     refine WL.vS hS hE (runs_plain rfl) (Gives.p hE rfl) rfl ?_; clear hE a; intro a hE
     refine WL.nil ?_
     refine W.ret ?_
     refine finG (fn := Try.f46) (rs := [.tmp 4]) (vs := [_]) hE rfl ⟨rfl, trivial⟩ ?_
     obtain rfl := Option.some.inj hr
     exact ⟨(some ⟨b64, 0, none⟩), x62.length, x62.length, cs84, rfl, h83, hn85, hS⟩
end Go.Proofs.Ytffleanbfkjfiaa
