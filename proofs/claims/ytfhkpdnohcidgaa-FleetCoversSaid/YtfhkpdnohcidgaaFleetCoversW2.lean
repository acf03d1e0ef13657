/- The walks of the functions that FleetCovers reaches: each call comes to what its mirror says. The conditions are those of each contract. -/
import Derived.Test.YtfhkpdnohcidgaaProg
import Derived.Test.YtfhkpdnohcidgaaFleetCoversM
import Derived.Test.YtfhkpdnohcidgaaFpMore
import Derived.Test.YtfhkpdnohcidgaaFleetCoversW1
namespace Go.Proofs.Ytfhkpdnohcidgaa
open Go Go.Fp
set_option maxHeartbeats 8000000 in
theorem FleetApart_ok {fu : Nat}  {w : World} {s : Sg} {R : List HP} {x0 : List FleetTask} {a0 : Option Addr} {c0 : Nat} {x1 : Int} {x2 : List (List Int)} {a2 : Option Addr} {c2 : Nat} (hS : St w s (R)) (h0 : Sl 6 RFleetTask s a0 c0 x0) (h2 : Sl 1 (RL 1 (RI .i64)) s a2 c2 x2) {r : (List Int) × Int} (hr : FleetApart fu x0 x1 x2 = some r) :
    Calls Try.prog 21 [.slice a0 x0.length c0, .int .i64 x1, .slice a2 x2.length c2].toArray w (fun e w => ∃ (a0 : Option Addr) (c0 n0 : Nat) (cs0 : List Value) (t : Sg), e = .returned (.tuple #[.slice a0 n0 c0, .int .i64 r.2]) ∧ s.Le t ∧ Ev 1 (RI .i64) t cs0 r.1 ∧ r.1.length = n0 ∧ St w t (vecC 3 1 a0 c0 n0 cs0 :: R)) := by
  refine enter Try.func21 rfl rfl rfl fun a hE => ?_
  rw [FleetApart] at hr
  refine W.seq ?_
  refine W.region ?_
  refine WL.vS hS hE (runs_plain rfl) (Gives.p hE rfl) rfl ?_; clear hE a; intro a hE
  refine WL.vS hS hE (runs_plain rfl) (Gives.p hE rfl) rfl ?_; clear hE a; intro a hE
  refine WL.nil ?_
  refine W.seq ?_
  refine W.seq ?_
  refine W.region ?_
  refine WL.vS hS hE (runs_plain rfl) (Gives.p hE rfl) rfl ?_; clear hE a; intro a hE
  refine WL.vS hS hE (runs_plain rfl) (Gives.p hE rfl) rfl ?_; clear hE a; intro a hE
  refine WL.vS hS hE (runs_plain rfl) (Gives.p hE rfl) rfl ?_; clear hE a; intro a hE
  obtain ⟨q51, hq52, hr⟩ := bindS hr
  have hc_ := FleetcheckSecs_ok hS h0 h2 hq52
  refine WL.fnq hE (hc_) (runs_plain rfl) bd68 rfl rfl rfl ?_
  clear hE hS hc_; rintro e w ⟨rfl, hS⟩; refine ⟨_, rfl, ?_⟩; clear a; intro a hE
  refine WL.vS hS hE (runs_plain rfl) (Gives.p hE rfl) rfl ?_; clear hE a; intro a hE
  refine WL.nil ?_
  refine W.seq ?_
  refine W.region ?_
  refine WL.vS hS hE (runs_plain rfl) (Gives.p hE rfl) rfl ?_; clear hE a; intro a hE
  refine WL.vS hS hE (runs_plain rfl) (Gives.p hE rfl) rfl ?_; clear hE a; intro a hE
  refine WL.nil ?_
  refine W.cond hE rfl (fun hc53 => ?_) (fun hc53 => ?_)
  · replace hr := iteT hc53 hr
    refine W.seq ?_
    refine W.region ?_
    refine WL.vS hS hE (runs_plain rfl) (Gives.p hE rfl) rfl ?_; clear hE a; intro a hE
    refine WL.vS hS hE (runs_plain rfl) (Gives.p hE rfl) rfl ?_; clear hE a; intro a hE
    refine WL.vS hS hE (runs_plain rfl) (Gives.p hE rfl) rfl ?_; clear hE a; intro a hE
    refine WL.nil ?_
    refine W.ret ?_
    replace hS := hS.vecNil 3 1
    refine finG (fn := Try.f21) (rs := [.tmp 6, .tmp 7]) (vs := [_, _]) hE rfl ⟨rfl, rfl, trivial⟩ ?_
    obtain rfl := Option.some.inj hr
    exact ⟨none, 0, 0, [], s, rfl, (Sg.Le.refl _), (Ev.nil), (rfl), hS⟩
  · replace hr := iteF hc53 hr
    refine W.skip ?_
    refine W.seq ?_
    refine W.region ?_
    refine WL.vS hS hE (runs_plain rfl) (Gives.p hE rfl) rfl ?_; clear hE a; intro a hE
    refine WL.vS hS hE (runs_plain rfl) (Gives.p hE rfl) rfl ?_; clear hE a; intro a hE
    refine WL.vS hS hE (runs_plain rfl) (Gives.p hE rfl) rfl ?_; clear hE a; intro a hE
    obtain ⟨q55, hq56, hr⟩ := bindS hr
    have hc_ := Fleetmatch_ok hS h0 h2 hq56
    refine WL.fnq hE (hc_) (runs_plain rfl) bd69 rfl rfl rfl ?_
    clear hE hS hc_; rintro e w ⟨a57, s59, rfl, hle60, h58, hS⟩; refine ⟨_, rfl, ?_⟩; clear a; intro a hE
    replace h0 := Sl.mono RFleetTask.mono hle60 h0
    replace h2 := Sl.mono (RL.mono RI.mono) hle60 h2
    refine WL.alloc hE hS (runs_plain rfl) zr96 rfl ?_; clear hE hS a w; intro b61 a w hE hS
    refine WL.storeI hE hS 0 rfl [.pointer a57] (runs_plain rfl) rfl rfl rfl ty96 rfl rfl rfl rfl ?_; clear hE hS a w; intro a w hE hS
    refine WL.nil ?_
    refine W.seq ?_
    refine W.gen fun K62 hK62 => ?_
    refine W.regionE (sel (fun w => St w s59 (pt b61 (.cells #[.pointer a57] 96 (0, 0)) :: R)) (fun w => St w s59 (pt b61 (.cells #[.pointer a57] 96 (0, 0)) :: R))) (fun b i => cond b ([0, 1, 2, 3, 4, 5, 6, 7, 8, 9].contains i) ([0, 1, 2, 3, 4, 5, 6, 7, 8, 9].contains i)) mixed ?_
    replace hS := hS.drew
    refine Rg.takeP (i := 0) hE rfl (by kernel_rfl) (runs_plain rfl) (Gives.p hE rfl) rfl (tw_sel (fun _ => hS) (fun _ => hS)) ?_; clear hE a; intro a hE
    refine Rg.takeP (i := 1) hE rfl (by kernel_rfl) (runs_plain rfl) (Gives.len hE rfl sl32) rfl (tw_sel (fun _ => hS) (fun _ => hS)) ?_; clear hE a; intro a hE
    refine Rg.takeP (i := 3) hE rfl (by kernel_rfl) (runs_plain rfl) (Gives.p hE rfl) rfl (tw_sel (fun _ => hS) (fun _ => hS)) ?_; clear hE a; intro a hE
    refine Rg.takeP (i := 4) hE rfl (by kernel_rfl) (runs_plain rfl) (Gives.len hE rfl sl32) rfl (tw_sel (fun _ => hS) (fun _ => hS)) ?_; clear hE a; intro a hE
    obtain ⟨x63, hx64, hr⟩ := bindS hr
    obtain ⟨x69, hx70, hr⟩ := bindS hr
    suffices key : ∀ cs72 cs66 b75 b76 b71 b65 (a : Act) (w : World), Sl 6 RFleetTask s59 a0 c0 x0 → Ev 1 RB s59 cs72 x69 → Ev 1 RB s59 cs66 x63 → Pt 3 RFleetMatching s59 a57 q55 → Rep a 80 [(0, .slice a0 x0.length c0), (9, .pointer (some ⟨b61, 0, none⟩)), (10, .pointer (some ⟨b75, 0, none⟩)), (11, .pointer (some ⟨b76, 0, none⟩))] → St w s59 (pt b76 (.cells #[.slice (some ⟨b71, 0, none⟩) x69.length x69.length] 101 (0, 0)) :: pt b75 (.cells #[.slice (some ⟨b65, 0, none⟩) x63.length x63.length] 101 (0, 0)) :: vecC 4 1 (some ⟨b71, 0, none⟩) x69.length x69.length cs72 :: vecC 4 1 (some ⟨b65, 0, none⟩) x63.length x63.length cs66 :: pt b61 (.cells #[.pointer a57] 96 (0, 0)) :: R) → K62.nor a w by
      refine Rg.many 2 [5, 6, 7] (by kernel_rfl) ⟨?_, ?_, ?_, ?_, trivial⟩
      · refine Br.mk (i := 2) true true rfl (by kernel_rfl) (by kernel_rfl) ?_
        refine WL.mkD (Rr := RB) hE hS (runs_plain rfl) rfl rfl ap101 zr4 rfl hx64 rfl ?_; clear hE hS a w; intro b65 cs66 a w h67 hE hS
        refine WL.nil ?_
        refine ⟨⟨fun _ => (hS.tail), fun _ => (hS.tail)⟩, ?_⟩
        refine Rg.many 5 [6, 7] (by kernel_rfl) ⟨?_, ?_, ?_, trivial⟩
        · refine Br.mk (i := 5) true true rfl (by kernel_rfl) (by kernel_rfl) ?_
          refine WL.mkD (Rr := RB) hE hS (runs_plain rfl) rfl rfl ap101 zr4 rfl hx70 rfl ?_; clear hE hS a w; intro b71 cs72 a w h73 hE hS
          refine WL.nil ?_
          refine ⟨⟨fun _ => ((hS.tail).tail), fun _ => ((hS.tail).tail)⟩, ?_⟩
          refine Rg.many 6 [7] (by kernel_rfl) ⟨?_, ?_, trivial⟩
          · refine Br.mk (i := 6) true true rfl (by kernel_rfl) (by kernel_rfl) ?_
            refine WL.alloc hE hS (runs_plain rfl) zr101 rfl ?_; clear hE hS a w; intro b75 a w hE hS
            refine WL.nil ?_
            refine ⟨⟨fun _ => (((hS.tail).tail).tail), fun _ => (((hS.tail).tail).tail)⟩, ?_⟩
            refine Rg.one (i := 7) true true rfl (by kernel_rfl) (by kernel_rfl) (by kernel_rfl) ?_
            refine WL.alloc hE hS (runs_plain rfl) zr101 rfl ?_; clear hE hS a w; intro b76 a w hE hS
            refine WL.nil ?_
            refine ⟨⟨fun _ => ((((hS.tail).tail).tail).tail), fun _ => ((((hS.tail).tail).tail).tail)⟩, ?_⟩
            refine Rg.one (i := 8) true true rfl (by kernel_rfl) (by kernel_rfl) (by kernel_rfl) ?_
            refine WL.storeI hE hS 1 rfl [.slice (some ⟨b65, 0, none⟩) x63.length x63.length] (runs_plain rfl) rfl rfl rfl ty101 rfl rfl rfl rfl ?_; clear hE hS a w; intro a w hE hS
            refine WL.nil ?_
            refine ⟨⟨fun _ => ((((hS.tail).tail).tail).tail), fun _ => ((((hS.tail).tail).tail).tail)⟩, ?_⟩
            refine Rg.one (i := 9) true true rfl (by kernel_rfl) (by kernel_rfl) (by kernel_rfl) ?_
            refine WL.storeI hE hS 0 rfl [.slice (some ⟨b71, 0, none⟩) x69.length x69.length] (runs_plain rfl) rfl rfl rfl ty101 rfl rfl rfl rfl ?_; clear hE hS a w; intro a w hE hS
            refine WL.nil ?_
            refine ⟨⟨fun _ => ((((hS.tail).tail).tail).tail), fun _ => ((((hS.tail).tail).tail).tail)⟩, ?_⟩
            refine Rg.done (by kernel_rfl) ?_
            exact key _ _ _ _ _ _ _ _ h0 h73 h67 h58 (hE.pick _ ⟨rfl, rfl, rfl, rfl, trivial⟩) hS
          · refine Br.mk (i := 7) true true rfl (by kernel_rfl) (by kernel_rfl) ?_
            refine WL.alloc hE hS (runs_plain rfl) zr101 rfl ?_; clear hE hS a w; intro b76 a w hE hS
            refine WL.nil ?_
            refine ⟨⟨fun _ => (((hS.tail).tail).tail), fun _ => (((hS.tail).tail).tail)⟩, ?_⟩
            refine Rg.one (i := 6) true true rfl (by kernel_rfl) (by kernel_rfl) (by kernel_rfl) ?_
            refine WL.alloc hE hS (runs_plain rfl) zr101 rfl ?_; clear hE hS a w; intro b75 a w hE hS
            refine WL.nil ?_
            refine ⟨⟨fun _ => ((((hS.tail).tail).tail).tail), fun _ => ((((hS.tail).tail).tail).tail)⟩, ?_⟩
            refine Rg.one (i := 8) true true rfl (by kernel_rfl) (by kernel_rfl) (by kernel_rfl) ?_
            refine WL.storeI hE hS 0 rfl [.slice (some ⟨b65, 0, none⟩) x63.length x63.length] (runs_plain rfl) rfl rfl rfl ty101 rfl rfl rfl rfl ?_; clear hE hS a w; intro a w hE hS
            refine WL.nil ?_
            refine ⟨⟨fun _ => ((((hS.tail).tail).tail).tail), fun _ => ((((hS.tail).tail).tail).tail)⟩, ?_⟩
            refine Rg.one (i := 9) true true rfl (by kernel_rfl) (by kernel_rfl) (by kernel_rfl) ?_
            refine WL.storeI hE hS 1 rfl [.slice (some ⟨b71, 0, none⟩) x69.length x69.length] (runs_plain rfl) rfl rfl rfl ty101 rfl rfl rfl rfl ?_; clear hE hS a w; intro a w hE hS
            refine WL.nil ?_
            refine ⟨⟨fun _ => ((((hS.tail).tail).tail).tail), fun _ => ((((hS.tail).tail).tail).tail)⟩, ?_⟩
            refine Rg.done (by kernel_rfl) ?_
            replace hS := hS.front 4 rfl
            replace hS := hS.front 4 rfl
            replace hS := hS.front 4 rfl
            replace hS := hS.front 3 rfl
            replace hS := hS.front 4 rfl
            exact key _ _ _ _ _ _ _ _ h0 h73 h67 h58 (hE.pick _ ⟨rfl, rfl, rfl, rfl, trivial⟩) hS
        · refine Br.mk (i := 6) true true rfl (by kernel_rfl) (by kernel_rfl) ?_
          refine WL.alloc hE hS (runs_plain rfl) zr101 rfl ?_; clear hE hS a w; intro b75 a w hE hS
          refine WL.nil ?_
          refine ⟨⟨fun _ => ((hS.tail).tail), fun _ => ((hS.tail).tail)⟩, ?_⟩
          refine Rg.many 5 [7] (by kernel_rfl) ⟨?_, ?_, trivial⟩
          · refine Br.mk (i := 5) true true rfl (by kernel_rfl) (by kernel_rfl) ?_
            refine WL.mkD (Rr := RB) hE hS (runs_plain rfl) rfl rfl ap101 zr4 rfl hx70 rfl ?_; clear hE hS a w; intro b71 cs72 a w h73 hE hS
            refine WL.nil ?_
            refine ⟨⟨fun _ => (((hS.tail).tail).tail), fun _ => (((hS.tail).tail).tail)⟩, ?_⟩
            refine Rg.one (i := 7) true true rfl (by kernel_rfl) (by kernel_rfl) (by kernel_rfl) ?_
            refine WL.alloc hE hS (runs_plain rfl) zr101 rfl ?_; clear hE hS a w; intro b76 a w hE hS
            refine WL.nil ?_
            refine ⟨⟨fun _ => ((((hS.tail).tail).tail).tail), fun _ => ((((hS.tail).tail).tail).tail)⟩, ?_⟩
            refine Rg.one (i := 8) true true rfl (by kernel_rfl) (by kernel_rfl) (by kernel_rfl) ?_
            refine WL.storeI hE hS 2 rfl [.slice (some ⟨b65, 0, none⟩) x63.length x63.length] (runs_plain rfl) rfl rfl rfl ty101 rfl rfl rfl rfl ?_; clear hE hS a w; intro a w hE hS
            refine WL.nil ?_
            refine ⟨⟨fun _ => ((((hS.tail).tail).tail).tail), fun _ => ((((hS.tail).tail).tail).tail)⟩, ?_⟩
            refine Rg.one (i := 9) true true rfl (by kernel_rfl) (by kernel_rfl) (by kernel_rfl) ?_
            refine WL.storeI hE hS 0 rfl [.slice (some ⟨b71, 0, none⟩) x69.length x69.length] (runs_plain rfl) rfl rfl rfl ty101 rfl rfl rfl rfl ?_; clear hE hS a w; intro a w hE hS
            refine WL.nil ?_
            refine ⟨⟨fun _ => ((((hS.tail).tail).tail).tail), fun _ => ((((hS.tail).tail).tail).tail)⟩, ?_⟩
            refine Rg.done (by kernel_rfl) ?_
            replace hS := hS.front 4 rfl
            replace hS := hS.front 4 rfl
            replace hS := hS.front 3 rfl
            replace hS := hS.front 4 rfl
            replace hS := hS.front 4 rfl
            exact key _ _ _ _ _ _ _ _ h0 h73 h67 h58 (hE.pick _ ⟨rfl, rfl, rfl, rfl, trivial⟩) hS
          · refine Br.mk (i := 7) true true rfl (by kernel_rfl) (by kernel_rfl) ?_
            refine WL.alloc hE hS (runs_plain rfl) zr101 rfl ?_; clear hE hS a w; intro b76 a w hE hS
            refine WL.nil ?_
            refine ⟨⟨fun _ => (((hS.tail).tail).tail), fun _ => (((hS.tail).tail).tail)⟩, ?_⟩
            refine Rg.many 5 [8] (by kernel_rfl) ⟨?_, ?_, trivial⟩
            · refine Br.mk (i := 5) true true rfl (by kernel_rfl) (by kernel_rfl) ?_
              refine WL.mkD (Rr := RB) hE hS (runs_plain rfl) rfl rfl ap101 zr4 rfl hx70 rfl ?_; clear hE hS a w; intro b71 cs72 a w h73 hE hS
              refine WL.nil ?_
              refine ⟨⟨fun _ => ((((hS.tail).tail).tail).tail), fun _ => ((((hS.tail).tail).tail).tail)⟩, ?_⟩
              refine Rg.one (i := 8) true true rfl (by kernel_rfl) (by kernel_rfl) (by kernel_rfl) ?_
              refine WL.storeI hE hS 2 rfl [.slice (some ⟨b65, 0, none⟩) x63.length x63.length] (runs_plain rfl) rfl rfl rfl ty101 rfl rfl rfl rfl ?_; clear hE hS a w; intro a w hE hS
              refine WL.nil ?_
              refine ⟨⟨fun _ => ((((hS.tail).tail).tail).tail), fun _ => ((((hS.tail).tail).tail).tail)⟩, ?_⟩
              refine Rg.one (i := 9) true true rfl (by kernel_rfl) (by kernel_rfl) (by kernel_rfl) ?_
              refine WL.storeI hE hS 1 rfl [.slice (some ⟨b71, 0, none⟩) x69.length x69.length] (runs_plain rfl) rfl rfl rfl ty101 rfl rfl rfl rfl ?_; clear hE hS a w; intro a w hE hS
              refine WL.nil ?_
              refine ⟨⟨fun _ => ((((hS.tail).tail).tail).tail), fun _ => ((((hS.tail).tail).tail).tail)⟩, ?_⟩
              refine Rg.done (by kernel_rfl) ?_
              replace hS := hS.front 4 rfl
              replace hS := hS.front 4 rfl
              replace hS := hS.front 2 rfl
              replace hS := hS.front 4 rfl
              replace hS := hS.front 4 rfl
              exact key _ _ _ _ _ _ _ _ h0 h73 h67 h58 (hE.pick _ ⟨rfl, rfl, rfl, rfl, trivial⟩) hS
            · refine Br.mk (i := 8) true true rfl (by kernel_rfl) (by kernel_rfl) ?_
              refine WL.storeI hE hS 1 rfl [.slice (some ⟨b65, 0, none⟩) x63.length x63.length] (runs_plain rfl) rfl rfl rfl ty101 rfl rfl rfl rfl ?_; clear hE hS a w; intro a w hE hS
              refine WL.nil ?_
              refine ⟨⟨fun _ => (((hS.tail).tail).tail), fun _ => (((hS.tail).tail).tail)⟩, ?_⟩
              refine Rg.one (i := 5) true true rfl (by kernel_rfl) (by kernel_rfl) (by kernel_rfl) ?_
              refine WL.mkD (Rr := RB) hE hS (runs_plain rfl) rfl rfl ap101 zr4 rfl hx70 rfl ?_; clear hE hS a w; intro b71 cs72 a w h73 hE hS
              refine WL.nil ?_
              refine ⟨⟨fun _ => ((((hS.tail).tail).tail).tail), fun _ => ((((hS.tail).tail).tail).tail)⟩, ?_⟩
              refine Rg.one (i := 9) true true rfl (by kernel_rfl) (by kernel_rfl) (by kernel_rfl) ?_
              refine WL.storeI hE hS 1 rfl [.slice (some ⟨b71, 0, none⟩) x69.length x69.length] (runs_plain rfl) rfl rfl rfl ty101 rfl rfl rfl rfl ?_; clear hE hS a w; intro a w hE hS
              refine WL.nil ?_
              refine ⟨⟨fun _ => ((((hS.tail).tail).tail).tail), fun _ => ((((hS.tail).tail).tail).tail)⟩, ?_⟩
              refine Rg.done (by kernel_rfl) ?_
              replace hS := hS.front 4 rfl
              replace hS := hS.front 4 rfl
              replace hS := hS.front 2 rfl
              replace hS := hS.front 4 rfl
              replace hS := hS.front 4 rfl
              exact key _ _ _ _ _ _ _ _ h0 h73 h67 h58 (hE.pick _ ⟨rfl, rfl, rfl, rfl, trivial⟩) hS
        · refine Br.mk (i := 7) true true rfl (by kernel_rfl) (by kernel_rfl) ?_
          refine WL.alloc hE hS (runs_plain rfl) zr101 rfl ?_; clear hE hS a w; intro b76 a w hE hS
          refine WL.nil ?_
          refine ⟨⟨fun _ => ((hS.tail).tail), fun _ => ((hS.tail).tail)⟩, ?_⟩
          refine Rg.many 5 [6] (by kernel_rfl) ⟨?_, ?_, trivial⟩
          · refine Br.mk (i := 5) true true rfl (by kernel_rfl) (by kernel_rfl) ?_
            refine WL.mkD (Rr := RB) hE hS (runs_plain rfl) rfl rfl ap101 zr4 rfl hx70 rfl ?_; clear hE hS a w; intro b71 cs72 a w h73 hE hS
            refine WL.nil ?_
            refine ⟨⟨fun _ => (((hS.tail).tail).tail), fun _ => (((hS.tail).tail).tail)⟩, ?_⟩
            refine Rg.one (i := 6) true true rfl (by kernel_rfl) (by kernel_rfl) (by kernel_rfl) ?_
            refine WL.alloc hE hS (runs_plain rfl) zr101 rfl ?_; clear hE hS a w; intro b75 a w hE hS
            refine WL.nil ?_
            refine ⟨⟨fun _ => ((((hS.tail).tail).tail).tail), fun _ => ((((hS.tail).tail).tail).tail)⟩, ?_⟩
            refine Rg.one (i := 8) true true rfl (by kernel_rfl) (by kernel_rfl) (by kernel_rfl) ?_
            refine WL.storeI hE hS 0 rfl [.slice (some ⟨b65, 0, none⟩) x63.length x63.length] (runs_plain rfl) rfl rfl rfl ty101 rfl rfl rfl rfl ?_; clear hE hS a w; intro a w hE hS
            refine WL.nil ?_
            refine ⟨⟨fun _ => ((((hS.tail).tail).tail).tail), fun _ => ((((hS.tail).tail).tail).tail)⟩, ?_⟩
            refine Rg.one (i := 9) true true rfl (by kernel_rfl) (by kernel_rfl) (by kernel_rfl) ?_
            refine WL.storeI hE hS 2 rfl [.slice (some ⟨b71, 0, none⟩) x69.length x69.length] (runs_plain rfl) rfl rfl rfl ty101 rfl rfl rfl rfl ?_; clear hE hS a w; intro a w hE hS
            refine WL.nil ?_
            refine ⟨⟨fun _ => ((((hS.tail).tail).tail).tail), fun _ => ((((hS.tail).tail).tail).tail)⟩, ?_⟩
            refine Rg.done (by kernel_rfl) ?_
            replace hS := hS.front 4 rfl
            replace hS := hS.front 4 rfl
            replace hS := hS.front 3 rfl
            replace hS := hS.front 3 rfl
            replace hS := hS.front 4 rfl
            exact key _ _ _ _ _ _ _ _ h0 h73 h67 h58 (hE.pick _ ⟨rfl, rfl, rfl, rfl, trivial⟩) hS
          · refine Br.mk (i := 6) true true rfl (by kernel_rfl) (by kernel_rfl) ?_
            refine WL.alloc hE hS (runs_plain rfl) zr101 rfl ?_; clear hE hS a w; intro b75 a w hE hS
            refine WL.nil ?_
            refine ⟨⟨fun _ => (((hS.tail).tail).tail), fun _ => (((hS.tail).tail).tail)⟩, ?_⟩
            refine Rg.many 5 [8] (by kernel_rfl) ⟨?_, ?_, trivial⟩
            · refine Br.mk (i := 5) true true rfl (by kernel_rfl) (by kernel_rfl) ?_
              refine WL.mkD (Rr := RB) hE hS (runs_plain rfl) rfl rfl ap101 zr4 rfl hx70 rfl ?_; clear hE hS a w; intro b71 cs72 a w h73 hE hS
              refine WL.nil ?_
              refine ⟨⟨fun _ => ((((hS.tail).tail).tail).tail), fun _ => ((((hS.tail).tail).tail).tail)⟩, ?_⟩
              refine Rg.one (i := 8) true true rfl (by kernel_rfl) (by kernel_rfl) (by kernel_rfl) ?_
              refine WL.storeI hE hS 1 rfl [.slice (some ⟨b65, 0, none⟩) x63.length x63.length] (runs_plain rfl) rfl rfl rfl ty101 rfl rfl rfl rfl ?_; clear hE hS a w; intro a w hE hS
              refine WL.nil ?_
              refine ⟨⟨fun _ => ((((hS.tail).tail).tail).tail), fun _ => ((((hS.tail).tail).tail).tail)⟩, ?_⟩
              refine Rg.one (i := 9) true true rfl (by kernel_rfl) (by kernel_rfl) (by kernel_rfl) ?_
              refine WL.storeI hE hS 2 rfl [.slice (some ⟨b71, 0, none⟩) x69.length x69.length] (runs_plain rfl) rfl rfl rfl ty101 rfl rfl rfl rfl ?_; clear hE hS a w; intro a w hE hS
              refine WL.nil ?_
              refine ⟨⟨fun _ => ((((hS.tail).tail).tail).tail), fun _ => ((((hS.tail).tail).tail).tail)⟩, ?_⟩
              refine Rg.done (by kernel_rfl) ?_
              replace hS := hS.front 4 rfl
              replace hS := hS.front 4 rfl
              replace hS := hS.front 2 rfl
              replace hS := hS.front 3 rfl
              replace hS := hS.front 4 rfl
              exact key _ _ _ _ _ _ _ _ h0 h73 h67 h58 (hE.pick _ ⟨rfl, rfl, rfl, rfl, trivial⟩) hS
            · refine Br.mk (i := 8) true true rfl (by kernel_rfl) (by kernel_rfl) ?_
              refine WL.storeI hE hS 0 rfl [.slice (some ⟨b65, 0, none⟩) x63.length x63.length] (runs_plain rfl) rfl rfl rfl ty101 rfl rfl rfl rfl ?_; clear hE hS a w; intro a w hE hS
              refine WL.nil ?_
              refine ⟨⟨fun _ => (((hS.tail).tail).tail), fun _ => (((hS.tail).tail).tail)⟩, ?_⟩
              refine Rg.one (i := 5) true true rfl (by kernel_rfl) (by kernel_rfl) (by kernel_rfl) ?_
              refine WL.mkD (Rr := RB) hE hS (runs_plain rfl) rfl rfl ap101 zr4 rfl hx70 rfl ?_; clear hE hS a w; intro b71 cs72 a w h73 hE hS
              refine WL.nil ?_
              refine ⟨⟨fun _ => ((((hS.tail).tail).tail).tail), fun _ => ((((hS.tail).tail).tail).tail)⟩, ?_⟩
              refine Rg.one (i := 9) true true rfl (by kernel_rfl) (by kernel_rfl) (by kernel_rfl) ?_
              refine WL.storeI hE hS 2 rfl [.slice (some ⟨b71, 0, none⟩) x69.length x69.length] (runs_plain rfl) rfl rfl rfl ty101 rfl rfl rfl rfl ?_; clear hE hS a w; intro a w hE hS
              refine WL.nil ?_
              refine ⟨⟨fun _ => ((((hS.tail).tail).tail).tail), fun _ => ((((hS.tail).tail).tail).tail)⟩, ?_⟩
              refine Rg.done (by kernel_rfl) ?_
              replace hS := hS.front 4 rfl
              replace hS := hS.front 4 rfl
              replace hS := hS.front 2 rfl
              replace hS := hS.front 3 rfl
              replace hS := hS.front 4 rfl
              exact key _ _ _ _ _ _ _ _ h0 h73 h67 h58 (hE.pick _ ⟨rfl, rfl, rfl, rfl, trivial⟩) hS
      · refine Br.mk (i := 5) true true rfl (by kernel_rfl) (by kernel_rfl) ?_
        refine WL.mkD (Rr := RB) hE hS (runs_plain rfl) rfl rfl ap101 zr4 rfl hx70 rfl ?_; clear hE hS a w; intro b71 cs72 a w h73 hE hS
        refine WL.nil ?_
        refine ⟨⟨fun _ => (hS.tail), fun _ => (hS.tail)⟩, ?_⟩
        refine Rg.many 2 [6, 7] (by kernel_rfl) ⟨?_, ?_, ?_, trivial⟩
        · refine Br.mk (i := 2) true true rfl (by kernel_rfl) (by kernel_rfl) ?_
          refine WL.mkD (Rr := RB) hE hS (runs_plain rfl) rfl rfl ap101 zr4 rfl hx64 rfl ?_; clear hE hS a w; intro b65 cs66 a w h67 hE hS
          refine WL.nil ?_
          refine ⟨⟨fun _ => ((hS.tail).tail), fun _ => ((hS.tail).tail)⟩, ?_⟩
          refine Rg.many 6 [7] (by kernel_rfl) ⟨?_, ?_, trivial⟩
          · refine Br.mk (i := 6) true true rfl (by kernel_rfl) (by kernel_rfl) ?_
            refine WL.alloc hE hS (runs_plain rfl) zr101 rfl ?_; clear hE hS a w; intro b75 a w hE hS
            refine WL.nil ?_
            refine ⟨⟨fun _ => (((hS.tail).tail).tail), fun _ => (((hS.tail).tail).tail)⟩, ?_⟩
            refine Rg.one (i := 7) true true rfl (by kernel_rfl) (by kernel_rfl) (by kernel_rfl) ?_
            refine WL.alloc hE hS (runs_plain rfl) zr101 rfl ?_; clear hE hS a w; intro b76 a w hE hS
            refine WL.nil ?_
            refine ⟨⟨fun _ => ((((hS.tail).tail).tail).tail), fun _ => ((((hS.tail).tail).tail).tail)⟩, ?_⟩
            refine Rg.one (i := 8) true true rfl (by kernel_rfl) (by kernel_rfl) (by kernel_rfl) ?_
            refine WL.storeI hE hS 1 rfl [.slice (some ⟨b65, 0, none⟩) x63.length x63.length] (runs_plain rfl) rfl rfl rfl ty101 rfl rfl rfl rfl ?_; clear hE hS a w; intro a w hE hS
            refine WL.nil ?_
            refine ⟨⟨fun _ => ((((hS.tail).tail).tail).tail), fun _ => ((((hS.tail).tail).tail).tail)⟩, ?_⟩
            refine Rg.one (i := 9) true true rfl (by kernel_rfl) (by kernel_rfl) (by kernel_rfl) ?_
            refine WL.storeI hE hS 0 rfl [.slice (some ⟨b71, 0, none⟩) x69.length x69.length] (runs_plain rfl) rfl rfl rfl ty101 rfl rfl rfl rfl ?_; clear hE hS a w; intro a w hE hS
            refine WL.nil ?_
            refine ⟨⟨fun _ => ((((hS.tail).tail).tail).tail), fun _ => ((((hS.tail).tail).tail).tail)⟩, ?_⟩
            refine Rg.done (by kernel_rfl) ?_
            replace hS := hS.front 4 rfl
            replace hS := hS.front 3 rfl
            replace hS := hS.front 4 rfl
            replace hS := hS.front 4 rfl
            replace hS := hS.front 4 rfl
            exact key _ _ _ _ _ _ _ _ h0 h73 h67 h58 (hE.pick _ ⟨rfl, rfl, rfl, rfl, trivial⟩) hS
          · refine Br.mk (i := 7) true true rfl (by kernel_rfl) (by kernel_rfl) ?_
            refine WL.alloc hE hS (runs_plain rfl) zr101 rfl ?_; clear hE hS a w; intro b76 a w hE hS
            refine WL.nil ?_
            refine ⟨⟨fun _ => (((hS.tail).tail).tail), fun _ => (((hS.tail).tail).tail)⟩, ?_⟩
            refine Rg.one (i := 6) true true rfl (by kernel_rfl) (by kernel_rfl) (by kernel_rfl) ?_
            refine WL.alloc hE hS (runs_plain rfl) zr101 rfl ?_; clear hE hS a w; intro b75 a w hE hS
            refine WL.nil ?_
            refine ⟨⟨fun _ => ((((hS.tail).tail).tail).tail), fun _ => ((((hS.tail).tail).tail).tail)⟩, ?_⟩
            refine Rg.one (i := 8) true true rfl (by kernel_rfl) (by kernel_rfl) (by kernel_rfl) ?_
            refine WL.storeI hE hS 0 rfl [.slice (some ⟨b65, 0, none⟩) x63.length x63.length] (runs_plain rfl) rfl rfl rfl ty101 rfl rfl rfl rfl ?_; clear hE hS a w; intro a w hE hS
            refine WL.nil ?_
            refine ⟨⟨fun _ => ((((hS.tail).tail).tail).tail), fun _ => ((((hS.tail).tail).tail).tail)⟩, ?_⟩
            refine Rg.one (i := 9) true true rfl (by kernel_rfl) (by kernel_rfl) (by kernel_rfl) ?_
            refine WL.storeI hE hS 1 rfl [.slice (some ⟨b71, 0, none⟩) x69.length x69.length] (runs_plain rfl) rfl rfl rfl ty101 rfl rfl rfl rfl ?_; clear hE hS a w; intro a w hE hS
            refine WL.nil ?_
            refine ⟨⟨fun _ => ((((hS.tail).tail).tail).tail), fun _ => ((((hS.tail).tail).tail).tail)⟩, ?_⟩
            refine Rg.done (by kernel_rfl) ?_
            replace hS := hS.front 4 rfl
            replace hS := hS.front 3 rfl
            replace hS := hS.front 4 rfl
            replace hS := hS.front 3 rfl
            replace hS := hS.front 4 rfl
            exact key _ _ _ _ _ _ _ _ h0 h73 h67 h58 (hE.pick _ ⟨rfl, rfl, rfl, rfl, trivial⟩) hS
        · refine Br.mk (i := 6) true true rfl (by kernel_rfl) (by kernel_rfl) ?_
          refine WL.alloc hE hS (runs_plain rfl) zr101 rfl ?_; clear hE hS a w; intro b75 a w hE hS
          refine WL.nil ?_
          refine ⟨⟨fun _ => ((hS.tail).tail), fun _ => ((hS.tail).tail)⟩, ?_⟩
          refine Rg.many 2 [7] (by kernel_rfl) ⟨?_, ?_, trivial⟩
          · refine Br.mk (i := 2) true true rfl (by kernel_rfl) (by kernel_rfl) ?_
            refine WL.mkD (Rr := RB) hE hS (runs_plain rfl) rfl rfl ap101 zr4 rfl hx64 rfl ?_; clear hE hS a w; intro b65 cs66 a w h67 hE hS
            refine WL.nil ?_
            refine ⟨⟨fun _ => (((hS.tail).tail).tail), fun _ => (((hS.tail).tail).tail)⟩, ?_⟩
            refine Rg.one (i := 7) true true rfl (by kernel_rfl) (by kernel_rfl) (by kernel_rfl) ?_
            refine WL.alloc hE hS (runs_plain rfl) zr101 rfl ?_; clear hE hS a w; intro b76 a w hE hS
            refine WL.nil ?_
            refine ⟨⟨fun _ => ((((hS.tail).tail).tail).tail), fun _ => ((((hS.tail).tail).tail).tail)⟩, ?_⟩
            refine Rg.one (i := 8) true true rfl (by kernel_rfl) (by kernel_rfl) (by kernel_rfl) ?_
            refine WL.storeI hE hS 2 rfl [.slice (some ⟨b65, 0, none⟩) x63.length x63.length] (runs_plain rfl) rfl rfl rfl ty101 rfl rfl rfl rfl ?_; clear hE hS a w; intro a w hE hS
            refine WL.nil ?_
            refine ⟨⟨fun _ => ((((hS.tail).tail).tail).tail), fun _ => ((((hS.tail).tail).tail).tail)⟩, ?_⟩
            refine Rg.one (i := 9) true true rfl (by kernel_rfl) (by kernel_rfl) (by kernel_rfl) ?_
            refine WL.storeI hE hS 0 rfl [.slice (some ⟨b71, 0, none⟩) x69.length x69.length] (runs_plain rfl) rfl rfl rfl ty101 rfl rfl rfl rfl ?_; clear hE hS a w; intro a w hE hS
            refine WL.nil ?_
            refine ⟨⟨fun _ => ((((hS.tail).tail).tail).tail), fun _ => ((((hS.tail).tail).tail).tail)⟩, ?_⟩
            refine Rg.done (by kernel_rfl) ?_
            replace hS := hS.front 4 rfl
            replace hS := hS.front 2 rfl
            replace hS := hS.front 4 rfl
            replace hS := hS.front 4 rfl
            replace hS := hS.front 4 rfl
            exact key _ _ _ _ _ _ _ _ h0 h73 h67 h58 (hE.pick _ ⟨rfl, rfl, rfl, rfl, trivial⟩) hS
          · refine Br.mk (i := 7) true true rfl (by kernel_rfl) (by kernel_rfl) ?_
            refine WL.alloc hE hS (runs_plain rfl) zr101 rfl ?_; clear hE hS a w; intro b76 a w hE hS
            refine WL.nil ?_
            refine ⟨⟨fun _ => (((hS.tail).tail).tail), fun _ => (((hS.tail).tail).tail)⟩, ?_⟩
            refine Rg.one (i := 2) true true rfl (by kernel_rfl) (by kernel_rfl) (by kernel_rfl) ?_
            refine WL.mkD (Rr := RB) hE hS (runs_plain rfl) rfl rfl ap101 zr4 rfl hx64 rfl ?_; clear hE hS a w; intro b65 cs66 a w h67 hE hS
            refine WL.nil ?_
            refine ⟨⟨fun _ => ((((hS.tail).tail).tail).tail), fun _ => ((((hS.tail).tail).tail).tail)⟩, ?_⟩
            refine Rg.one (i := 8) true true rfl (by kernel_rfl) (by kernel_rfl) (by kernel_rfl) ?_
            refine WL.storeI hE hS 2 rfl [.slice (some ⟨b65, 0, none⟩) x63.length x63.length] (runs_plain rfl) rfl rfl rfl ty101 rfl rfl rfl rfl ?_; clear hE hS a w; intro a w hE hS
            refine WL.nil ?_
            refine ⟨⟨fun _ => ((((hS.tail).tail).tail).tail), fun _ => ((((hS.tail).tail).tail).tail)⟩, ?_⟩
            refine Rg.one (i := 9) true true rfl (by kernel_rfl) (by kernel_rfl) (by kernel_rfl) ?_
            refine WL.storeI hE hS 1 rfl [.slice (some ⟨b71, 0, none⟩) x69.length x69.length] (runs_plain rfl) rfl rfl rfl ty101 rfl rfl rfl rfl ?_; clear hE hS a w; intro a w hE hS
            refine WL.nil ?_
            refine ⟨⟨fun _ => ((((hS.tail).tail).tail).tail), fun _ => ((((hS.tail).tail).tail).tail)⟩, ?_⟩
            refine Rg.done (by kernel_rfl) ?_
            replace hS := hS.front 4 rfl
            replace hS := hS.front 1 rfl
            replace hS := hS.front 4 rfl
            replace hS := hS.front 4 rfl
            replace hS := hS.front 4 rfl
            exact key _ _ _ _ _ _ _ _ h0 h73 h67 h58 (hE.pick _ ⟨rfl, rfl, rfl, rfl, trivial⟩) hS
        · refine Br.mk (i := 7) true true rfl (by kernel_rfl) (by kernel_rfl) ?_
          refine WL.alloc hE hS (runs_plain rfl) zr101 rfl ?_; clear hE hS a w; intro b76 a w hE hS
          refine WL.nil ?_
          refine ⟨⟨fun _ => ((hS.tail).tail), fun _ => ((hS.tail).tail)⟩, ?_⟩
          refine Rg.many 2 [6] (by kernel_rfl) ⟨?_, ?_, trivial⟩
          · refine Br.mk (i := 2) true true rfl (by kernel_rfl) (by kernel_rfl) ?_
            refine WL.mkD (Rr := RB) hE hS (runs_plain rfl) rfl rfl ap101 zr4 rfl hx64 rfl ?_; clear hE hS a w; intro b65 cs66 a w h67 hE hS
            refine WL.nil ?_
            refine ⟨⟨fun _ => (((hS.tail).tail).tail), fun _ => (((hS.tail).tail).tail)⟩, ?_⟩
            refine Rg.one (i := 6) true true rfl (by kernel_rfl) (by kernel_rfl) (by kernel_rfl) ?_
            refine WL.alloc hE hS (runs_plain rfl) zr101 rfl ?_; clear hE hS a w; intro b75 a w hE hS
            refine WL.nil ?_
            refine ⟨⟨fun _ => ((((hS.tail).tail).tail).tail), fun _ => ((((hS.tail).tail).tail).tail)⟩, ?_⟩
            refine Rg.one (i := 8) true true rfl (by kernel_rfl) (by kernel_rfl) (by kernel_rfl) ?_
            refine WL.storeI hE hS 0 rfl [.slice (some ⟨b65, 0, none⟩) x63.length x63.length] (runs_plain rfl) rfl rfl rfl ty101 rfl rfl rfl rfl ?_; clear hE hS a w; intro a w hE hS
            refine WL.nil ?_
            refine ⟨⟨fun _ => ((((hS.tail).tail).tail).tail), fun _ => ((((hS.tail).tail).tail).tail)⟩, ?_⟩
            refine Rg.one (i := 9) true true rfl (by kernel_rfl) (by kernel_rfl) (by kernel_rfl) ?_
            refine WL.storeI hE hS 2 rfl [.slice (some ⟨b71, 0, none⟩) x69.length x69.length] (runs_plain rfl) rfl rfl rfl ty101 rfl rfl rfl rfl ?_; clear hE hS a w; intro a w hE hS
            refine WL.nil ?_
            refine ⟨⟨fun _ => ((((hS.tail).tail).tail).tail), fun _ => ((((hS.tail).tail).tail).tail)⟩, ?_⟩
            refine Rg.done (by kernel_rfl) ?_
            replace hS := hS.front 4 rfl
            replace hS := hS.front 2 rfl
            replace hS := hS.front 4 rfl
            replace hS := hS.front 3 rfl
            replace hS := hS.front 4 rfl
            exact key _ _ _ _ _ _ _ _ h0 h73 h67 h58 (hE.pick _ ⟨rfl, rfl, rfl, rfl, trivial⟩) hS
          · refine Br.mk (i := 6) true true rfl (by kernel_rfl) (by kernel_rfl) ?_
            refine WL.alloc hE hS (runs_plain rfl) zr101 rfl ?_; clear hE hS a w; intro b75 a w hE hS
            refine WL.nil ?_
            refine ⟨⟨fun _ => (((hS.tail).tail).tail), fun _ => (((hS.tail).tail).tail)⟩, ?_⟩
            refine Rg.one (i := 2) true true rfl (by kernel_rfl) (by kernel_rfl) (by kernel_rfl) ?_
            refine WL.mkD (Rr := RB) hE hS (runs_plain rfl) rfl rfl ap101 zr4 rfl hx64 rfl ?_; clear hE hS a w; intro b65 cs66 a w h67 hE hS
            refine WL.nil ?_
            refine ⟨⟨fun _ => ((((hS.tail).tail).tail).tail), fun _ => ((((hS.tail).tail).tail).tail)⟩, ?_⟩
            refine Rg.one (i := 8) true true rfl (by kernel_rfl) (by kernel_rfl) (by kernel_rfl) ?_
            refine WL.storeI hE hS 1 rfl [.slice (some ⟨b65, 0, none⟩) x63.length x63.length] (runs_plain rfl) rfl rfl rfl ty101 rfl rfl rfl rfl ?_; clear hE hS a w; intro a w hE hS
            refine WL.nil ?_
            refine ⟨⟨fun _ => ((((hS.tail).tail).tail).tail), fun _ => ((((hS.tail).tail).tail).tail)⟩, ?_⟩
            refine Rg.one (i := 9) true true rfl (by kernel_rfl) (by kernel_rfl) (by kernel_rfl) ?_
            refine WL.storeI hE hS 2 rfl [.slice (some ⟨b71, 0, none⟩) x69.length x69.length] (runs_plain rfl) rfl rfl rfl ty101 rfl rfl rfl rfl ?_; clear hE hS a w; intro a w hE hS
            refine WL.nil ?_
            refine ⟨⟨fun _ => ((((hS.tail).tail).tail).tail), fun _ => ((((hS.tail).tail).tail).tail)⟩, ?_⟩
            refine Rg.done (by kernel_rfl) ?_
            replace hS := hS.front 4 rfl
            replace hS := hS.front 1 rfl
            replace hS := hS.front 4 rfl
            replace hS := hS.front 3 rfl
            replace hS := hS.front 4 rfl
            exact key _ _ _ _ _ _ _ _ h0 h73 h67 h58 (hE.pick _ ⟨rfl, rfl, rfl, rfl, trivial⟩) hS
      · refine Br.mk (i := 6) true true rfl (by kernel_rfl) (by kernel_rfl) ?_
        refine WL.alloc hE hS (runs_plain rfl) zr101 rfl ?_; clear hE hS a w; intro b75 a w hE hS
        refine WL.nil ?_
        refine ⟨⟨fun _ => (hS.tail), fun _ => (hS.tail)⟩, ?_⟩
        refine Rg.many 2 [5, 7] (by kernel_rfl) ⟨?_, ?_, ?_, trivial⟩
        · refine Br.mk (i := 2) true true rfl (by kernel_rfl) (by kernel_rfl) ?_
          refine WL.mkD (Rr := RB) hE hS (runs_plain rfl) rfl rfl ap101 zr4 rfl hx64 rfl ?_; clear hE hS a w; intro b65 cs66 a w h67 hE hS
          refine WL.nil ?_
          refine ⟨⟨fun _ => ((hS.tail).tail), fun _ => ((hS.tail).tail)⟩, ?_⟩
          refine Rg.many 5 [7] (by kernel_rfl) ⟨?_, ?_, trivial⟩
          · refine Br.mk (i := 5) true true rfl (by kernel_rfl) (by kernel_rfl) ?_
            refine WL.mkD (Rr := RB) hE hS (runs_plain rfl) rfl rfl ap101 zr4 rfl hx70 rfl ?_; clear hE hS a w; intro b71 cs72 a w h73 hE hS
            refine WL.nil ?_
            refine ⟨⟨fun _ => (((hS.tail).tail).tail), fun _ => (((hS.tail).tail).tail)⟩, ?_⟩
            refine Rg.one (i := 7) true true rfl (by kernel_rfl) (by kernel_rfl) (by kernel_rfl) ?_
            refine WL.alloc hE hS (runs_plain rfl) zr101 rfl ?_; clear hE hS a w; intro b76 a w hE hS
            refine WL.nil ?_
            refine ⟨⟨fun _ => ((((hS.tail).tail).tail).tail), fun _ => ((((hS.tail).tail).tail).tail)⟩, ?_⟩
            refine Rg.one (i := 8) true true rfl (by kernel_rfl) (by kernel_rfl) (by kernel_rfl) ?_
            refine WL.storeI hE hS 3 rfl [.slice (some ⟨b65, 0, none⟩) x63.length x63.length] (runs_plain rfl) rfl rfl rfl ty101 rfl rfl rfl rfl ?_; clear hE hS a w; intro a w hE hS
            refine WL.nil ?_
            refine ⟨⟨fun _ => ((((hS.tail).tail).tail).tail), fun _ => ((((hS.tail).tail).tail).tail)⟩, ?_⟩
            refine Rg.one (i := 9) true true rfl (by kernel_rfl) (by kernel_rfl) (by kernel_rfl) ?_
            refine WL.storeI hE hS 0 rfl [.slice (some ⟨b71, 0, none⟩) x69.length x69.length] (runs_plain rfl) rfl rfl rfl ty101 rfl rfl rfl rfl ?_; clear hE hS a w; intro a w hE hS
            refine WL.nil ?_
            refine ⟨⟨fun _ => ((((hS.tail).tail).tail).tail), fun _ => ((((hS.tail).tail).tail).tail)⟩, ?_⟩
            refine Rg.done (by kernel_rfl) ?_
            replace hS := hS.front 4 rfl
            replace hS := hS.front 3 rfl
            replace hS := hS.front 3 rfl
            replace hS := hS.front 4 rfl
            replace hS := hS.front 4 rfl
            exact key _ _ _ _ _ _ _ _ h0 h73 h67 h58 (hE.pick _ ⟨rfl, rfl, rfl, rfl, trivial⟩) hS
          · refine Br.mk (i := 7) true true rfl (by kernel_rfl) (by kernel_rfl) ?_
            refine WL.alloc hE hS (runs_plain rfl) zr101 rfl ?_; clear hE hS a w; intro b76 a w hE hS
            refine WL.nil ?_
            refine ⟨⟨fun _ => (((hS.tail).tail).tail), fun _ => (((hS.tail).tail).tail)⟩, ?_⟩
            refine Rg.many 5 [8] (by kernel_rfl) ⟨?_, ?_, trivial⟩
            · refine Br.mk (i := 5) true true rfl (by kernel_rfl) (by kernel_rfl) ?_
              refine WL.mkD (Rr := RB) hE hS (runs_plain rfl) rfl rfl ap101 zr4 rfl hx70 rfl ?_; clear hE hS a w; intro b71 cs72 a w h73 hE hS
              refine WL.nil ?_
              refine ⟨⟨fun _ => ((((hS.tail).tail).tail).tail), fun _ => ((((hS.tail).tail).tail).tail)⟩, ?_⟩
              refine Rg.one (i := 8) true true rfl (by kernel_rfl) (by kernel_rfl) (by kernel_rfl) ?_
              refine WL.storeI hE hS 3 rfl [.slice (some ⟨b65, 0, none⟩) x63.length x63.length] (runs_plain rfl) rfl rfl rfl ty101 rfl rfl rfl rfl ?_; clear hE hS a w; intro a w hE hS
              refine WL.nil ?_
              refine ⟨⟨fun _ => ((((hS.tail).tail).tail).tail), fun _ => ((((hS.tail).tail).tail).tail)⟩, ?_⟩
              refine Rg.one (i := 9) true true rfl (by kernel_rfl) (by kernel_rfl) (by kernel_rfl) ?_
              refine WL.storeI hE hS 1 rfl [.slice (some ⟨b71, 0, none⟩) x69.length x69.length] (runs_plain rfl) rfl rfl rfl ty101 rfl rfl rfl rfl ?_; clear hE hS a w; intro a w hE hS
              refine WL.nil ?_
              refine ⟨⟨fun _ => ((((hS.tail).tail).tail).tail), fun _ => ((((hS.tail).tail).tail).tail)⟩, ?_⟩
              refine Rg.done (by kernel_rfl) ?_
              replace hS := hS.front 4 rfl
              replace hS := hS.front 3 rfl
              replace hS := hS.front 2 rfl
              replace hS := hS.front 4 rfl
              replace hS := hS.front 4 rfl
              exact key _ _ _ _ _ _ _ _ h0 h73 h67 h58 (hE.pick _ ⟨rfl, rfl, rfl, rfl, trivial⟩) hS
            · refine Br.mk (i := 8) true true rfl (by kernel_rfl) (by kernel_rfl) ?_
              refine WL.storeI hE hS 2 rfl [.slice (some ⟨b65, 0, none⟩) x63.length x63.length] (runs_plain rfl) rfl rfl rfl ty101 rfl rfl rfl rfl ?_; clear hE hS a w; intro a w hE hS
              refine WL.nil ?_
              refine ⟨⟨fun _ => (((hS.tail).tail).tail), fun _ => (((hS.tail).tail).tail)⟩, ?_⟩
              refine Rg.one (i := 5) true true rfl (by kernel_rfl) (by kernel_rfl) (by kernel_rfl) ?_
              refine WL.mkD (Rr := RB) hE hS (runs_plain rfl) rfl rfl ap101 zr4 rfl hx70 rfl ?_; clear hE hS a w; intro b71 cs72 a w h73 hE hS
              refine WL.nil ?_
              refine ⟨⟨fun _ => ((((hS.tail).tail).tail).tail), fun _ => ((((hS.tail).tail).tail).tail)⟩, ?_⟩
              refine Rg.one (i := 9) true true rfl (by kernel_rfl) (by kernel_rfl) (by kernel_rfl) ?_
              refine WL.storeI hE hS 1 rfl [.slice (some ⟨b71, 0, none⟩) x69.length x69.length] (runs_plain rfl) rfl rfl rfl ty101 rfl rfl rfl rfl ?_; clear hE hS a w; intro a w hE hS
              refine WL.nil ?_
              refine ⟨⟨fun _ => ((((hS.tail).tail).tail).tail), fun _ => ((((hS.tail).tail).tail).tail)⟩, ?_⟩
              refine Rg.done (by kernel_rfl) ?_
              replace hS := hS.front 4 rfl
              replace hS := hS.front 3 rfl
              replace hS := hS.front 2 rfl
              replace hS := hS.front 4 rfl
              replace hS := hS.front 4 rfl
              exact key _ _ _ _ _ _ _ _ h0 h73 h67 h58 (hE.pick _ ⟨rfl, rfl, rfl, rfl, trivial⟩) hS
        · refine Br.mk (i := 5) true true rfl (by kernel_rfl) (by kernel_rfl) ?_
          refine WL.mkD (Rr := RB) hE hS (runs_plain rfl) rfl rfl ap101 zr4 rfl hx70 rfl ?_; clear hE hS a w; intro b71 cs72 a w h73 hE hS
          refine WL.nil ?_
          refine ⟨⟨fun _ => ((hS.tail).tail), fun _ => ((hS.tail).tail)⟩, ?_⟩
          refine Rg.many 2 [7] (by kernel_rfl) ⟨?_, ?_, trivial⟩
          · refine Br.mk (i := 2) true true rfl (by kernel_rfl) (by kernel_rfl) ?_
            refine WL.mkD (Rr := RB) hE hS (runs_plain rfl) rfl rfl ap101 zr4 rfl hx64 rfl ?_; clear hE hS a w; intro b65 cs66 a w h67 hE hS
            refine WL.nil ?_
            refine ⟨⟨fun _ => (((hS.tail).tail).tail), fun _ => (((hS.tail).tail).tail)⟩, ?_⟩
            refine Rg.one (i := 7) true true rfl (by kernel_rfl) (by kernel_rfl) (by kernel_rfl) ?_
            refine WL.alloc hE hS (runs_plain rfl) zr101 rfl ?_; clear hE hS a w; intro b76 a w hE hS
            refine WL.nil ?_
            refine ⟨⟨fun _ => ((((hS.tail).tail).tail).tail), fun _ => ((((hS.tail).tail).tail).tail)⟩, ?_⟩
            refine Rg.one (i := 8) true true rfl (by kernel_rfl) (by kernel_rfl) (by kernel_rfl) ?_
            refine WL.storeI hE hS 3 rfl [.slice (some ⟨b65, 0, none⟩) x63.length x63.length] (runs_plain rfl) rfl rfl rfl ty101 rfl rfl rfl rfl ?_; clear hE hS a w; intro a w hE hS
            refine WL.nil ?_
            refine ⟨⟨fun _ => ((((hS.tail).tail).tail).tail), fun _ => ((((hS.tail).tail).tail).tail)⟩, ?_⟩
            refine Rg.one (i := 9) true true rfl (by kernel_rfl) (by kernel_rfl) (by kernel_rfl) ?_
            refine WL.storeI hE hS 0 rfl [.slice (some ⟨b71, 0, none⟩) x69.length x69.length] (runs_plain rfl) rfl rfl rfl ty101 rfl rfl rfl rfl ?_; clear hE hS a w; intro a w hE hS
            refine WL.nil ?_
            refine ⟨⟨fun _ => ((((hS.tail).tail).tail).tail), fun _ => ((((hS.tail).tail).tail).tail)⟩, ?_⟩
            refine Rg.done (by kernel_rfl) ?_
            replace hS := hS.front 4 rfl
            replace hS := hS.front 2 rfl
            replace hS := hS.front 3 rfl
            replace hS := hS.front 4 rfl
            replace hS := hS.front 4 rfl
            exact key _ _ _ _ _ _ _ _ h0 h73 h67 h58 (hE.pick _ ⟨rfl, rfl, rfl, rfl, trivial⟩) hS
          · refine Br.mk (i := 7) true true rfl (by kernel_rfl) (by kernel_rfl) ?_
            refine WL.alloc hE hS (runs_plain rfl) zr101 rfl ?_; clear hE hS a w; intro b76 a w hE hS
            refine WL.nil ?_
            refine ⟨⟨fun _ => (((hS.tail).tail).tail), fun _ => (((hS.tail).tail).tail)⟩, ?_⟩
            refine Rg.one (i := 2) true true rfl (by kernel_rfl) (by kernel_rfl) (by kernel_rfl) ?_
            refine WL.mkD (Rr := RB) hE hS (runs_plain rfl) rfl rfl ap101 zr4 rfl hx64 rfl ?_; clear hE hS a w; intro b65 cs66 a w h67 hE hS
            refine WL.nil ?_
            refine ⟨⟨fun _ => ((((hS.tail).tail).tail).tail), fun _ => ((((hS.tail).tail).tail).tail)⟩, ?_⟩
            refine Rg.one (i := 8) true true rfl (by kernel_rfl) (by kernel_rfl) (by kernel_rfl) ?_
            refine WL.storeI hE hS 3 rfl [.slice (some ⟨b65, 0, none⟩) x63.length x63.length] (runs_plain rfl) rfl rfl rfl ty101 rfl rfl rfl rfl ?_; clear hE hS a w; intro a w hE hS
            refine WL.nil ?_
            refine ⟨⟨fun _ => ((((hS.tail).tail).tail).tail), fun _ => ((((hS.tail).tail).tail).tail)⟩, ?_⟩
            refine Rg.one (i := 9) true true rfl (by kernel_rfl) (by kernel_rfl) (by kernel_rfl) ?_
            refine WL.storeI hE hS 1 rfl [.slice (some ⟨b71, 0, none⟩) x69.length x69.length] (runs_plain rfl) rfl rfl rfl ty101 rfl rfl rfl rfl ?_; clear hE hS a w; intro a w hE hS
            refine WL.nil ?_
            refine ⟨⟨fun _ => ((((hS.tail).tail).tail).tail), fun _ => ((((hS.tail).tail).tail).tail)⟩, ?_⟩
            refine Rg.done (by kernel_rfl) ?_
            replace hS := hS.front 4 rfl
            replace hS := hS.front 1 rfl
            replace hS := hS.front 3 rfl
            replace hS := hS.front 4 rfl
            replace hS := hS.front 4 rfl
            exact key _ _ _ _ _ _ _ _ h0 h73 h67 h58 (hE.pick _ ⟨rfl, rfl, rfl, rfl, trivial⟩) hS
        · refine Br.mk (i := 7) true true rfl (by kernel_rfl) (by kernel_rfl) ?_
          refine WL.alloc hE hS (runs_plain rfl) zr101 rfl ?_; clear hE hS a w; intro b76 a w hE hS
          refine WL.nil ?_
          refine ⟨⟨fun _ => ((hS.tail).tail), fun _ => ((hS.tail).tail)⟩, ?_⟩
          refine Rg.many 2 [5] (by kernel_rfl) ⟨?_, ?_, trivial⟩
          · refine Br.mk (i := 2) true true rfl (by kernel_rfl) (by kernel_rfl) ?_
            refine WL.mkD (Rr := RB) hE hS (runs_plain rfl) rfl rfl ap101 zr4 rfl hx64 rfl ?_; clear hE hS a w; intro b65 cs66 a w h67 hE hS
            refine WL.nil ?_
            refine ⟨⟨fun _ => (((hS.tail).tail).tail), fun _ => (((hS.tail).tail).tail)⟩, ?_⟩
            refine Rg.many 5 [8] (by kernel_rfl) ⟨?_, ?_, trivial⟩
            · refine Br.mk (i := 5) true true rfl (by kernel_rfl) (by kernel_rfl) ?_
              refine WL.mkD (Rr := RB) hE hS (runs_plain rfl) rfl rfl ap101 zr4 rfl hx70 rfl ?_; clear hE hS a w; intro b71 cs72 a w h73 hE hS
              refine WL.nil ?_
              refine ⟨⟨fun _ => ((((hS.tail).tail).tail).tail), fun _ => ((((hS.tail).tail).tail).tail)⟩, ?_⟩
              refine Rg.one (i := 8) true true rfl (by kernel_rfl) (by kernel_rfl) (by kernel_rfl) ?_
              refine WL.storeI hE hS 3 rfl [.slice (some ⟨b65, 0, none⟩) x63.length x63.length] (runs_plain rfl) rfl rfl rfl ty101 rfl rfl rfl rfl ?_; clear hE hS a w; intro a w hE hS
              refine WL.nil ?_
              refine ⟨⟨fun _ => ((((hS.tail).tail).tail).tail), fun _ => ((((hS.tail).tail).tail).tail)⟩, ?_⟩
              refine Rg.one (i := 9) true true rfl (by kernel_rfl) (by kernel_rfl) (by kernel_rfl) ?_
              refine WL.storeI hE hS 2 rfl [.slice (some ⟨b71, 0, none⟩) x69.length x69.length] (runs_plain rfl) rfl rfl rfl ty101 rfl rfl rfl rfl ?_; clear hE hS a w; intro a w hE hS
              refine WL.nil ?_
              refine ⟨⟨fun _ => ((((hS.tail).tail).tail).tail), fun _ => ((((hS.tail).tail).tail).tail)⟩, ?_⟩
              refine Rg.done (by kernel_rfl) ?_
              replace hS := hS.front 4 rfl
              replace hS := hS.front 2 rfl
              replace hS := hS.front 2 rfl
              replace hS := hS.front 4 rfl
              replace hS := hS.front 4 rfl
              exact key _ _ _ _ _ _ _ _ h0 h73 h67 h58 (hE.pick _ ⟨rfl, rfl, rfl, rfl, trivial⟩) hS
            · refine Br.mk (i := 8) true true rfl (by kernel_rfl) (by kernel_rfl) ?_
              refine WL.storeI hE hS 2 rfl [.slice (some ⟨b65, 0, none⟩) x63.length x63.length] (runs_plain rfl) rfl rfl rfl ty101 rfl rfl rfl rfl ?_; clear hE hS a w; intro a w hE hS
              refine WL.nil ?_
              refine ⟨⟨fun _ => (((hS.tail).tail).tail), fun _ => (((hS.tail).tail).tail)⟩, ?_⟩
              refine Rg.one (i := 5) true true rfl (by kernel_rfl) (by kernel_rfl) (by kernel_rfl) ?_
              refine WL.mkD (Rr := RB) hE hS (runs_plain rfl) rfl rfl ap101 zr4 rfl hx70 rfl ?_; clear hE hS a w; intro b71 cs72 a w h73 hE hS
              refine WL.nil ?_
              refine ⟨⟨fun _ => ((((hS.tail).tail).tail).tail), fun _ => ((((hS.tail).tail).tail).tail)⟩, ?_⟩
              refine Rg.one (i := 9) true true rfl (by kernel_rfl) (by kernel_rfl) (by kernel_rfl) ?_
              refine WL.storeI hE hS 2 rfl [.slice (some ⟨b71, 0, none⟩) x69.length x69.length] (runs_plain rfl) rfl rfl rfl ty101 rfl rfl rfl rfl ?_; clear hE hS a w; intro a w hE hS
              refine WL.nil ?_
              refine ⟨⟨fun _ => ((((hS.tail).tail).tail).tail), fun _ => ((((hS.tail).tail).tail).tail)⟩, ?_⟩
              refine Rg.done (by kernel_rfl) ?_
              replace hS := hS.front 4 rfl
              replace hS := hS.front 2 rfl
              replace hS := hS.front 2 rfl
              replace hS := hS.front 4 rfl
              replace hS := hS.front 4 rfl
              exact key _ _ _ _ _ _ _ _ h0 h73 h67 h58 (hE.pick _ ⟨rfl, rfl, rfl, rfl, trivial⟩) hS
          · refine Br.mk (i := 5) true true rfl (by kernel_rfl) (by kernel_rfl) ?_
            refine WL.mkD (Rr := RB) hE hS (runs_plain rfl) rfl rfl ap101 zr4 rfl hx70 rfl ?_; clear hE hS a w; intro b71 cs72 a w h73 hE hS
            refine WL.nil ?_
            refine ⟨⟨fun _ => (((hS.tail).tail).tail), fun _ => (((hS.tail).tail).tail)⟩, ?_⟩
            refine Rg.one (i := 2) true true rfl (by kernel_rfl) (by kernel_rfl) (by kernel_rfl) ?_
            refine WL.mkD (Rr := RB) hE hS (runs_plain rfl) rfl rfl ap101 zr4 rfl hx64 rfl ?_; clear hE hS a w; intro b65 cs66 a w h67 hE hS
            refine WL.nil ?_
            refine ⟨⟨fun _ => ((((hS.tail).tail).tail).tail), fun _ => ((((hS.tail).tail).tail).tail)⟩, ?_⟩
            refine Rg.one (i := 8) true true rfl (by kernel_rfl) (by kernel_rfl) (by kernel_rfl) ?_
            refine WL.storeI hE hS 3 rfl [.slice (some ⟨b65, 0, none⟩) x63.length x63.length] (runs_plain rfl) rfl rfl rfl ty101 rfl rfl rfl rfl ?_; clear hE hS a w; intro a w hE hS
            refine WL.nil ?_
            refine ⟨⟨fun _ => ((((hS.tail).tail).tail).tail), fun _ => ((((hS.tail).tail).tail).tail)⟩, ?_⟩
            refine Rg.one (i := 9) true true rfl (by kernel_rfl) (by kernel_rfl) (by kernel_rfl) ?_
            refine WL.storeI hE hS 2 rfl [.slice (some ⟨b71, 0, none⟩) x69.length x69.length] (runs_plain rfl) rfl rfl rfl ty101 rfl rfl rfl rfl ?_; clear hE hS a w; intro a w hE hS
            refine WL.nil ?_
            refine ⟨⟨fun _ => ((((hS.tail).tail).tail).tail), fun _ => ((((hS.tail).tail).tail).tail)⟩, ?_⟩
            refine Rg.done (by kernel_rfl) ?_
            replace hS := hS.front 4 rfl
            replace hS := hS.front 1 rfl
            replace hS := hS.front 2 rfl
            replace hS := hS.front 4 rfl
            replace hS := hS.front 4 rfl
            exact key _ _ _ _ _ _ _ _ h0 h73 h67 h58 (hE.pick _ ⟨rfl, rfl, rfl, rfl, trivial⟩) hS
      · refine Br.mk (i := 7) true true rfl (by kernel_rfl) (by kernel_rfl) ?_
        refine WL.alloc hE hS (runs_plain rfl) zr101 rfl ?_; clear hE hS a w; intro b76 a w hE hS
        refine WL.nil ?_
        refine ⟨⟨fun _ => (hS.tail), fun _ => (hS.tail)⟩, ?_⟩
        refine Rg.many 2 [5, 6] (by kernel_rfl) ⟨?_, ?_, ?_, trivial⟩
        · refine Br.mk (i := 2) true true rfl (by kernel_rfl) (by kernel_rfl) ?_
          refine WL.mkD (Rr := RB) hE hS (runs_plain rfl) rfl rfl ap101 zr4 rfl hx64 rfl ?_; clear hE hS a w; intro b65 cs66 a w h67 hE hS
          refine WL.nil ?_
          refine ⟨⟨fun _ => ((hS.tail).tail), fun _ => ((hS.tail).tail)⟩, ?_⟩
          refine Rg.many 5 [6] (by kernel_rfl) ⟨?_, ?_, trivial⟩
          · refine Br.mk (i := 5) true true rfl (by kernel_rfl) (by kernel_rfl) ?_
            refine WL.mkD (Rr := RB) hE hS (runs_plain rfl) rfl rfl ap101 zr4 rfl hx70 rfl ?_; clear hE hS a w; intro b71 cs72 a w h73 hE hS
            refine WL.nil ?_
            refine ⟨⟨fun _ => (((hS.tail).tail).tail), fun _ => (((hS.tail).tail).tail)⟩, ?_⟩
            refine Rg.one (i := 6) true true rfl (by kernel_rfl) (by kernel_rfl) (by kernel_rfl) ?_
            refine WL.alloc hE hS (runs_plain rfl) zr101 rfl ?_; clear hE hS a w; intro b75 a w hE hS
            refine WL.nil ?_
            refine ⟨⟨fun _ => ((((hS.tail).tail).tail).tail), fun _ => ((((hS.tail).tail).tail).tail)⟩, ?_⟩
            refine Rg.one (i := 8) true true rfl (by kernel_rfl) (by kernel_rfl) (by kernel_rfl) ?_
            refine WL.storeI hE hS 0 rfl [.slice (some ⟨b65, 0, none⟩) x63.length x63.length] (runs_plain rfl) rfl rfl rfl ty101 rfl rfl rfl rfl ?_; clear hE hS a w; intro a w hE hS
            refine WL.nil ?_
            refine ⟨⟨fun _ => ((((hS.tail).tail).tail).tail), fun _ => ((((hS.tail).tail).tail).tail)⟩, ?_⟩
            refine Rg.one (i := 9) true true rfl (by kernel_rfl) (by kernel_rfl) (by kernel_rfl) ?_
            refine WL.storeI hE hS 3 rfl [.slice (some ⟨b71, 0, none⟩) x69.length x69.length] (runs_plain rfl) rfl rfl rfl ty101 rfl rfl rfl rfl ?_; clear hE hS a w; intro a w hE hS
            refine WL.nil ?_
            refine ⟨⟨fun _ => ((((hS.tail).tail).tail).tail), fun _ => ((((hS.tail).tail).tail).tail)⟩, ?_⟩
            refine Rg.done (by kernel_rfl) ?_
            replace hS := hS.front 4 rfl
            replace hS := hS.front 3 rfl
            replace hS := hS.front 3 rfl
            replace hS := hS.front 3 rfl
            replace hS := hS.front 4 rfl
            exact key _ _ _ _ _ _ _ _ h0 h73 h67 h58 (hE.pick _ ⟨rfl, rfl, rfl, rfl, trivial⟩) hS
          · refine Br.mk (i := 6) true true rfl (by kernel_rfl) (by kernel_rfl) ?_
            refine WL.alloc hE hS (runs_plain rfl) zr101 rfl ?_; clear hE hS a w; intro b75 a w hE hS
            refine WL.nil ?_
            refine ⟨⟨fun _ => (((hS.tail).tail).tail), fun _ => (((hS.tail).tail).tail)⟩, ?_⟩
            refine Rg.many 5 [8] (by kernel_rfl) ⟨?_, ?_, trivial⟩
            · refine Br.mk (i := 5) true true rfl (by kernel_rfl) (by kernel_rfl) ?_
              refine WL.mkD (Rr := RB) hE hS (runs_plain rfl) rfl rfl ap101 zr4 rfl hx70 rfl ?_; clear hE hS a w; intro b71 cs72 a w h73 hE hS
              refine WL.nil ?_
              refine ⟨⟨fun _ => ((((hS.tail).tail).tail).tail), fun _ => ((((hS.tail).tail).tail).tail)⟩, ?_⟩
              refine Rg.one (i := 8) true true rfl (by kernel_rfl) (by kernel_rfl) (by kernel_rfl) ?_
              refine WL.storeI hE hS 1 rfl [.slice (some ⟨b65, 0, none⟩) x63.length x63.length] (runs_plain rfl) rfl rfl rfl ty101 rfl rfl rfl rfl ?_; clear hE hS a w; intro a w hE hS
              refine WL.nil ?_
              refine ⟨⟨fun _ => ((((hS.tail).tail).tail).tail), fun _ => ((((hS.tail).tail).tail).tail)⟩, ?_⟩
              refine Rg.one (i := 9) true true rfl (by kernel_rfl) (by kernel_rfl) (by kernel_rfl) ?_
              refine WL.storeI hE hS 3 rfl [.slice (some ⟨b71, 0, none⟩) x69.length x69.length] (runs_plain rfl) rfl rfl rfl ty101 rfl rfl rfl rfl ?_; clear hE hS a w; intro a w hE hS
              refine WL.nil ?_
              refine ⟨⟨fun _ => ((((hS.tail).tail).tail).tail), fun _ => ((((hS.tail).tail).tail).tail)⟩, ?_⟩
              refine Rg.done (by kernel_rfl) ?_
              replace hS := hS.front 4 rfl
              replace hS := hS.front 3 rfl
              replace hS := hS.front 2 rfl
              replace hS := hS.front 3 rfl
              replace hS := hS.front 4 rfl
              exact key _ _ _ _ _ _ _ _ h0 h73 h67 h58 (hE.pick _ ⟨rfl, rfl, rfl, rfl, trivial⟩) hS
            · refine Br.mk (i := 8) true true rfl (by kernel_rfl) (by kernel_rfl) ?_
              refine WL.storeI hE hS 0 rfl [.slice (some ⟨b65, 0, none⟩) x63.length x63.length] (runs_plain rfl) rfl rfl rfl ty101 rfl rfl rfl rfl ?_; clear hE hS a w; intro a w hE hS
              refine WL.nil ?_
              refine ⟨⟨fun _ => (((hS.tail).tail).tail), fun _ => (((hS.tail).tail).tail)⟩, ?_⟩
              refine Rg.one (i := 5) true true rfl (by kernel_rfl) (by kernel_rfl) (by kernel_rfl) ?_
              refine WL.mkD (Rr := RB) hE hS (runs_plain rfl) rfl rfl ap101 zr4 rfl hx70 rfl ?_; clear hE hS a w; intro b71 cs72 a w h73 hE hS
              refine WL.nil ?_
              refine ⟨⟨fun _ => ((((hS.tail).tail).tail).tail), fun _ => ((((hS.tail).tail).tail).tail)⟩, ?_⟩
              refine Rg.one (i := 9) true true rfl (by kernel_rfl) (by kernel_rfl) (by kernel_rfl) ?_
              refine WL.storeI hE hS 3 rfl [.slice (some ⟨b71, 0, none⟩) x69.length x69.length] (runs_plain rfl) rfl rfl rfl ty101 rfl rfl rfl rfl ?_; clear hE hS a w; intro a w hE hS
              refine WL.nil ?_
              refine ⟨⟨fun _ => ((((hS.tail).tail).tail).tail), fun _ => ((((hS.tail).tail).tail).tail)⟩, ?_⟩
              refine Rg.done (by kernel_rfl) ?_
              replace hS := hS.front 4 rfl
              replace hS := hS.front 3 rfl
              replace hS := hS.front 2 rfl
              replace hS := hS.front 3 rfl
              replace hS := hS.front 4 rfl
              exact key _ _ _ _ _ _ _ _ h0 h73 h67 h58 (hE.pick _ ⟨rfl, rfl, rfl, rfl, trivial⟩) hS
        · refine Br.mk (i := 5) true true rfl (by kernel_rfl) (by kernel_rfl) ?_
          refine WL.mkD (Rr := RB) hE hS (runs_plain rfl) rfl rfl ap101 zr4 rfl hx70 rfl ?_; clear hE hS a w; intro b71 cs72 a w h73 hE hS
          refine WL.nil ?_
          refine ⟨⟨fun _ => ((hS.tail).tail), fun _ => ((hS.tail).tail)⟩, ?_⟩
          refine Rg.many 2 [6] (by kernel_rfl) ⟨?_, ?_, trivial⟩
          · refine Br.mk (i := 2) true true rfl (by kernel_rfl) (by kernel_rfl) ?_
            refine WL.mkD (Rr := RB) hE hS (runs_plain rfl) rfl rfl ap101 zr4 rfl hx64 rfl ?_; clear hE hS a w; intro b65 cs66 a w h67 hE hS
            refine WL.nil ?_
            refine ⟨⟨fun _ => (((hS.tail).tail).tail), fun _ => (((hS.tail).tail).tail)⟩, ?_⟩
            refine Rg.one (i := 6) true true rfl (by kernel_rfl) (by kernel_rfl) (by kernel_rfl) ?_
            refine WL.alloc hE hS (runs_plain rfl) zr101 rfl ?_; clear hE hS a w; intro b75 a w hE hS
            refine WL.nil ?_
            refine ⟨⟨fun _ => ((((hS.tail).tail).tail).tail), fun _ => ((((hS.tail).tail).tail).tail)⟩, ?_⟩
            refine Rg.one (i := 8) true true rfl (by kernel_rfl) (by kernel_rfl) (by kernel_rfl) ?_
            refine WL.storeI hE hS 0 rfl [.slice (some ⟨b65, 0, none⟩) x63.length x63.length] (runs_plain rfl) rfl rfl rfl ty101 rfl rfl rfl rfl ?_; clear hE hS a w; intro a w hE hS
            refine WL.nil ?_
            refine ⟨⟨fun _ => ((((hS.tail).tail).tail).tail), fun _ => ((((hS.tail).tail).tail).tail)⟩, ?_⟩
            refine Rg.one (i := 9) true true rfl (by kernel_rfl) (by kernel_rfl) (by kernel_rfl) ?_
            refine WL.storeI hE hS 3 rfl [.slice (some ⟨b71, 0, none⟩) x69.length x69.length] (runs_plain rfl) rfl rfl rfl ty101 rfl rfl rfl rfl ?_; clear hE hS a w; intro a w hE hS
            refine WL.nil ?_
            refine ⟨⟨fun _ => ((((hS.tail).tail).tail).tail), fun _ => ((((hS.tail).tail).tail).tail)⟩, ?_⟩
            refine Rg.done (by kernel_rfl) ?_
            replace hS := hS.front 4 rfl
            replace hS := hS.front 2 rfl
            replace hS := hS.front 3 rfl
            replace hS := hS.front 3 rfl
            replace hS := hS.front 4 rfl
            exact key _ _ _ _ _ _ _ _ h0 h73 h67 h58 (hE.pick _ ⟨rfl, rfl, rfl, rfl, trivial⟩) hS
          · refine Br.mk (i := 6) true true rfl (by kernel_rfl) (by kernel_rfl) ?_
            refine WL.alloc hE hS (runs_plain rfl) zr101 rfl ?_; clear hE hS a w; intro b75 a w hE hS
            refine WL.nil ?_
            refine ⟨⟨fun _ => (((hS.tail).tail).tail), fun _ => (((hS.tail).tail).tail)⟩, ?_⟩
            refine Rg.one (i := 2) true true rfl (by kernel_rfl) (by kernel_rfl) (by kernel_rfl) ?_
            refine WL.mkD (Rr := RB) hE hS (runs_plain rfl) rfl rfl ap101 zr4 rfl hx64 rfl ?_; clear hE hS a w; intro b65 cs66 a w h67 hE hS
            refine WL.nil ?_
            refine ⟨⟨fun _ => ((((hS.tail).tail).tail).tail), fun _ => ((((hS.tail).tail).tail).tail)⟩, ?_⟩
            refine Rg.one (i := 8) true true rfl (by kernel_rfl) (by kernel_rfl) (by kernel_rfl) ?_
            refine WL.storeI hE hS 1 rfl [.slice (some ⟨b65, 0, none⟩) x63.length x63.length] (runs_plain rfl) rfl rfl rfl ty101 rfl rfl rfl rfl ?_; clear hE hS a w; intro a w hE hS
            refine WL.nil ?_
            refine ⟨⟨fun _ => ((((hS.tail).tail).tail).tail), fun _ => ((((hS.tail).tail).tail).tail)⟩, ?_⟩
            refine Rg.one (i := 9) true true rfl (by kernel_rfl) (by kernel_rfl) (by kernel_rfl) ?_
            refine WL.storeI hE hS 3 rfl [.slice (some ⟨b71, 0, none⟩) x69.length x69.length] (runs_plain rfl) rfl rfl rfl ty101 rfl rfl rfl rfl ?_; clear hE hS a w; intro a w hE hS
            refine WL.nil ?_
            refine ⟨⟨fun _ => ((((hS.tail).tail).tail).tail), fun _ => ((((hS.tail).tail).tail).tail)⟩, ?_⟩
            refine Rg.done (by kernel_rfl) ?_
            replace hS := hS.front 4 rfl
            replace hS := hS.front 1 rfl
            replace hS := hS.front 3 rfl
            replace hS := hS.front 3 rfl
            replace hS := hS.front 4 rfl
            exact key _ _ _ _ _ _ _ _ h0 h73 h67 h58 (hE.pick _ ⟨rfl, rfl, rfl, rfl, trivial⟩) hS
        · refine Br.mk (i := 6) true true rfl (by kernel_rfl) (by kernel_rfl) ?_
          refine WL.alloc hE hS (runs_plain rfl) zr101 rfl ?_; clear hE hS a w; intro b75 a w hE hS
          refine WL.nil ?_
          refine ⟨⟨fun _ => ((hS.tail).tail), fun _ => ((hS.tail).tail)⟩, ?_⟩
          refine Rg.many 2 [5] (by kernel_rfl) ⟨?_, ?_, trivial⟩
          · refine Br.mk (i := 2) true true rfl (by kernel_rfl) (by kernel_rfl) ?_
            refine WL.mkD (Rr := RB) hE hS (runs_plain rfl) rfl rfl ap101 zr4 rfl hx64 rfl ?_; clear hE hS a w; intro b65 cs66 a w h67 hE hS
            refine WL.nil ?_
            refine ⟨⟨fun _ => (((hS.tail).tail).tail), fun _ => (((hS.tail).tail).tail)⟩, ?_⟩
            refine Rg.many 5 [8] (by kernel_rfl) ⟨?_, ?_, trivial⟩
            · refine Br.mk (i := 5) true true rfl (by kernel_rfl) (by kernel_rfl) ?_
              refine WL.mkD (Rr := RB) hE hS (runs_plain rfl) rfl rfl ap101 zr4 rfl hx70 rfl ?_; clear hE hS a w; intro b71 cs72 a w h73 hE hS
              refine WL.nil ?_
              refine ⟨⟨fun _ => ((((hS.tail).tail).tail).tail), fun _ => ((((hS.tail).tail).tail).tail)⟩, ?_⟩
              refine Rg.one (i := 8) true true rfl (by kernel_rfl) (by kernel_rfl) (by kernel_rfl) ?_
              refine WL.storeI hE hS 2 rfl [.slice (some ⟨b65, 0, none⟩) x63.length x63.length] (runs_plain rfl) rfl rfl rfl ty101 rfl rfl rfl rfl ?_; clear hE hS a w; intro a w hE hS
              refine WL.nil ?_
              refine ⟨⟨fun _ => ((((hS.tail).tail).tail).tail), fun _ => ((((hS.tail).tail).tail).tail)⟩, ?_⟩
              refine Rg.one (i := 9) true true rfl (by kernel_rfl) (by kernel_rfl) (by kernel_rfl) ?_
              refine WL.storeI hE hS 3 rfl [.slice (some ⟨b71, 0, none⟩) x69.length x69.length] (runs_plain rfl) rfl rfl rfl ty101 rfl rfl rfl rfl ?_; clear hE hS a w; intro a w hE hS
              refine WL.nil ?_
              refine ⟨⟨fun _ => ((((hS.tail).tail).tail).tail), fun _ => ((((hS.tail).tail).tail).tail)⟩, ?_⟩
              refine Rg.done (by kernel_rfl) ?_
              replace hS := hS.front 4 rfl
              replace hS := hS.front 2 rfl
              replace hS := hS.front 2 rfl
              replace hS := hS.front 3 rfl
              replace hS := hS.front 4 rfl
              exact key _ _ _ _ _ _ _ _ h0 h73 h67 h58 (hE.pick _ ⟨rfl, rfl, rfl, rfl, trivial⟩) hS
            · refine Br.mk (i := 8) true true rfl (by kernel_rfl) (by kernel_rfl) ?_
              refine WL.storeI hE hS 1 rfl [.slice (some ⟨b65, 0, none⟩) x63.length x63.length] (runs_plain rfl) rfl rfl rfl ty101 rfl rfl rfl rfl ?_; clear hE hS a w; intro a w hE hS
              refine WL.nil ?_
              refine ⟨⟨fun _ => (((hS.tail).tail).tail), fun _ => (((hS.tail).tail).tail)⟩, ?_⟩
              refine Rg.one (i := 5) true true rfl (by kernel_rfl) (by kernel_rfl) (by kernel_rfl) ?_
              refine WL.mkD (Rr := RB) hE hS (runs_plain rfl) rfl rfl ap101 zr4 rfl hx70 rfl ?_; clear hE hS a w; intro b71 cs72 a w h73 hE hS
              refine WL.nil ?_
              refine ⟨⟨fun _ => ((((hS.tail).tail).tail).tail), fun _ => ((((hS.tail).tail).tail).tail)⟩, ?_⟩
              refine Rg.one (i := 9) true true rfl (by kernel_rfl) (by kernel_rfl) (by kernel_rfl) ?_
              refine WL.storeI hE hS 3 rfl [.slice (some ⟨b71, 0, none⟩) x69.length x69.length] (runs_plain rfl) rfl rfl rfl ty101 rfl rfl rfl rfl ?_; clear hE hS a w; intro a w hE hS
              refine WL.nil ?_
              refine ⟨⟨fun _ => ((((hS.tail).tail).tail).tail), fun _ => ((((hS.tail).tail).tail).tail)⟩, ?_⟩
              refine Rg.done (by kernel_rfl) ?_
              replace hS := hS.front 4 rfl
              replace hS := hS.front 2 rfl
              replace hS := hS.front 2 rfl
              replace hS := hS.front 3 rfl
              replace hS := hS.front 4 rfl
              exact key _ _ _ _ _ _ _ _ h0 h73 h67 h58 (hE.pick _ ⟨rfl, rfl, rfl, rfl, trivial⟩) hS
          · refine Br.mk (i := 5) true true rfl (by kernel_rfl) (by kernel_rfl) ?_
            refine WL.mkD (Rr := RB) hE hS (runs_plain rfl) rfl rfl ap101 zr4 rfl hx70 rfl ?_; clear hE hS a w; intro b71 cs72 a w h73 hE hS
            refine WL.nil ?_
            refine ⟨⟨fun _ => (((hS.tail).tail).tail), fun _ => (((hS.tail).tail).tail)⟩, ?_⟩
            refine Rg.one (i := 2) true true rfl (by kernel_rfl) (by kernel_rfl) (by kernel_rfl) ?_
            refine WL.mkD (Rr := RB) hE hS (runs_plain rfl) rfl rfl ap101 zr4 rfl hx64 rfl ?_; clear hE hS a w; intro b65 cs66 a w h67 hE hS
            refine WL.nil ?_
            refine ⟨⟨fun _ => ((((hS.tail).tail).tail).tail), fun _ => ((((hS.tail).tail).tail).tail)⟩, ?_⟩
            refine Rg.one (i := 8) true true rfl (by kernel_rfl) (by kernel_rfl) (by kernel_rfl) ?_
            refine WL.storeI hE hS 2 rfl [.slice (some ⟨b65, 0, none⟩) x63.length x63.length] (runs_plain rfl) rfl rfl rfl ty101 rfl rfl rfl rfl ?_; clear hE hS a w; intro a w hE hS
            refine WL.nil ?_
            refine ⟨⟨fun _ => ((((hS.tail).tail).tail).tail), fun _ => ((((hS.tail).tail).tail).tail)⟩, ?_⟩
            refine Rg.one (i := 9) true true rfl (by kernel_rfl) (by kernel_rfl) (by kernel_rfl) ?_
            refine WL.storeI hE hS 3 rfl [.slice (some ⟨b71, 0, none⟩) x69.length x69.length] (runs_plain rfl) rfl rfl rfl ty101 rfl rfl rfl rfl ?_; clear hE hS a w; intro a w hE hS
            refine WL.nil ?_
            refine ⟨⟨fun _ => ((((hS.tail).tail).tail).tail), fun _ => ((((hS.tail).tail).tail).tail)⟩, ?_⟩
            refine Rg.done (by kernel_rfl) ?_
            replace hS := hS.front 4 rfl
            replace hS := hS.front 1 rfl
            replace hS := hS.front 2 rfl
            replace hS := hS.front 3 rfl
            replace hS := hS.front 4 rfl
            exact key _ _ _ _ _ _ _ _ h0 h73 h67 h58 (hE.pick _ ⟨rfl, rfl, rfl, rfl, trivial⟩) hS
    clear hE hS a w; intro cs72 cs66 b75 b76 b71 b65 a w h0 h73 h67 h58 hE hS
    subst hK62
    refine W.seq ?_
    refine W.region ?_
    refine WL.alloc hE hS (runs_plain rfl) zr66 rfl ?_; clear hE hS a w; intro b78 a w hE hS
    refine WL.nil ?_
    refine W.seq ?_
    refine W.region ?_
    refine WL.vS hS hE (runs_plain rfl) (Gives.mkfn hE (vs := [.pointer (some ⟨b75, 0, none⟩), .pointer (some ⟨b61, 0, none⟩), .pointer (some ⟨b76, 0, none⟩), .pointer (some ⟨b78, 0, none⟩)]) rfl) rfl ?_; clear hE a; intro a hE
    refine WL.storeI hE hS 0 rfl [.func (.func 70) #[] #[.pointer (some ⟨b75, 0, none⟩), .pointer (some ⟨b61, 0, none⟩), .pointer (some ⟨b76, 0, none⟩), .pointer (some ⟨b78, 0, none⟩)]] (runs_plain rfl) rfl rfl rfl ty66 rfl rfl rfl rfl ?_; clear hE hS a w; intro a w hE hS
    refine WL.nil ?_
    refine W.seq ?_
    refine W.seq ?_
    refine W.region ?_
    refine WL.vS hS hE (runs_plain rfl) (Gives.p hE rfl) rfl ?_; clear hE a; intro a hE
    refine WL.vS hS hE (runs_plain rfl) (Gives.len hE rfl sl32) rfl ?_; clear hE a; intro a hE
    refine WL.vS hS hE (runs_plain rfl) (Gives.p hE rfl) rfl ?_; clear hE a; intro a hE
    refine WL.nil ?_
    obtain ⟨q80, hq79, hr⟩ := bindS hr
    refine W.cut (fun a w => ∃ (q90 : List Bool), ∃ (q96 : List Bool), ∃ (cs94 : List Value), ∃ (cs100 : List Value), (q90, q96) = q80 ∧ Ev 1 RB s59 cs94 q90 ∧ q90.length = x63.length ∧ Ev 1 RB s59 cs100 q96 ∧ q96.length = x69.length ∧ Rep a 80 [(0, .slice a0 x0.length c0), (10, .pointer (some ⟨b75, 0, none⟩)), (11, .pointer (some ⟨b76, 0, none⟩))] ∧ St w s59 (pt b78 (.cells #[.func (.func 70) #[] #[.pointer (some ⟨b75, 0, none⟩), .pointer (some ⟨b61, 0, none⟩), .pointer (some ⟨b76, 0, none⟩), .pointer (some ⟨b78, 0, none⟩)]] 66 (0, 0)) :: pt b76 (.cells #[.slice (some ⟨b71, 0, none⟩) x69.length x69.length] 101 (0, 0)) :: pt b75 (.cells #[.slice (some ⟨b65, 0, none⟩) x63.length x63.length] 101 (0, 0)) :: vecC 4 1 (some ⟨b71, 0, none⟩) x69.length x69.length cs100 :: vecC 4 1 (some ⟨b65, 0, none⟩) x63.length x63.length cs94 :: pt b61 (.cells #[.pointer a57] 96 (0, 0)) :: R)) ?_ ?_
    · refine W.block ?_
      refine W.loop (fun m a w => ∃ (rest83 : List FleetTask) (k81 : Nat), ∃ (q90 : List Bool), ∃ (q96 : List Bool), ∃ (cs94 : List Value), ∃ (cs100 : List Value), rest83.length = m ∧ x0.drop k81 = rest83 ∧ FleetApart.loop1 fu q55 rest83 k81 q90 q96 = some q80 ∧ Ev 1 RB s59 cs94 q90 ∧ q90.length = x63.length ∧ Ev 1 RB s59 cs100 q96 ∧ q96.length = x69.length ∧ Rep a 80 [(0, .slice a0 x0.length c0), (9, .pointer (some ⟨b61, 0, none⟩)), (10, .pointer (some ⟨b75, 0, none⟩)), (11, .pointer (some ⟨b76, 0, none⟩)), (12, .pointer (some ⟨b78, 0, none⟩)), (35, .int .i64 ((x0).length : Int)), (36, .int .i64 ((k81 : Nat) : Int))] ∧ St w s59 (pt b78 (.cells #[.func (.func 70) #[] #[.pointer (some ⟨b75, 0, none⟩), .pointer (some ⟨b61, 0, none⟩), .pointer (some ⟨b76, 0, none⟩), .pointer (some ⟨b78, 0, none⟩)]] 66 (0, 0)) :: pt b76 (.cells #[.slice (some ⟨b71, 0, none⟩) x69.length x69.length] 101 (0, 0)) :: pt b75 (.cells #[.slice (some ⟨b65, 0, none⟩) x63.length x63.length] 101 (0, 0)) :: vecC 4 1 (some ⟨b71, 0, none⟩) x69.length x69.length cs100 :: vecC 4 1 (some ⟨b65, 0, none⟩) x63.length x63.length cs94 :: pt b61 (.cells #[.pointer a57] 96 (0, 0)) :: R)) (m := x0.length) ⟨x0, 0, x63, x69, cs66, cs72, rfl, rfl, hq79, h67, (rfl), h73, (rfl), hE.pick _ ⟨rfl, rfl, rfl, rfl, rfl, rfl, rfl, trivial⟩, hS⟩ ?_
      clear hE hS a w hq79; rintro m87 a w ⟨rest83, k81, q90, q96, cs94, cs100, rfl, hd84, hq79, h93, hn95, h99, hn101, hE, hS⟩
      refine W.gen fun K102 hK102 => ?_
      rcases rest83 with _ | ⟨x82, rest83⟩
      · have hlt85 := drop_nil hd84
        refine W.seq ?_
        refine W.region ?_
        refine WL.vS hS hE (runs_plain rfl) (Gives.p hE rfl) rfl ?_; clear hE a; intro a hE
        refine WL.nil ?_
        refine W.seq ?_
        refine W.condF hE rfl (decide_eq_false (by omega)) ?_
        subst hK102
        refine W.exit rfl ?_
        exact ⟨q90, q96, cs94, cs100, Option.some.inj hq79, h93, hn95, h99, hn101, hE.pick _ ⟨rfl, rfl, rfl, trivial⟩, hS⟩
      · obtain ⟨hlt85, hx86, hd84⟩ := drop_cons hd84
        rw [FleetApart.loop1] at hq79
        refine W.seq ?_
        refine W.region ?_
        refine WL.vS hS hE (runs_plain rfl) (Gives.p hE rfl) rfl ?_; clear hE a; intro a hE
        refine WL.nil ?_
        refine W.seq ?_
        refine W.condT hE rfl (decide_eq_true (by omega)) ?_
        refine W.skip ?_
        refine W.seq ?_
        refine W.block ?_
        refine W.seq ?_
        refine W.region ?_
        refine WL.vS hS hE (runs_plain rfl) (Gives.p hE rfl) rfl ?_; clear hE a; intro a hE
        refine WL.vS hS hE (runs_plain rfl) (Gives.p hE rfl) rfl ?_; clear hE a; intro a hE
        refine WL.nil ?_
        refine W.seq ?_
        obtain ⟨q104, hq103, hq79⟩ := bindS hq79
        refine W.cut (fun a w => ∃ (q107 : Bool), q107 = q104 ∧ Rep a 80 [(0, .slice a0 x0.length c0), (9, .pointer (some ⟨b61, 0, none⟩)), (10, .pointer (some ⟨b75, 0, none⟩)), (11, .pointer (some ⟨b76, 0, none⟩)), (12, .pointer (some ⟨b78, 0, none⟩)), (13, .int .i64 ((k81 : Nat) : Int)), (35, .int .i64 ((x0).length : Int)), (36, .int .i64 ((k81 : Nat) : Int)), (53, .bool q107)] ∧ St w s59 (pt b78 (.cells #[.func (.func 70) #[] #[.pointer (some ⟨b75, 0, none⟩), .pointer (some ⟨b61, 0, none⟩), .pointer (some ⟨b76, 0, none⟩), .pointer (some ⟨b78, 0, none⟩)]] 66 (0, 0)) :: pt b76 (.cells #[.slice (some ⟨b71, 0, none⟩) x69.length x69.length] 101 (0, 0)) :: pt b75 (.cells #[.slice (some ⟨b65, 0, none⟩) x63.length x63.length] 101 (0, 0)) :: vecC 4 1 (some ⟨b71, 0, none⟩) x69.length x69.length cs100 :: vecC 4 1 (some ⟨b65, 0, none⟩) x63.length x63.length cs94 :: pt b61 (.cells #[.pointer a57] 96 (0, 0)) :: R)) ?_ ?_
        · refine W.gen fun K108 hK108 => ?_
          refine W.region ?_
          refine WL.vS hS hE (runs_plain rfl) (Gives.loadB hE 5 rfl rfl rfl ty96) rfl ?_; clear hE a; intro a hE
          obtain ⟨x109, hx110, hq103⟩ := bindS hq103
          obtain ⟨b111, o112, cs113, rfl, hl114, hR115, hat116⟩ := h58.at hx110
          obtain ⟨a117, c118, a120, c121, a123, c124, rfl, h119, h122, h125⟩ := hR115
          refine WL.vS hS hE (runs_plain rfl) (Gives.nilOk hE rfl) rfl ?_; clear hE a; intro a hE
          refine WL.vS hS hE (runs_plain rfl) (Gives.fld hE rfl fl100_1) rfl ?_; clear hE a; intro a hE
          refine WL.vS hS hE (runs_plain rfl) (Gives.load1 hE rfl (fun w h => (hat116 w _ h).one rfl) ty44) rfl ?_; clear hE a; intro a hE
          refine WL.vS hS hE (runs_plain rfl) (Gives.p hE rfl) rfl ?_; clear hE a; intro a hE
          obtain ⟨x126, hx127, hq103⟩ := bindS hq103
          obtain ⟨hi128, hlt129, hy130⟩ := gx_some hx127
          obtain ⟨cs131, hl132, hR133, hat134⟩ := h122.at hy130
          subst hR133
          refine WL.vS hS hE (runs_plain rfl) (Gives.idx hE (((k81 : Nat) : Int)).toNat rfl rfl sl44 hi128 hlt129 (h122.aok hlt129)) rfl ?_; clear hE a; intro a hE
          refine WL.vS hS hE (runs_plain rfl) (Gives.load1 hE rfl (fun w h => hat134 w _ h) ty3) rfl ?_; clear hE a; intro a hE
          refine WL.vS hS hE (runs_plain rfl) (Gives.p hE rfl) rfl ?_; clear hE a; intro a hE
          refine WL.vS hS hE (runs_plain rfl) (Gives.p hE rfl) rfl ?_; clear hE a; intro a hE
          rcases Bool.eq_false_or_eq_true (decide (x126 < 0)) with hg135 | hg135
          · replace hq103 := iteT hg135 hq103
            refine WL.vS hS hE (runs_if hE rfl rfl rfl hg135) (Gives.loadB hE 2 rfl rfl rfl ty101) rfl ?_; clear hE a; intro a hE
            refine WL.vS hS hE (runs_if hE rfl rfl rfl hg135) (Gives.p hE rfl) rfl ?_; clear hE a; intro a hE
            obtain ⟨x136, hx137, hq103⟩ := bindS hq103
            obtain ⟨hi138, hlt139, hy140⟩ := gx_some hx137
            obtain ⟨vs141, hl142, hR143, hd144, hget145⟩ := h93.at hy140
            subst hR143
            refine WL.vS hS hE (runs_if hE rfl rfl rfl hg135) (Gives.idx hE ((((k81 : Nat) : Int)).toNat) rfl rfl sl101 hi138 (by have := hn95; omega) (hS.vecAok 4 rfl (by have := hn95; omega : (((k81 : Nat) : Int)).toNat < x63.length))) rfl ?_; clear hE a; intro a hE
            refine WL.vS hS hE (runs_if hE rfl rfl rfl hg135) (Gives.load1 hE rfl (fun w h => St.vecSees h 4 rfl ((((k81 : Nat) : Int)).toNat * 1) _ hget145) ty4) rfl ?_; clear hE a; intro a hE
            refine WL.vS hS hE (runs_if hE rfl rfl rfl hg135) (Gives.p hE rfl) rfl ?_; clear hE a; intro a hE
            refine WL.vS hS hE (runs_plain rfl) (Gives.pickT hE rfl hg135 rfl) rfl ?_; clear hE a; intro a hE
            refine WL.nil ?_
            subst hK108
            exact ⟨!x136, Option.some.inj hq103, hE.pick _ ⟨rfl, rfl, rfl, rfl, rfl, rfl, rfl, rfl, rfl, trivial⟩, hS⟩
          · replace hq103 := iteF hg135 hq103
            refine WL.no hE (runs_not hE rfl rfl rfl (by rw [hg135]; decide)) rfl ?_; clear hE a; intro a hE
            refine WL.no hE (runs_not hE rfl rfl rfl (by rw [hg135]; decide)) rfl ?_; clear hE a; intro a hE
            refine WL.no hE (runs_not hE rfl rfl rfl (by rw [hg135]; decide)) rfl ?_; clear hE a; intro a hE
            refine WL.no hE (runs_not hE rfl rfl rfl (by rw [hg135]; decide)) rfl ?_; clear hE a; intro a hE
            refine WL.no hE (runs_not hE rfl rfl rfl (by rw [hg135]; decide)) rfl ?_; clear hE a; intro a hE
            refine WL.vS hS hE (runs_plain rfl) (Gives.pickF hE rfl hg135 rfl) rfl ?_; clear hE a; intro a hE
            refine WL.nil ?_
            subst hK108
            exact ⟨false, Option.some.inj hq103, hE.pick _ ⟨rfl, rfl, rfl, rfl, rfl, rfl, rfl, rfl, rfl, trivial⟩, hS⟩
        · clear hE hS a w; rintro a w ⟨q107, rfl, hE, hS⟩
          refine W.cond hE rfl (fun hc146 => ?_) (fun hc146 => ?_)
          · replace hq79 := iteT hc146 hq79
            refine W.region ?_
            refine WL.vS hS hE (runs_plain rfl) (Gives.loadB hE 0 rfl rfl rfl ty66) rfl ?_; clear hE a; intro a hE
            refine WL.vS hS hE (runs_plain rfl) (Gives.p hE rfl) rfl ?_; clear hE a; intro a hE
            obtain ⟨q147, hq148, hq79⟩ := bindS hq79
            replace hS := hS.front 3 rfl
            replace hS := hS.front 4 rfl
            replace hS := hS.front 2 rfl
            replace hS := hS.front 3 rfl
            replace hS := hS.front 5 rfl
            replace hS := hS.front 5 rfl
            have hc_ := FleetApart_1_v1_ok hS h93 hn95 h58 h99 hn101 hq148
            refine WL.fnw hE (hc_) rfl (runs_plain rfl) bd70 rfl rfl rfl ?_
            clear hE hS hc_; rintro e w ⟨cs149, cs152, rfl, h150, hn151, h153, hn154, hS⟩; refine ⟨_, rfl, ?_⟩; clear a; intro a hE
            refine WL.nil ?_
            refine W.region ?_
            refine WL.vS hS hE (runs_plain rfl) (Gives.inc hE rfl (by have := h0.small; omega)) rfl ?_; clear hE a; intro a hE
            refine WL.vS hS hE (runs_plain rfl) (Gives.p hE rfl) rfl ?_; clear hE a; intro a hE
            refine WL.nil ?_
            replace hS := hS.front 1 rfl
            replace hS := hS.front 4 rfl
            replace hS := hS.front 5 rfl
            replace hS := hS.front 3 rfl
            replace hS := hS.front 4 rfl
            replace hS := hS.front 5 rfl
            subst hK102
            exact ⟨rest83.length, Nat.lt_succ_self _, rest83, k81 + 1, q147.1, q147.2, cs149, cs152, rfl, hd84, hq79, h150, hn151, h153, hn154, hE.pick _ ⟨rfl, rfl, rfl, rfl, rfl, rfl, rfl, trivial⟩, hS⟩
          · replace hq79 := iteF hc146 hq79
            refine W.skip ?_
            refine W.region ?_
            refine WL.vS hS hE (runs_plain rfl) (Gives.inc hE rfl (by have := h0.small; omega)) rfl ?_; clear hE a; intro a hE
            refine WL.vS hS hE (runs_plain rfl) (Gives.p hE rfl) rfl ?_; clear hE a; intro a hE
            refine WL.nil ?_
            subst hK102
            exact ⟨rest83.length, Nat.lt_succ_self _, rest83, k81 + 1, q90, q96, cs94, cs100, rfl, hd84, hq79, h93, hn95, h99, hn101, hE.pick _ ⟨rfl, rfl, rfl, rfl, rfl, rfl, rfl, trivial⟩, hS⟩
    · clear hE hS a w; rintro a w ⟨q90, q96, cs94, cs100, rfl, h93, hn95, h99, hn101, hE, hS⟩
      dsimp only at hr
      refine W.seq ?_
      refine W.region ?_
      replace hS := hS.vecNil 3 1
      refine WL.vS hS hE (runs_plain rfl) (Gives.p hE rfl) rfl ?_; clear hE a; intro a hE
      refine WL.nil ?_
      refine W.seq ?_
      refine W.seq ?_
      refine W.region ?_
      refine WL.vS hS hE (runs_plain rfl) (Gives.p hE rfl) rfl ?_; clear hE a; intro a hE
      refine WL.vS hS hE (runs_plain rfl) (Gives.len hE rfl sl32) rfl ?_; clear hE a; intro a hE
      refine WL.vS hS hE (runs_plain rfl) (Gives.p hE rfl) rfl ?_; clear hE a; intro a hE
      refine WL.nil ?_
      obtain ⟨q157, hq156, hr⟩ := bindS hr
      refine W.cut (fun a w => ∃ (q167 : List Int), ∃ (a168 : Option Addr), ∃ (c169 : Nat), ∃ (n171 : Nat), ∃ (cs172 : List Value), q167 = q157 ∧ Ev 1 (RI .i64) s59 cs172 q167 ∧ q167.length = n171 ∧ Rep a 80 [(14, .slice a168 n171 c169)] ∧ St w s59 (vecC 3 1 a168 c169 n171 cs172 :: pt b78 (.cells #[.func (.func 70) #[] #[.pointer (some ⟨b75, 0, none⟩), .pointer (some ⟨b61, 0, none⟩), .pointer (some ⟨b76, 0, none⟩), .pointer (some ⟨b78, 0, none⟩)]] 66 (0, 0)) :: pt b76 (.cells #[.slice (some ⟨b71, 0, none⟩) x69.length x69.length] 101 (0, 0)) :: pt b75 (.cells #[.slice (some ⟨b65, 0, none⟩) x63.length x63.length] 101 (0, 0)) :: vecC 4 1 (some ⟨b71, 0, none⟩) x69.length x69.length cs100 :: vecC 4 1 (some ⟨b65, 0, none⟩) x63.length x63.length cs94 :: pt b61 (.cells #[.pointer a57] 96 (0, 0)) :: R)) ?_ ?_
      · refine W.block ?_
        refine W.loop (fun m a w => ∃ (rest160 : List FleetTask) (k158 : Nat), ∃ (q167 : List Int), ∃ (a168 : Option Addr), ∃ (c169 : Nat), ∃ (n171 : Nat), ∃ (cs172 : List Value), rest160.length = m ∧ x0.drop k158 = rest160 ∧ FleetApart.loop2 q90 q96 rest160 k158 q167 = some q157 ∧ Ev 1 (RI .i64) s59 cs172 q167 ∧ q167.length = n171 ∧ Rep a 80 [(10, .pointer (some ⟨b75, 0, none⟩)), (11, .pointer (some ⟨b76, 0, none⟩)), (14, .slice a168 n171 c169), (59, .int .i64 ((x0).length : Int)), (60, .int .i64 ((k158 : Nat) : Int))] ∧ St w s59 (vecC 3 1 a168 c169 n171 cs172 :: pt b78 (.cells #[.func (.func 70) #[] #[.pointer (some ⟨b75, 0, none⟩), .pointer (some ⟨b61, 0, none⟩), .pointer (some ⟨b76, 0, none⟩), .pointer (some ⟨b78, 0, none⟩)]] 66 (0, 0)) :: pt b76 (.cells #[.slice (some ⟨b71, 0, none⟩) x69.length x69.length] 101 (0, 0)) :: pt b75 (.cells #[.slice (some ⟨b65, 0, none⟩) x63.length x63.length] 101 (0, 0)) :: vecC 4 1 (some ⟨b71, 0, none⟩) x69.length x69.length cs100 :: vecC 4 1 (some ⟨b65, 0, none⟩) x63.length x63.length cs94 :: pt b61 (.cells #[.pointer a57] 96 (0, 0)) :: R)) (m := x0.length) ⟨x0, 0, [], none, 0, 0, [], rfl, rfl, hq156, (Ev.nil), (rfl), hE.pick _ ⟨rfl, rfl, rfl, rfl, rfl, trivial⟩, hS⟩ ?_
        clear hE hS a w hq156; rintro m164 a w ⟨rest160, k158, q167, a168, c169, n171, cs172, rfl, hd161, hq156, h170, rfl, hE, hS⟩
        refine W.gen fun K174 hK174 => ?_
        rcases rest160 with _ | ⟨x159, rest160⟩
        · have hlt162 := drop_nil hd161
          refine W.seq ?_
          refine W.region ?_
          refine WL.vS hS hE (runs_plain rfl) (Gives.p hE rfl) rfl ?_; clear hE a; intro a hE
          refine WL.nil ?_
          refine W.seq ?_
          refine W.condF hE rfl (decide_eq_false (by omega)) ?_
          subst hK174
          refine W.exit rfl ?_
          exact ⟨q167, a168, c169, q167.length, cs172, Option.some.inj hq156, h170, rfl, hE.pick _ ⟨rfl, trivial⟩, hS⟩
        · obtain ⟨hlt162, hx163, hd161⟩ := drop_cons hd161
          rw [FleetApart.loop2] at hq156
          refine W.seq ?_
          refine W.region ?_
          refine WL.vS hS hE (runs_plain rfl) (Gives.p hE rfl) rfl ?_; clear hE a; intro a hE
          refine WL.nil ?_
          refine W.seq ?_
          refine W.condT hE rfl (decide_eq_true (by omega)) ?_
          refine W.skip ?_
          refine W.seq ?_
          refine W.block ?_
          refine W.seq ?_
          refine W.region ?_
          refine WL.vS hS hE (runs_plain rfl) (Gives.p hE rfl) rfl ?_; clear hE a; intro a hE
          refine WL.vS hS hE (runs_plain rfl) (Gives.p hE rfl) rfl ?_; clear hE a; intro a hE
          refine WL.nil ?_
          refine W.seq ?_
          obtain ⟨q176, hq175, hq156⟩ := bindS hq156
          refine W.cut (fun a w => ∃ (q179 : Bool), q179 = q176 ∧ Rep a 80 [(10, .pointer (some ⟨b75, 0, none⟩)), (11, .pointer (some ⟨b76, 0, none⟩)), (14, .slice a168 q167.length c169), (15, .int .i64 ((k158 : Nat) : Int)), (59, .int .i64 ((x0).length : Int)), (60, .int .i64 ((k158 : Nat) : Int)), (73, .bool q179)] ∧ St w s59 (vecC 3 1 a168 c169 q167.length cs172 :: pt b78 (.cells #[.func (.func 70) #[] #[.pointer (some ⟨b75, 0, none⟩), .pointer (some ⟨b61, 0, none⟩), .pointer (some ⟨b76, 0, none⟩), .pointer (some ⟨b78, 0, none⟩)]] 66 (0, 0)) :: pt b76 (.cells #[.slice (some ⟨b71, 0, none⟩) x69.length x69.length] 101 (0, 0)) :: pt b75 (.cells #[.slice (some ⟨b65, 0, none⟩) x63.length x63.length] 101 (0, 0)) :: vecC 4 1 (some ⟨b71, 0, none⟩) x69.length x69.length cs100 :: vecC 4 1 (some ⟨b65, 0, none⟩) x63.length x63.length cs94 :: pt b61 (.cells #[.pointer a57] 96 (0, 0)) :: R)) ?_ ?_
          · refine W.gen fun K180 hK180 => ?_
            refine W.region ?_
            refine WL.vS hS hE (runs_plain rfl) (Gives.loadB hE 3 rfl rfl rfl ty101) rfl ?_; clear hE a; intro a hE
            refine WL.vS hS hE (runs_plain rfl) (Gives.p hE rfl) rfl ?_; clear hE a; intro a hE
            obtain ⟨x181, hx182, hq175⟩ := bindS hq175
            obtain ⟨hi183, hlt184, hy185⟩ := gx_some hx182
            obtain ⟨vs186, hl187, hR188, hd189, hget190⟩ := h93.at hy185
            subst hR188
            refine WL.vS hS hE (runs_plain rfl) (Gives.idx hE ((((k158 : Nat) : Int)).toNat) rfl rfl sl101 hi183 (by have := hn95; omega) (hS.vecAok 5 rfl (by have := hn95; omega : (((k158 : Nat) : Int)).toNat < x63.length))) rfl ?_; clear hE a; intro a hE
            refine WL.vS hS hE (runs_plain rfl) (Gives.load1 hE rfl (fun w h => St.vecSees h 5 rfl ((((k158 : Nat) : Int)).toNat * 1) _ hget190) ty4) rfl ?_; clear hE a; intro a hE
            refine WL.vS hS hE (runs_plain rfl) (Gives.p hE rfl) rfl ?_; clear hE a; intro a hE
            rcases Bool.eq_false_or_eq_true x181 with hg191 | hg191
            · replace hq175 := iteT hg191 hq175
              refine WL.vS hS hE (runs_if hE rfl rfl rfl hg191) (Gives.loadB hE 2 rfl rfl rfl ty101) rfl ?_; clear hE a; intro a hE
              refine WL.vS hS hE (runs_if hE rfl rfl rfl hg191) (Gives.p hE rfl) rfl ?_; clear hE a; intro a hE
              obtain ⟨x192, hx193, hq175⟩ := bindS hq175
              obtain ⟨hi194, hlt195, hy196⟩ := gx_some hx193
              obtain ⟨vs197, hl198, hR199, hd200, hget201⟩ := h99.at hy196
              subst hR199
              refine WL.vS hS hE (runs_if hE rfl rfl rfl hg191) (Gives.idx hE ((((k158 : Nat) : Int)).toNat) rfl rfl sl101 hi194 (by have := hn101; omega) (hS.vecAok 4 rfl (by have := hn101; omega : (((k158 : Nat) : Int)).toNat < x69.length))) rfl ?_; clear hE a; intro a hE
              refine WL.vS hS hE (runs_if hE rfl rfl rfl hg191) (Gives.load1 hE rfl (fun w h => St.vecSees h 4 rfl ((((k158 : Nat) : Int)).toNat * 1) _ hget201) ty4) rfl ?_; clear hE a; intro a hE
              refine WL.vS hS hE (runs_if hE rfl rfl rfl hg191) (Gives.p hE rfl) rfl ?_; clear hE a; intro a hE
              refine WL.vS hS hE (runs_plain rfl) (Gives.pickT hE rfl hg191 rfl) rfl ?_; clear hE a; intro a hE
              refine WL.nil ?_
              subst hK180
              exact ⟨!x192, Option.some.inj hq175, hE.pick _ ⟨rfl, rfl, rfl, rfl, rfl, rfl, rfl, trivial⟩, hS⟩
            · replace hq175 := iteF hg191 hq175
              refine WL.no hE (runs_not hE rfl rfl rfl (by rw [hg191]; decide)) rfl ?_; clear hE a; intro a hE
              refine WL.no hE (runs_not hE rfl rfl rfl (by rw [hg191]; decide)) rfl ?_; clear hE a; intro a hE
              refine WL.no hE (runs_not hE rfl rfl rfl (by rw [hg191]; decide)) rfl ?_; clear hE a; intro a hE
              refine WL.no hE (runs_not hE rfl rfl rfl (by rw [hg191]; decide)) rfl ?_; clear hE a; intro a hE
              refine WL.no hE (runs_not hE rfl rfl rfl (by rw [hg191]; decide)) rfl ?_; clear hE a; intro a hE
              refine WL.vS hS hE (runs_plain rfl) (Gives.pickF hE rfl hg191 rfl) rfl ?_; clear hE a; intro a hE
              refine WL.nil ?_
              subst hK180
              exact ⟨false, Option.some.inj hq175, hE.pick _ ⟨rfl, rfl, rfl, rfl, rfl, rfl, rfl, trivial⟩, hS⟩
          · clear hE hS a w; rintro a w ⟨q179, rfl, hE, hS⟩
            obtain ⟨q203, hq202, hq156⟩ := bindS hq156
            refine W.cut (fun a w => ∃ (q206 : List Int), ∃ (a207 : Option Addr), ∃ (c208 : Nat), ∃ (n210 : Nat), ∃ (cs211 : List Value), q206 = q203 ∧ Ev 1 (RI .i64) s59 cs211 q206 ∧ q206.length = n210 ∧ Rep a 80 [(10, .pointer (some ⟨b75, 0, none⟩)), (11, .pointer (some ⟨b76, 0, none⟩)), (14, .slice a207 n210 c208), (59, .int .i64 ((x0).length : Int)), (60, .int .i64 ((k158 : Nat) : Int))] ∧ St w s59 (vecC 3 1 a207 c208 n210 cs211 :: pt b78 (.cells #[.func (.func 70) #[] #[.pointer (some ⟨b75, 0, none⟩), .pointer (some ⟨b61, 0, none⟩), .pointer (some ⟨b76, 0, none⟩), .pointer (some ⟨b78, 0, none⟩)]] 66 (0, 0)) :: pt b76 (.cells #[.slice (some ⟨b71, 0, none⟩) x69.length x69.length] 101 (0, 0)) :: pt b75 (.cells #[.slice (some ⟨b65, 0, none⟩) x63.length x63.length] 101 (0, 0)) :: vecC 4 1 (some ⟨b71, 0, none⟩) x69.length x69.length cs100 :: vecC 4 1 (some ⟨b65, 0, none⟩) x63.length x63.length cs94 :: pt b61 (.cells #[.pointer a57] 96 (0, 0)) :: R)) ?_ ?_
            · refine W.gen fun K213 hK213 => ?_
              refine W.cond hE rfl (fun hc214 => ?_) (fun hc214 => ?_)
              · replace hq202 := iteT hc214 hq202
                refine W.region ?_
                refine WL.vS hS hE (runs_plain rfl) (Gives.p hE rfl) rfl ?_; clear hE a; intro a hE
                refine WL.vS hS hE (runs_plain rfl) (Gives.p hE rfl) rfl ?_; clear hE a; intro a hE
                refine WL.lit hE hS (e := 3) (es := 1) (vs := [(0, .int .i64 ((k158 : Nat) : Int))]) (cs := [.int .i64 ((k158 : Nat) : Int)]) (runs_plain rfl) rfl (by kernel_rfl) rfl ?_; clear hE hS a w; intro b215 a w hE hS
                obtain ⟨x216, hx217, hq202⟩ := bindS hq202
                refine WL.appD hE hS 0 (m := 1) (runs_plain rfl) rfl rfl rfl ap44 rfl h170 rfl (xs := [((k158 : Nat) : Int)]) (Ev.cons (c1 := [.int .i64 ((k158 : Nat) : Int)]) rfl rfl (Ev.nil)) rfl rfl hx217 rfl ?_; clear hE hS a w; intro a218 c219 cs220 a w h221 hE hS
                refine WL.vS hS hE (runs_plain rfl) (Gives.p hE rfl) rfl ?_; clear hE a; intro a hE
                refine WL.nil ?_
                subst hK213
                exact ⟨x216, a218, c219, x216.length, cs220, Option.some.inj hq202, h221, (rfl), hE.pick _ ⟨rfl, rfl, rfl, rfl, rfl, trivial⟩, hS⟩
              · replace hq202 := iteF hc214 hq202
                refine W.skip ?_
                subst hK213
                exact ⟨q167, a168, c169, q167.length, cs172, Option.some.inj hq202, h170, rfl, hE.pick _ ⟨rfl, rfl, rfl, rfl, rfl, trivial⟩, hS⟩
            · clear hE hS a w; rintro a w ⟨q206, a207, c208, n210, cs211, rfl, h209, rfl, hE, hS⟩
              refine W.region ?_
              refine WL.vS hS hE (runs_plain rfl) (Gives.inc hE rfl (by have := h0.small; omega)) rfl ?_; clear hE a; intro a hE
              refine WL.vS hS hE (runs_plain rfl) (Gives.p hE rfl) rfl ?_; clear hE a; intro a hE
              refine WL.nil ?_
              subst hK174
              exact ⟨rest160.length, Nat.lt_succ_self _, rest160, k158 + 1, q206, a207, c208, q206.length, cs211, rfl, hd161, hq156, h209, rfl, hE.pick _ ⟨rfl, rfl, rfl, rfl, rfl, trivial⟩, hS⟩
      · clear hE hS a w; rintro a w ⟨q167, a168, c169, n171, cs172, rfl, h170, rfl, hE, hS⟩
        refine W.seq ?_
        refine W.region ?_
        refine WL.vS hS hE (runs_plain rfl) (Gives.p hE rfl) rfl ?_; clear hE a; intro a hE
        refine WL.vS hS hE (runs_plain rfl) (Gives.p hE rfl) rfl ?_; clear hE a; intro a hE
        refine WL.vS hS hE (runs_plain rfl) (Gives.p hE rfl) rfl ?_; clear hE a; intro a hE
        refine WL.nil ?_
        refine W.ret ?_
        refine finG (fn := Try.f21) (rs := [.tmp 6, .tmp 7]) (vs := [_, _]) hE rfl ⟨rfl, rfl, trivial⟩ ?_
        obtain rfl := Option.some.inj hr
        replace hS := hS.dropAt 1
        replace hS := hS.dropAt 1
        replace hS := hS.dropAt 1
        replace hS := hS.dropAt 1
        replace hS := hS.dropAt 1
        replace hS := hS.dropAt 1
        exact ⟨a168, c169, q167.length, cs172, s59, rfl, hle60, h170, rfl, hS⟩
set_option maxHeartbeats 8000000 in
theorem Fishref2within_ok  {w : World} {s : Sg} {R : List HP} {x0 : Int} {x1 : Int} {x2 : Int} (hS : St w s (R))  {r : Bool} (hr : Fishref2within x0 x1 x2 = r) :
    Calls Try.prog 45 [.int .i64 x0, .int .i64 x1, .int .i64 x2].toArray w (fun e w => e = .returned (.bool r) ∧ St w s (R)) := by
  refine enter Try.func45 rfl rfl rfl fun a hE => ?_
  rw [Fishref2within] at hr
  refine W.seq ?_
  refine W.region ?_
  refine WL.vS hS hE (runs_plain rfl) (Gives.p hE rfl) rfl ?_; clear hE a; intro a hE
  refine WL.nil ?_
  refine W.seq ?_
  obtain ⟨q52, hq51, hr⟩ := bndS hr
  refine W.cut (fun a w => ∃ (q55 : Bool), q55 = q52 ∧ Rep a 15 [(6, .bool q55)] ∧ St w s (R)) ?_ ?_
  · refine W.gen fun K56 hK56 => ?_
    refine W.region ?_
    refine WL.vS hS hE (runs_plain rfl) (Gives.p hE rfl) rfl ?_; clear hE a; intro a hE
    refine WL.vS hS hE (runs_plain rfl) (Gives.p hE rfl) rfl ?_; clear hE a; intro a hE
    refine WL.vS hS hE (runs_plain rfl) (Gives.p hE rfl) rfl ?_; clear hE a; intro a hE
    refine WL.vS hS hE (runs_plain rfl) (Gives.p hE rfl) rfl ?_; clear hE a; intro a hE
    rcases Bool.eq_false_or_eq_true (decide (x0 ≥ x1)) with hg57 | hg57
    · replace hq51 := iteT hg57 hq51
      refine WL.vS hS hE (runs_if hE rfl rfl rfl hg57) (Gives.p hE rfl) rfl ?_; clear hE a; intro a hE
      refine WL.vS hS hE (runs_if hE rfl rfl rfl hg57) (Gives.p hE rfl) rfl ?_; clear hE a; intro a hE
      refine WL.vS hS hE (runs_if hE rfl rfl rfl hg57) (Gives.p hE rfl) rfl ?_; clear hE a; intro a hE
      refine WL.vS hS hE (runs_plain rfl) (Gives.pickT hE rfl hg57 rfl) rfl ?_; clear hE a; intro a hE
      refine WL.vS hS hE (runs_plain rfl) (Gives.p hE rfl) rfl ?_; clear hE a; intro a hE
      refine WL.nil ?_
      subst hK56
      exact ⟨decide (x0 ≤ x2), hq51, hE.pick _ ⟨rfl, trivial⟩, hS⟩
    · replace hq51 := iteF hg57 hq51
      refine WL.no hE (runs_not hE rfl rfl rfl (by rw [hg57]; decide)) rfl ?_; clear hE a; intro a hE
      refine WL.no hE (runs_not hE rfl rfl rfl (by rw [hg57]; decide)) rfl ?_; clear hE a; intro a hE
      refine WL.no hE (runs_not hE rfl rfl rfl (by rw [hg57]; decide)) rfl ?_; clear hE a; intro a hE
      refine WL.vS hS hE (runs_plain rfl) (Gives.pickF hE rfl hg57 rfl) rfl ?_; clear hE a; intro a hE
      refine WL.vS hS hE (runs_plain rfl) (Gives.p hE rfl) rfl ?_; clear hE a; intro a hE
      refine WL.nil ?_
      subst hK56
      exact ⟨false, hq51, hE.pick _ ⟨rfl, trivial⟩, hS⟩
  · clear hE hS a w; rintro a w ⟨q55, rfl, hE, hS⟩
    refine W.ret ?_
    refine finG (fn := Try.f45) (rs := [.tmp 6]) (vs := [_]) hE rfl ⟨rfl, trivial⟩ ?_
    subst hr
    exact ⟨rfl, hS⟩
set_option maxHeartbeats 8000000 in
theorem Fishref2TasksFault_ok  {w : World} {s : Sg} {R : List HP} {x0 : List FleetTask} {a0 : Option Addr} {c0 : Nat} (hS : St w s (R)) (h0 : Sl 6 RFleetTask s a0 c0 x0) {r : Int} (hr : Fishref2TasksFault x0 = r) :
    Calls Try.prog 15 [.slice a0 x0.length c0].toArray w (fun e w => e = .returned (.int .i64 r) ∧ St w s (R)) := by
  refine enter Try.func15 rfl rfl rfl fun a hE => ?_
  rw [Fishref2TasksFault] at hr
  refine W.seq ?_
  refine W.region ?_
  refine WL.vS hS hE (runs_plain rfl) (Gives.p hE rfl) rfl ?_; clear hE a; intro a hE
  refine WL.nil ?_
  refine W.seq ?_
  refine W.seq ?_
  refine W.region ?_
  refine WL.vS hS hE (runs_plain rfl) (Gives.p hE rfl) rfl ?_; clear hE a; intro a hE
  refine WL.vS hS hE (runs_plain rfl) (Gives.len hE rfl sl32) rfl ?_; clear hE a; intro a hE
  refine WL.vS hS hE (runs_plain rfl) (Gives.p hE rfl) rfl ?_; clear hE a; intro a hE
  refine WL.nil ?_
  refine W.cond hE rfl (fun hc51 => ?_) (fun hc51 => ?_)
  · replace hr := iteT hc51 hr
    refine W.seq ?_
    refine W.region ?_
    refine WL.vS hS hE (runs_plain rfl) (Gives.p hE rfl) rfl ?_; clear hE a; intro a hE
    refine WL.nil ?_
    refine W.ret ?_
    refine finG (fn := Try.f15) (rs := [.tmp 2]) (vs := [_]) hE rfl ⟨rfl, trivial⟩ ?_
    subst hr
    exact ⟨rfl, hS⟩
  · replace hr := iteF hc51 hr
    refine W.skip ?_
    refine W.seq ?_
    refine W.seq ?_
    refine W.region ?_
    refine WL.vS hS hE (runs_plain rfl) (Gives.p hE rfl) rfl ?_; clear hE a; intro a hE
    refine WL.vS hS hE (runs_plain rfl) (Gives.len hE rfl sl32) rfl ?_; clear hE a; intro a hE
    refine WL.vS hS hE (runs_plain rfl) (Gives.p hE rfl) rfl ?_; clear hE a; intro a hE
    refine WL.nil ?_
    obtain ⟨q53, hq52, hr⟩ := bndS hr
    refine W.cut (fun a w => (.next ()) = q53 ∧ Rep a 52 [] ∧ St w s (R)) ?_ ?_
    · refine W.block ?_
      refine W.loop (fun m a w => ∃ (rest56 : List FleetTask) (k54 : Nat), rest56.length = m ∧ x0.drop k54 = rest56 ∧ Fishref2TasksFault.loop1 rest56 = q53 ∧ Rep a 52 [(8, .slice a0 x0.length c0), (9, .int .i64 ((x0).length : Int)), (10, .int .i64 ((k54 : Nat) : Int))] ∧ St w s (R)) (m := x0.length) ⟨x0, 0, rfl, rfl, hq52, hE.pick _ ⟨rfl, rfl, rfl, trivial⟩, hS⟩ ?_
      clear hE hS a w hq52; rintro m60 a w ⟨rest56, k54, rfl, hd57, hq52, hE, hS⟩
      refine W.gen fun K63 hK63 => ?_
      rcases rest56 with _ | ⟨x55, rest56⟩
      · have hlt58 := drop_nil hd57
        refine W.seq ?_
        refine W.region ?_
        refine WL.vS hS hE (runs_plain rfl) (Gives.p hE rfl) rfl ?_; clear hE a; intro a hE
        refine WL.nil ?_
        refine W.seq ?_
        refine W.condF hE rfl (decide_eq_false (by omega)) ?_
        subst hK63
        refine W.exit rfl ?_
        exact ⟨hq52, hE.pick _ trivial, hS⟩
      · obtain ⟨hlt58, hx59, hd57⟩ := drop_cons hd57
        rw [Fishref2TasksFault.loop1] at hq52
        refine W.seq ?_
        refine W.region ?_
        refine WL.vS hS hE (runs_plain rfl) (Gives.p hE rfl) rfl ?_; clear hE a; intro a hE
        refine WL.nil ?_
        refine W.seq ?_
        refine W.condT hE rfl (decide_eq_true (by omega)) ?_
        refine W.skip ?_
        refine W.seq ?_
        refine W.block ?_
        refine W.seq ?_
        refine W.region ?_
        obtain ⟨cs64, hl65, hR66, hat67⟩ := h0.at hx59
        subst hR66
        refine WL.vS hS hE (runs_plain rfl) (Gives.idx hE k54 rfl rfl sl32 rfl hlt58 (h0.aok hlt58)) rfl ?_; clear hE a; intro a hE
        refine WL.vS hS hE (runs_plain rfl) (Gives.loadA hE rfl (fun w h => hat67 w _ h) ty78) rfl ?_; clear hE a; intro a hE
        refine WL.alloc hE hS (runs_plain rfl) zr78 rfl ?_; clear hE hS a w; intro b68 a w hE hS
        refine WL.storeI hE hS 0 rfl (FleetTask.cells x55) (runs_plain rfl) rfl rfl rfl ty78 rfl rfl rfl rfl ?_; clear hE hS a w; intro a w hE hS
        refine WL.nil ?_
        refine W.seq ?_
        refine W.seq ?_
        obtain ⟨q70, hq69, hq52⟩ := bndS hq52
        refine W.cut (fun a w => ∃ (q73 : Bool), q73 = q70 ∧ Rep a 52 [(4, .pointer (some ⟨b68, 0, none⟩)), (8, .slice a0 x0.length c0), (9, .int .i64 ((x0).length : Int)), (10, .int .i64 ((k54 : Nat) : Int)), (35, .bool q73)] ∧ St w s (pt b68 (.cells (FleetTask.cells x55).toArray 78 (0, 0)) :: R)) ?_ ?_
        · refine W.gen fun K74 hK74 => ?_
          refine W.region ?_
          refine WL.vS hS hE (runs_plain rfl) (Gives.fld hE rfl fl78_0) rfl ?_; clear hE a; intro a hE
          refine WL.vS hS hE (runs_plain rfl) (Gives.loadB hE 0 rfl rfl rfl ty3) rfl ?_; clear hE a; intro a hE
          refine WL.fnq hE (Fishref2within_ok hS  rfl (r := Fishref2within x55.From 0 11)) (runs_plain rfl) bd45 rfl rfl rfl ?_
          clear hE hS; rintro e w ⟨rfl, hS⟩; refine ⟨_, rfl, ?_⟩; clear a; intro a hE
          refine WL.vS hS hE (runs_plain rfl) (Gives.p hE rfl) rfl ?_; clear hE a; intro a hE
          refine WL.vS hS hE (runs_plain rfl) (Gives.p hE rfl) rfl ?_; clear hE a; intro a hE
          rcases Bool.eq_false_or_eq_true (!(Fishref2within x55.From 0 11)) with hg75 | hg75
          · replace hq69 := iteT hg75 hq69
            refine WL.no hE (runs_not hE rfl rfl rfl (by rw [hg75]; decide)) rfl ?_; clear hE a; intro a hE
            refine WL.no hE (runs_not hE rfl rfl rfl (by rw [hg75]; decide)) rfl ?_; clear hE a; intro a hE
            refine WL.no hE (runs_not hE rfl rfl rfl (by rw [hg75]; decide)) rfl ?_; clear hE a; intro a hE
            refine WL.no hE (runs_not hE rfl rfl rfl (by rw [hg75]; decide)) rfl ?_; clear hE a; intro a hE
            refine WL.vS hS hE (runs_plain rfl) (Gives.pickT hE rfl hg75 rfl) rfl ?_; clear hE a; intro a hE
            refine WL.vS hS hE (runs_plain rfl) (Gives.p hE rfl) rfl ?_; clear hE a; intro a hE
            refine WL.no hE (runs_not hE rfl rfl rfl (by decide)) rfl ?_; clear hE a; intro a hE
            refine WL.no hE (runs_not hE rfl rfl rfl (by decide)) rfl ?_; clear hE a; intro a hE
            refine WL.no hE (runs_not hE rfl rfl rfl (by decide)) rfl ?_; clear hE a; intro a hE
            refine WL.no hE (runs_not hE rfl rfl rfl (by decide)) rfl ?_; clear hE a; intro a hE
            refine WL.vS hS hE (runs_plain rfl) (Gives.pickT hE rfl rfl rfl) rfl ?_; clear hE a; intro a hE
            refine WL.vS hS hE (runs_plain rfl) (Gives.p hE rfl) rfl ?_; clear hE a; intro a hE
            refine WL.no hE (runs_not hE rfl rfl rfl (by decide)) rfl ?_; clear hE a; intro a hE
            refine WL.no hE (runs_not hE rfl rfl rfl (by decide)) rfl ?_; clear hE a; intro a hE
            refine WL.no hE (runs_not hE rfl rfl rfl (by decide)) rfl ?_; clear hE a; intro a hE
            refine WL.no hE (runs_not hE rfl rfl rfl (by decide)) rfl ?_; clear hE a; intro a hE
            refine WL.vS hS hE (runs_plain rfl) (Gives.pickT hE rfl rfl rfl) rfl ?_; clear hE a; intro a hE
            refine WL.nil ?_
            subst hK74
            exact ⟨true, hq69, hE.pick _ ⟨rfl, rfl, rfl, rfl, rfl, trivial⟩, hS⟩
          · replace hq69 := iteF hg75 hq69
            refine WL.vS hS hE (runs_if hE rfl rfl rfl hg75) (Gives.fld hE rfl fl78_1) rfl ?_; clear hE a; intro a hE
            refine WL.vS hS hE (runs_if hE rfl rfl rfl hg75) (Gives.loadB hE 0 rfl rfl rfl ty3) rfl ?_; clear hE a; intro a hE
            refine WL.fnq hE (Fishref2within_ok hS  rfl (r := Fishref2within x55.To 0 11)) (runs_if hE rfl rfl rfl hg75) bd45 rfl rfl rfl ?_
            clear hE hS; rintro e w ⟨rfl, hS⟩; refine ⟨_, rfl, ?_⟩; clear a; intro a hE
            refine WL.vS hS hE (runs_if hE rfl rfl rfl hg75) (Gives.p hE rfl) rfl ?_; clear hE a; intro a hE
            refine WL.vS hS hE (runs_plain rfl) (Gives.pickF hE rfl hg75 rfl) rfl ?_; clear hE a; intro a hE
            refine WL.vS hS hE (runs_plain rfl) (Gives.p hE rfl) rfl ?_; clear hE a; intro a hE
            rcases Bool.eq_false_or_eq_true (!(Fishref2within x55.To 0 11)) with hg76 | hg76
            · replace hq69 := iteT hg76 hq69
              refine WL.no hE (runs_not hE rfl rfl rfl (by rw [hg76]; decide)) rfl ?_; clear hE a; intro a hE
              refine WL.no hE (runs_not hE rfl rfl rfl (by rw [hg76]; decide)) rfl ?_; clear hE a; intro a hE
              refine WL.no hE (runs_not hE rfl rfl rfl (by rw [hg76]; decide)) rfl ?_; clear hE a; intro a hE
              refine WL.no hE (runs_not hE rfl rfl rfl (by rw [hg76]; decide)) rfl ?_; clear hE a; intro a hE
              refine WL.vS hS hE (runs_plain rfl) (Gives.pickT hE rfl hg76 rfl) rfl ?_; clear hE a; intro a hE
              refine WL.vS hS hE (runs_plain rfl) (Gives.p hE rfl) rfl ?_; clear hE a; intro a hE
              refine WL.no hE (runs_not hE rfl rfl rfl (by decide)) rfl ?_; clear hE a; intro a hE
              refine WL.no hE (runs_not hE rfl rfl rfl (by decide)) rfl ?_; clear hE a; intro a hE
              refine WL.no hE (runs_not hE rfl rfl rfl (by decide)) rfl ?_; clear hE a; intro a hE
              refine WL.no hE (runs_not hE rfl rfl rfl (by decide)) rfl ?_; clear hE a; intro a hE
              refine WL.vS hS hE (runs_plain rfl) (Gives.pickT hE rfl rfl rfl) rfl ?_; clear hE a; intro a hE
              refine WL.nil ?_
              subst hK74
              exact ⟨true, hq69, hE.pick _ ⟨rfl, rfl, rfl, rfl, rfl, trivial⟩, hS⟩
            · replace hq69 := iteF hg76 hq69
              refine WL.vS hS hE (runs_if hE rfl rfl rfl hg76) (Gives.fld hE rfl fl78_2) rfl ?_; clear hE a; intro a hE
              refine WL.vS hS hE (runs_if hE rfl rfl rfl hg76) (Gives.loadB hE 0 rfl rfl rfl ty3) rfl ?_; clear hE a; intro a hE
              refine WL.fnq hE (Fishref2within_ok hS  rfl (r := Fishref2within x55.Dep 0 28800)) (runs_if hE rfl rfl rfl hg76) bd45 rfl rfl rfl ?_
              clear hE hS; rintro e w ⟨rfl, hS⟩; refine ⟨_, rfl, ?_⟩; clear a; intro a hE
              refine WL.vS hS hE (runs_if hE rfl rfl rfl hg76) (Gives.p hE rfl) rfl ?_; clear hE a; intro a hE
              refine WL.vS hS hE (runs_plain rfl) (Gives.pickF hE rfl hg76 rfl) rfl ?_; clear hE a; intro a hE
              refine WL.vS hS hE (runs_plain rfl) (Gives.p hE rfl) rfl ?_; clear hE a; intro a hE
              rcases Bool.eq_false_or_eq_true (!(Fishref2within x55.Dep 0 28800)) with hg77 | hg77
              · replace hq69 := iteT hg77 hq69
                refine WL.no hE (runs_not hE rfl rfl rfl (by rw [hg77]; decide)) rfl ?_; clear hE a; intro a hE
                refine WL.no hE (runs_not hE rfl rfl rfl (by rw [hg77]; decide)) rfl ?_; clear hE a; intro a hE
                refine WL.no hE (runs_not hE rfl rfl rfl (by rw [hg77]; decide)) rfl ?_; clear hE a; intro a hE
                refine WL.no hE (runs_not hE rfl rfl rfl (by rw [hg77]; decide)) rfl ?_; clear hE a; intro a hE
                refine WL.vS hS hE (runs_plain rfl) (Gives.pickT hE rfl hg77 rfl) rfl ?_; clear hE a; intro a hE
                refine WL.nil ?_
                subst hK74
                exact ⟨true, hq69, hE.pick _ ⟨rfl, rfl, rfl, rfl, rfl, trivial⟩, hS⟩
              · replace hq69 := iteF hg77 hq69
                refine WL.vS hS hE (runs_if hE rfl rfl rfl hg77) (Gives.fld hE rfl fl78_3) rfl ?_; clear hE a; intro a hE
                refine WL.vS hS hE (runs_if hE rfl rfl rfl hg77) (Gives.loadB hE 0 rfl rfl rfl ty3) rfl ?_; clear hE a; intro a hE
                refine WL.fnq hE (Fishref2within_ok hS  rfl (r := Fishref2within x55.Arr 0 28800)) (runs_if hE rfl rfl rfl hg77) bd45 rfl rfl rfl ?_
                clear hE hS; rintro e w ⟨rfl, hS⟩; refine ⟨_, rfl, ?_⟩; clear a; intro a hE
                refine WL.vS hS hE (runs_if hE rfl rfl rfl hg77) (Gives.p hE rfl) rfl ?_; clear hE a; intro a hE
                refine WL.vS hS hE (runs_plain rfl) (Gives.pickF hE rfl hg77 rfl) rfl ?_; clear hE a; intro a hE
                refine WL.nil ?_
                subst hK74
                exact ⟨!(Fishref2within x55.Arr 0 28800), hq69, hE.pick _ ⟨rfl, rfl, rfl, rfl, rfl, trivial⟩, hS⟩
        · clear hE hS a w; rintro a w ⟨q73, rfl, hE, hS⟩
          refine W.cond hE rfl (fun hc78 => ?_) (fun hc78 => ?_)
          · replace hq52 := iteT hc78 hq52
            refine W.seq ?_
            refine W.region ?_
            refine WL.vS hS hE (runs_plain rfl) (Gives.p hE rfl) rfl ?_; clear hE a; intro a hE
            refine WL.nil ?_
            refine W.ret ?_
            subst hK63
            rw [← hq52] at hr
            dsimp only at hr
            refine finG (fn := Try.f15) (rs := [.tmp 2]) (vs := [_]) hE rfl ⟨rfl, trivial⟩ ?_
            subst hr
            replace hS := hS.tail
            exact ⟨rfl, hS⟩
          · replace hq52 := iteF hc78 hq52
            refine W.skip ?_
            refine W.seq ?_
            refine W.seq ?_
            refine W.region ?_
            refine WL.vS hS hE (runs_plain rfl) (Gives.fld hE rfl fl78_3) rfl ?_; clear hE a; intro a hE
            refine WL.vS hS hE (runs_plain rfl) (Gives.loadB hE 0 rfl rfl rfl ty3) rfl ?_; clear hE a; intro a hE
            refine WL.vS hS hE (runs_plain rfl) (Gives.fld hE rfl fl78_2) rfl ?_; clear hE a; intro a hE
            refine WL.vS hS hE (runs_plain rfl) (Gives.loadB hE 0 rfl rfl rfl ty3) rfl ?_; clear hE a; intro a hE
            refine WL.vS hS hE (runs_plain rfl) (Gives.p hE rfl) rfl ?_; clear hE a; intro a hE
            refine WL.nil ?_
            refine W.cond hE rfl (fun hc79 => ?_) (fun hc79 => ?_)
            · replace hq52 := iteT hc79 hq52
              refine W.seq ?_
              refine W.region ?_
              refine WL.vS hS hE (runs_plain rfl) (Gives.p hE rfl) rfl ?_; clear hE a; intro a hE
              refine WL.nil ?_
              refine W.ret ?_
              subst hK63
              rw [← hq52] at hr
              dsimp only at hr
              refine finG (fn := Try.f15) (rs := [.tmp 2]) (vs := [_]) hE rfl ⟨rfl, trivial⟩ ?_
              subst hr
              replace hS := hS.tail
              exact ⟨rfl, hS⟩
            · replace hq52 := iteF hc79 hq52
              refine W.skip ?_
              refine W.seq ?_
              obtain ⟨q81, hq80, hq52⟩ := bndS hq52
              refine W.cut (fun a w => ∃ (q84 : Bool), q84 = q81 ∧ Rep a 52 [(8, .slice a0 x0.length c0), (9, .int .i64 ((x0).length : Int)), (10, .int .i64 ((k54 : Nat) : Int)), (50, .bool q84)] ∧ St w s (pt b68 (.cells (FleetTask.cells x55).toArray 78 (0, 0)) :: R)) ?_ ?_
              · refine W.gen fun K85 hK85 => ?_
                refine W.region ?_
                refine WL.vS hS hE (runs_plain rfl) (Gives.fld hE rfl fl78_4) rfl ?_; clear hE a; intro a hE
                refine WL.vS hS hE (runs_plain rfl) (Gives.loadB hE 0 rfl rfl rfl ty3) rfl ?_; clear hE a; intro a hE
                refine WL.fnq hE (Fishref2within_ok hS  rfl (r := Fishref2within x55.Km 0 10000)) (runs_plain rfl) bd45 rfl rfl rfl ?_
                clear hE hS; rintro e w ⟨rfl, hS⟩; refine ⟨_, rfl, ?_⟩; clear a; intro a hE
                refine WL.vS hS hE (runs_plain rfl) (Gives.p hE rfl) rfl ?_; clear hE a; intro a hE
                refine WL.vS hS hE (runs_plain rfl) (Gives.p hE rfl) rfl ?_; clear hE a; intro a hE
                rcases Bool.eq_false_or_eq_true (!(Fishref2within x55.Km 0 10000)) with hg86 | hg86
                · replace hq80 := iteT hg86 hq80
                  refine WL.no hE (runs_not hE rfl rfl rfl (by rw [hg86]; decide)) rfl ?_; clear hE a; intro a hE
                  refine WL.no hE (runs_not hE rfl rfl rfl (by rw [hg86]; decide)) rfl ?_; clear hE a; intro a hE
                  refine WL.no hE (runs_not hE rfl rfl rfl (by rw [hg86]; decide)) rfl ?_; clear hE a; intro a hE
                  refine WL.no hE (runs_not hE rfl rfl rfl (by rw [hg86]; decide)) rfl ?_; clear hE a; intro a hE
                  refine WL.vS hS hE (runs_plain rfl) (Gives.pickT hE rfl hg86 rfl) rfl ?_; clear hE a; intro a hE
                  refine WL.nil ?_
                  subst hK85
                  exact ⟨true, hq80, hE.pick _ ⟨rfl, rfl, rfl, rfl, trivial⟩, hS⟩
                · replace hq80 := iteF hg86 hq80
                  refine WL.vS hS hE (runs_if hE rfl rfl rfl hg86) (Gives.fld hE rfl fl78_5) rfl ?_; clear hE a; intro a hE
                  refine WL.vS hS hE (runs_if hE rfl rfl rfl hg86) (Gives.loadB hE 0 rfl rfl rfl ty3) rfl ?_; clear hE a; intro a hE
                  refine WL.fnq hE (Fishref2within_ok hS  rfl (r := Fishref2within x55.Units 1 4)) (runs_if hE rfl rfl rfl hg86) bd45 rfl rfl rfl ?_
                  clear hE hS; rintro e w ⟨rfl, hS⟩; refine ⟨_, rfl, ?_⟩; clear a; intro a hE
                  refine WL.vS hS hE (runs_if hE rfl rfl rfl hg86) (Gives.p hE rfl) rfl ?_; clear hE a; intro a hE
                  refine WL.vS hS hE (runs_plain rfl) (Gives.pickF hE rfl hg86 rfl) rfl ?_; clear hE a; intro a hE
                  refine WL.nil ?_
                  subst hK85
                  exact ⟨!(Fishref2within x55.Units 1 4), hq80, hE.pick _ ⟨rfl, rfl, rfl, rfl, trivial⟩, hS⟩
              · clear hE hS a w; rintro a w ⟨q84, rfl, hE, hS⟩
                refine W.cond hE rfl (fun hc87 => ?_) (fun hc87 => ?_)
                · replace hq52 := iteT hc87 hq52
                  refine W.seq ?_
                  refine W.region ?_
                  refine WL.vS hS hE (runs_plain rfl) (Gives.p hE rfl) rfl ?_; clear hE a; intro a hE
                  refine WL.nil ?_
                  refine W.ret ?_
                  subst hK63
                  rw [← hq52] at hr
                  dsimp only at hr
                  refine finG (fn := Try.f15) (rs := [.tmp 2]) (vs := [_]) hE rfl ⟨rfl, trivial⟩ ?_
                  subst hr
                  replace hS := hS.tail
                  exact ⟨rfl, hS⟩
                · replace hq52 := iteF hc87 hq52
                  refine W.skip ?_
                  refine W.region ?_
                  refine WL.vS hS hE (runs_plain rfl) (Gives.inc hE rfl (by have := h0.small; omega)) rfl ?_; clear hE a; intro a hE
                  refine WL.vS hS hE (runs_plain rfl) (Gives.p hE rfl) rfl ?_; clear hE a; intro a hE
                  refine WL.nil ?_
                  replace hS := hS.tail
                  subst hK63
                  exact ⟨rest56.length, Nat.lt_succ_self _, rest56, k54 + 1, rfl, hd57, hq52, hE.pick _ ⟨rfl, rfl, rfl, trivial⟩, hS⟩
    · clear hE hS a w; rintro a w ⟨rfl, hE, hS⟩
      dsimp only at hr
      refine W.seq ?_
      refine W.region ?_
      refine WL.vS hS hE (runs_plain rfl) (Gives.p hE rfl) rfl ?_; clear hE a; intro a hE
      refine WL.nil ?_
      refine W.ret ?_
      refine finG (fn := Try.f15) (rs := [.tmp 2]) (vs := [_]) hE rfl ⟨rfl, trivial⟩ ?_
      subst hr
      exact ⟨rfl, hS⟩
set_option maxHeartbeats 8000000 in
theorem Fishref2TurnFault_ok  {w : World} {s : Sg} {R : List HP} {x0 : List FleetTask} {a0 : Option Addr} {c0 : Nat} {x1 : Int} (hS : St w s (R)) (h0 : Sl 6 RFleetTask s a0 c0 x0) {r : Int} (hr : Fishref2TurnFault x0 x1 = r) :
    Calls Try.prog 64 [.slice a0 x0.length c0, .int .i64 x1].toArray w (fun e w => e = .returned (.int .i64 r) ∧ St w s (R)) := by
  refine enter Try.func64 rfl rfl rfl fun a hE => ?_
  rw [Fishref2TurnFault] at hr
  refine W.seq ?_
  refine W.region ?_
  refine WL.vS hS hE (runs_plain rfl) (Gives.p hE rfl) rfl ?_; clear hE a; intro a hE
  refine WL.nil ?_
  refine W.seq ?_
  refine W.seq ?_
  refine W.region ?_
  refine WL.vS hS hE (runs_plain rfl) (Gives.p hE rfl) rfl ?_; clear hE a; intro a hE
  refine WL.fnq hE (Fishref2TasksFault_ok hS h0 rfl (r := Fishref2TasksFault x0)) (runs_plain rfl) bd15 rfl rfl rfl ?_
  clear hE hS; rintro e w ⟨rfl, hS⟩; refine ⟨_, rfl, ?_⟩; clear a; intro a hE
  refine WL.vS hS hE (runs_plain rfl) (Gives.p hE rfl) rfl ?_; clear hE a; intro a hE
  refine WL.nil ?_
  refine W.seq ?_
  refine W.region ?_
  refine WL.vS hS hE (runs_plain rfl) (Gives.p hE rfl) rfl ?_; clear hE a; intro a hE
  refine WL.vS hS hE (runs_plain rfl) (Gives.p hE rfl) rfl ?_; clear hE a; intro a hE
  refine WL.nil ?_
  refine W.cond hE rfl (fun hc51 => ?_) (fun hc51 => ?_)
  · replace hr := iteT hc51 hr
    refine W.seq ?_
    refine W.region ?_
    refine WL.vS hS hE (runs_plain rfl) (Gives.p hE rfl) rfl ?_; clear hE a; intro a hE
    refine WL.vS hS hE (runs_plain rfl) (Gives.p hE rfl) rfl ?_; clear hE a; intro a hE
    refine WL.nil ?_
    refine W.ret ?_
    refine finG (fn := Try.f64) (rs := [.tmp 4]) (vs := [_]) hE rfl ⟨rfl, trivial⟩ ?_
    subst hr
    exact ⟨rfl, hS⟩
  · replace hr := iteF hc51 hr
    refine W.skip ?_
    refine W.seq ?_
    refine W.seq ?_
    refine W.region ?_
    refine WL.vS hS hE (runs_plain rfl) (Gives.p hE rfl) rfl ?_; clear hE a; intro a hE
    refine WL.fnq hE (Fishref2within_ok hS  rfl (r := Fishref2within x1 0 28800)) (runs_plain rfl) bd45 rfl rfl rfl ?_
    clear hE hS; rintro e w ⟨rfl, hS⟩; refine ⟨_, rfl, ?_⟩; clear a; intro a hE
    refine WL.vS hS hE (runs_plain rfl) (Gives.p hE rfl) rfl ?_; clear hE a; intro a hE
    refine WL.nil ?_
    refine W.cond hE rfl (fun hc52 => ?_) (fun hc52 => ?_)
    · replace hr := iteT hc52 hr
      refine W.seq ?_
      refine W.region ?_
      refine WL.vS hS hE (runs_plain rfl) (Gives.p hE rfl) rfl ?_; clear hE a; intro a hE
      refine WL.nil ?_
      refine W.ret ?_
      refine finG (fn := Try.f64) (rs := [.tmp 4]) (vs := [_]) hE rfl ⟨rfl, trivial⟩ ?_
      subst hr
      exact ⟨rfl, hS⟩
    · replace hr := iteF hc52 hr
      refine W.skip ?_
      refine W.seq ?_
      refine W.region ?_
      refine WL.vS hS hE (runs_plain rfl) (Gives.p hE rfl) rfl ?_; clear hE a; intro a hE
      refine WL.nil ?_
      refine W.ret ?_
      refine finG (fn := Try.f64) (rs := [.tmp 4]) (vs := [_]) hE rfl ⟨rfl, trivial⟩ ?_
      subst hr
      exact ⟨rfl, hS⟩
set_option maxHeartbeats 8000000 in
theorem Fishref2EmptyFault_ok  {w : World} {s : Sg} {R : List HP} {x0 : List FleetTask} {a0 : Option Addr} {c0 : Nat} {x1 : Int} {x2 : List (List Int)} {a2 : Option Addr} {c2 : Nat} (hS : St w s (R)) (h0 : Sl 6 RFleetTask s a0 c0 x0) (h2 : Sl 1 (RL 1 (RI .i64)) s a2 c2 x2) {r : Int} (hr : Fishref2EmptyFault x0 x1 x2 = some r) :
    Calls Try.prog 22 [.slice a0 x0.length c0, .int .i64 x1, .slice a2 x2.length c2].toArray w (fun e w => e = .returned (.int .i64 r) ∧ St w s (R)) := by
  refine enter Try.func22 rfl rfl rfl fun a hE => ?_
  rw [Fishref2EmptyFault] at hr
  refine W.seq ?_
  refine W.region ?_
  refine WL.vS hS hE (runs_plain rfl) (Gives.p hE rfl) rfl ?_; clear hE a; intro a hE
  refine WL.nil ?_
  refine W.seq ?_
  refine W.seq ?_
  refine W.region ?_
  refine WL.vS hS hE (runs_plain rfl) (Gives.p hE rfl) rfl ?_; clear hE a; intro a hE
  refine WL.vS hS hE (runs_plain rfl) (Gives.p hE rfl) rfl ?_; clear hE a; intro a hE
  refine WL.fnq hE (Fishref2TurnFault_ok hS h0 rfl (r := Fishref2TurnFault x0 x1)) (runs_plain rfl) bd64 rfl rfl rfl ?_
  clear hE hS; rintro e w ⟨rfl, hS⟩; refine ⟨_, rfl, ?_⟩; clear a; intro a hE
  refine WL.vS hS hE (runs_plain rfl) (Gives.p hE rfl) rfl ?_; clear hE a; intro a hE
  refine WL.nil ?_
  refine W.seq ?_
  refine W.region ?_
  refine WL.vS hS hE (runs_plain rfl) (Gives.p hE rfl) rfl ?_; clear hE a; intro a hE
  refine WL.vS hS hE (runs_plain rfl) (Gives.p hE rfl) rfl ?_; clear hE a; intro a hE
  refine WL.nil ?_
  refine W.cond hE rfl (fun hc51 => ?_) (fun hc51 => ?_)
  · replace hr := iteT hc51 hr
    refine W.seq ?_
    refine W.region ?_
    refine WL.vS hS hE (runs_plain rfl) (Gives.p hE rfl) rfl ?_; clear hE a; intro a hE
    refine WL.vS hS hE (runs_plain rfl) (Gives.p hE rfl) rfl ?_; clear hE a; intro a hE
    refine WL.nil ?_
    refine W.ret ?_
    refine finG (fn := Try.f22) (rs := [.tmp 6]) (vs := [_]) hE rfl ⟨rfl, trivial⟩ ?_
    obtain rfl := Option.some.inj hr
    exact ⟨rfl, hS⟩
  · replace hr := iteF hc51 hr
    refine W.skip ?_
    refine W.seq ?_
    refine W.seq ?_
    refine W.region ?_
    refine WL.vS hS hE (runs_plain rfl) (Gives.p hE rfl) rfl ?_; clear hE a; intro a hE
    refine WL.vS hS hE (runs_plain rfl) (Gives.len hE rfl sl32) rfl ?_; clear hE a; intro a hE
    refine WL.vS hS hE (runs_plain rfl) (Gives.p hE rfl) rfl ?_; clear hE a; intro a hE
    refine WL.nil ?_
    refine W.cond hE rfl (fun hc52 => ?_) (fun hc52 => ?_)
    · replace hr := iteT hc52 hr
      refine W.seq ?_
      refine W.region ?_
      refine WL.vS hS hE (runs_plain rfl) (Gives.p hE rfl) rfl ?_; clear hE a; intro a hE
      refine WL.nil ?_
      refine W.ret ?_
      refine finG (fn := Try.f22) (rs := [.tmp 6]) (vs := [_]) hE rfl ⟨rfl, trivial⟩ ?_
      obtain rfl := Option.some.inj hr
      exact ⟨rfl, hS⟩
    · replace hr := iteF hc52 hr
      refine W.skip ?_
      refine W.seq ?_
      refine W.seq ?_
      refine W.region ?_
      refine WL.vS hS hE (runs_plain rfl) (Gives.p hE rfl) rfl ?_; clear hE a; intro a hE
      refine WL.vS hS hE (runs_plain rfl) (Gives.len hE rfl sl25) rfl ?_; clear hE a; intro a hE
      refine WL.vS hS hE (runs_plain rfl) (Gives.p hE rfl) rfl ?_; clear hE a; intro a hE
      refine WL.nil ?_
      refine W.cond hE rfl (fun hc53 => ?_) (fun hc53 => ?_)
      · replace hr := iteT hc53 hr
        refine W.seq ?_
        refine W.region ?_
        refine WL.vS hS hE (runs_plain rfl) (Gives.p hE rfl) rfl ?_; clear hE a; intro a hE
        refine WL.nil ?_
        refine W.ret ?_
        refine finG (fn := Try.f22) (rs := [.tmp 6]) (vs := [_]) hE rfl ⟨rfl, trivial⟩ ?_
        obtain rfl := Option.some.inj hr
        exact ⟨rfl, hS⟩
      · replace hr := iteF hc53 hr
        refine W.skip ?_
        refine W.seq ?_
        refine W.seq ?_
        refine W.region ?_
        refine WL.vS hS hE (runs_plain rfl) (Gives.p hE rfl) rfl ?_; clear hE a; intro a hE
        refine WL.vS hS hE (runs_plain rfl) (Gives.len hE rfl sl25) rfl ?_; clear hE a; intro a hE
        refine WL.vS hS hE (runs_plain rfl) (Gives.p hE rfl) rfl ?_; clear hE a; intro a hE
        refine WL.nil ?_
        obtain ⟨q55, hq54, hr⟩ := bndS hr
        refine W.cut (fun a w => (.next ()) = q55 ∧ Rep a 130 [(0, .slice a0 x0.length c0), (2, .slice a2 x2.length c2)] ∧ St w s (R)) ?_ ?_
        · refine W.block ?_
          refine W.loop (fun m a w => ∃ (rest58 : List (List Int)) (k56 : Nat), rest58.length = m ∧ x2.drop k56 = rest58 ∧ Fishref2EmptyFault.loop1 rest58 = q55 ∧ Rep a 130 [(0, .slice a0 x0.length c0), (2, .slice a2 x2.length c2), (31, .slice a2 x2.length c2), (32, .int .i64 ((x2).length : Int)), (33, .int .i64 ((k56 : Nat) : Int))] ∧ St w s (R)) (m := x2.length) ⟨x2, 0, rfl, rfl, hq54, hE.pick _ ⟨rfl, rfl, rfl, rfl, rfl, trivial⟩, hS⟩ ?_
          clear hE hS a w hq54; rintro m62 a w ⟨rest58, k56, rfl, hd59, hq54, hE, hS⟩
          refine W.gen fun K65 hK65 => ?_
          rcases rest58 with _ | ⟨x57, rest58⟩
          · have hlt60 := drop_nil hd59
            refine W.seq ?_
            refine W.region ?_
            refine WL.vS hS hE (runs_plain rfl) (Gives.p hE rfl) rfl ?_; clear hE a; intro a hE
            refine WL.nil ?_
            refine W.seq ?_
            refine W.condF hE rfl (decide_eq_false (by omega)) ?_
            subst hK65
            refine W.exit rfl ?_
            exact ⟨hq54, hE.pick _ ⟨rfl, rfl, trivial⟩, hS⟩
          · obtain ⟨hlt60, hx61, hd59⟩ := drop_cons hd59
            rw [Fishref2EmptyFault.loop1] at hq54
            refine W.seq ?_
            refine W.region ?_
            refine WL.vS hS hE (runs_plain rfl) (Gives.p hE rfl) rfl ?_; clear hE a; intro a hE
            refine WL.nil ?_
            refine W.seq ?_
            refine W.condT hE rfl (decide_eq_true (by omega)) ?_
            refine W.skip ?_
            refine W.seq ?_
            refine W.block ?_
            refine W.seq ?_
            refine W.region ?_
            obtain ⟨cs66, hl67, hR68, hat69⟩ := h2.at hx61
            obtain ⟨a70, c71, rfl, h72⟩ := hR68
            refine WL.vS hS hE (runs_plain rfl) (Gives.idx hE k56 rfl rfl sl25 rfl hlt60 (h2.aok hlt60)) rfl ?_; clear hE a; intro a hE
            refine WL.vS hS hE (runs_plain rfl) (Gives.load1 hE rfl (fun w h => hat69 w _ h) ty44) rfl ?_; clear hE a; intro a hE
            refine WL.vS hS hE (runs_plain rfl) (Gives.p hE rfl) rfl ?_; clear hE a; intro a hE
            refine WL.nil ?_
            refine W.seq ?_
            refine W.region ?_
            refine WL.vS hS hE (runs_plain rfl) (Gives.p hE rfl) rfl ?_; clear hE a; intro a hE
            refine WL.vS hS hE (runs_plain rfl) (Gives.len hE rfl sl44) rfl ?_; clear hE a; intro a hE
            refine WL.vS hS hE (runs_plain rfl) (Gives.p hE rfl) rfl ?_; clear hE a; intro a hE
            refine WL.nil ?_
            refine W.cond hE rfl (fun hc73 => ?_) (fun hc73 => ?_)
            · replace hq54 := iteT hc73 hq54
              refine W.seq ?_
              refine W.region ?_
              refine WL.vS hS hE (runs_plain rfl) (Gives.p hE rfl) rfl ?_; clear hE a; intro a hE
              refine WL.nil ?_
              refine W.ret ?_
              subst hK65
              rw [← hq54] at hr
              dsimp only at hr
              refine finG (fn := Try.f22) (rs := [.tmp 6]) (vs := [_]) hE rfl ⟨rfl, trivial⟩ ?_
              obtain rfl := Option.some.inj hr
              exact ⟨rfl, hS⟩
            · replace hq54 := iteF hc73 hq54
              refine W.skip ?_
              refine W.region ?_
              refine WL.vS hS hE (runs_plain rfl) (Gives.inc hE rfl (by have := h2.small; omega)) rfl ?_; clear hE a; intro a hE
              refine WL.vS hS hE (runs_plain rfl) (Gives.p hE rfl) rfl ?_; clear hE a; intro a hE
              refine WL.nil ?_
              subst hK65
              exact ⟨rest58.length, Nat.lt_succ_self _, rest58, k56 + 1, rfl, hd59, hq54, hE.pick _ ⟨rfl, rfl, rfl, rfl, rfl, trivial⟩, hS⟩
        · clear hE hS a w; rintro a w ⟨rfl, hE, hS⟩
          dsimp only at hr
          refine W.seq ?_
          refine W.seq ?_
          refine W.region ?_
          refine WL.vS hS hE (runs_plain rfl) (Gives.p hE rfl) rfl ?_; clear hE a; intro a hE
          refine WL.vS hS hE (runs_plain rfl) (Gives.len hE rfl sl25) rfl ?_; clear hE a; intro a hE
          refine WL.vS hS hE (runs_plain rfl) (Gives.p hE rfl) rfl ?_; clear hE a; intro a hE
          refine WL.nil ?_
          obtain ⟨q75, hq74, hr⟩ := bndS hr
          refine W.cut (fun a w => (.next ()) = q75 ∧ Rep a 130 [(0, .slice a0 x0.length c0), (2, .slice a2 x2.length c2)] ∧ St w s (R)) ?_ ?_
          · refine W.block ?_
            refine W.loop (fun m a w => ∃ (rest78 : List (List Int)) (k76 : Nat), rest78.length = m ∧ x2.drop k76 = rest78 ∧ Fishref2EmptyFault.loop2 rest78 k76 = q75 ∧ Rep a 130 [(0, .slice a0 x0.length c0), (2, .slice a2 x2.length c2), (41, .slice a2 x2.length c2), (42, .int .i64 ((x2).length : Int)), (43, .int .i64 ((k76 : Nat) : Int))] ∧ St w s (R)) (m := x2.length) ⟨x2, 0, rfl, rfl, hq74, hE.pick _ ⟨rfl, rfl, rfl, rfl, rfl, trivial⟩, hS⟩ ?_
            clear hE hS a w hq74; rintro m82 a w ⟨rest78, k76, rfl, hd79, hq74, hE, hS⟩
            refine W.gen fun K85 hK85 => ?_
            rcases rest78 with _ | ⟨x77, rest78⟩
            · have hlt80 := drop_nil hd79
              refine W.seq ?_
              refine W.region ?_
              refine WL.vS hS hE (runs_plain rfl) (Gives.p hE rfl) rfl ?_; clear hE a; intro a hE
              refine WL.nil ?_
              refine W.seq ?_
              refine W.condF hE rfl (decide_eq_false (by omega)) ?_
              subst hK85
              refine W.exit rfl ?_
              exact ⟨hq74, hE.pick _ ⟨rfl, rfl, trivial⟩, hS⟩
            · obtain ⟨hlt80, hx81, hd79⟩ := drop_cons hd79
              rw [Fishref2EmptyFault.loop2] at hq74
              refine W.seq ?_
              refine W.region ?_
              refine WL.vS hS hE (runs_plain rfl) (Gives.p hE rfl) rfl ?_; clear hE a; intro a hE
              refine WL.nil ?_
              refine W.seq ?_
              refine W.condT hE rfl (decide_eq_true (by omega)) ?_
              refine W.skip ?_
              refine W.seq ?_
              refine W.block ?_
              refine W.seq ?_
              refine W.region ?_
              refine WL.vS hS hE (runs_plain rfl) (Gives.p hE rfl) rfl ?_; clear hE a; intro a hE
              obtain ⟨cs86, hl87, hR88, hat89⟩ := h2.at hx81
              obtain ⟨a90, c91, rfl, h92⟩ := hR88
              refine WL.vS hS hE (runs_plain rfl) (Gives.idx hE k76 rfl rfl sl25 rfl hlt80 (h2.aok hlt80)) rfl ?_; clear hE a; intro a hE
              refine WL.vS hS hE (runs_plain rfl) (Gives.load1 hE rfl (fun w h => hat89 w _ h) ty44) rfl ?_; clear hE a; intro a hE
              refine WL.vS hS hE (runs_plain rfl) (Gives.p hE rfl) rfl ?_; clear hE a; intro a hE
              refine WL.vS hS hE (runs_plain rfl) (Gives.p hE rfl) rfl ?_; clear hE a; intro a hE
              refine WL.nil ?_
              refine W.seq ?_
              refine W.region ?_
              refine WL.vS hS hE (runs_plain rfl) (Gives.p hE rfl) rfl ?_; clear hE a; intro a hE
              refine WL.vS hS hE (runs_plain rfl) (Gives.len hE rfl sl44) rfl ?_; clear hE a; intro a hE
              refine WL.vS hS hE (runs_plain rfl) (Gives.p hE rfl) rfl ?_; clear hE a; intro a hE
              refine WL.nil ?_
              obtain ⟨q94, hq93, hq74⟩ := bndS hq74
              refine W.cut (fun a w => (.next ()) = q94 ∧ Rep a 130 [(0, .slice a0 x0.length c0), (2, .slice a2 x2.length c2), (41, .slice a2 x2.length c2), (42, .int .i64 ((x2).length : Int)), (43, .int .i64 ((k76 : Nat) : Int))] ∧ St w s (R)) ?_ ?_
              · refine W.block ?_
                refine W.loop (fun m a w => ∃ (rest97 : List Int) (k95 : Nat), rest97.length = m ∧ x77.drop k95 = rest97 ∧ Fishref2EmptyFault.loop3 k76 rest97 k95 = q94 ∧ Rep a 130 [(0, .slice a0 x0.length c0), (2, .slice a2 x2.length c2), (10, .int .i64 ((k76 : Nat) : Int)), (41, .slice a2 x2.length c2), (42, .int .i64 ((x2).length : Int)), (43, .int .i64 ((k76 : Nat) : Int)), (48, .slice a90 x77.length c91), (49, .int .i64 ((x77).length : Int)), (50, .int .i64 ((k95 : Nat) : Int))] ∧ St w s (R)) (m := x77.length) ⟨x77, 0, rfl, rfl, hq93, hE.pick _ ⟨rfl, rfl, rfl, rfl, rfl, rfl, rfl, rfl, rfl, trivial⟩, hS⟩ ?_
                clear hE hS a w hq93; rintro m101 a w ⟨rest97, k95, rfl, hd98, hq93, hE, hS⟩
                refine W.gen fun K104 hK104 => ?_
                rcases rest97 with _ | ⟨x96, rest97⟩
                · have hlt99 := drop_nil hd98
                  refine W.seq ?_
                  refine W.region ?_
                  refine WL.vS hS hE (runs_plain rfl) (Gives.p hE rfl) rfl ?_; clear hE a; intro a hE
                  refine WL.nil ?_
                  refine W.seq ?_
                  refine W.condF hE rfl (decide_eq_false (by omega)) ?_
                  subst hK104
                  refine W.exit rfl ?_
                  exact ⟨hq93, hE.pick _ ⟨rfl, rfl, rfl, rfl, rfl, trivial⟩, hS⟩
                · obtain ⟨hlt99, hx100, hd98⟩ := drop_cons hd98
                  rw [Fishref2EmptyFault.loop3] at hq93
                  refine W.seq ?_
                  refine W.region ?_
                  refine WL.vS hS hE (runs_plain rfl) (Gives.p hE rfl) rfl ?_; clear hE a; intro a hE
                  refine WL.nil ?_
                  refine W.seq ?_
                  refine W.condT hE rfl (decide_eq_true (by omega)) ?_
                  refine W.skip ?_
                  refine W.seq ?_
                  refine W.block ?_
                  refine W.seq ?_
                  refine W.region ?_
                  refine WL.vS hS hE (runs_plain rfl) (Gives.p hE rfl) rfl ?_; clear hE a; intro a hE
                  obtain ⟨cs105, hl106, hR107, hat108⟩ := h92.at hx100
                  subst hR107
                  refine WL.vS hS hE (runs_plain rfl) (Gives.idx hE k95 rfl rfl sl44 rfl hlt99 (h92.aok hlt99)) rfl ?_; clear hE a; intro a hE
                  refine WL.vS hS hE (runs_plain rfl) (Gives.load1 hE rfl (fun w h => hat108 w _ h) ty3) rfl ?_; clear hE a; intro a hE
                  refine WL.vS hS hE (runs_plain rfl) (Gives.p hE rfl) rfl ?_; clear hE a; intro a hE
                  refine WL.vS hS hE (runs_plain rfl) (Gives.p hE rfl) rfl ?_; clear hE a; intro a hE
                  refine WL.nil ?_
                  refine W.seq ?_
                  refine W.seq ?_
                  refine W.region ?_
                  refine WL.vS hS hE (runs_plain rfl) (Gives.p hE rfl) rfl ?_; clear hE a; intro a hE
                  refine WL.fnq hE (Fishref2within_ok hS  rfl (r := Fishref2within x96 0 28800)) (runs_plain rfl) bd45 rfl rfl rfl ?_
                  clear hE hS; rintro e w ⟨rfl, hS⟩; refine ⟨_, rfl, ?_⟩; clear a; intro a hE
                  refine WL.vS hS hE (runs_plain rfl) (Gives.p hE rfl) rfl ?_; clear hE a; intro a hE
                  refine WL.nil ?_
                  refine W.cond hE rfl (fun hc109 => ?_) (fun hc109 => ?_)
                  · replace hq93 := iteT hc109 hq93
                    refine W.seq ?_
                    refine W.region ?_
                    refine WL.vS hS hE (runs_plain rfl) (Gives.p hE rfl) rfl ?_; clear hE a; intro a hE
                    refine WL.nil ?_
                    refine W.ret ?_
                    subst hK104
                    subst hK85
                    rw [← hq93] at hq74
                    dsimp only at hq74
                    rw [← hq74] at hr
                    dsimp only at hr
                    refine finG (fn := Try.f22) (rs := [.tmp 6]) (vs := [_]) hE rfl ⟨rfl, trivial⟩ ?_
                    obtain rfl := Option.some.inj hr
                    exact ⟨rfl, hS⟩
                  · replace hq93 := iteF hc109 hq93
                    refine W.skip ?_
                    refine W.seq ?_
                    obtain ⟨q111, hq110, hq93⟩ := bndS hq93
                    refine W.cut (fun a w => ∃ (q114 : Bool), q114 = q111 ∧ Rep a 130 [(0, .slice a0 x0.length c0), (2, .slice a2 x2.length c2), (10, .int .i64 ((k76 : Nat) : Int)), (41, .slice a2 x2.length c2), (42, .int .i64 ((x2).length : Int)), (43, .int .i64 ((k76 : Nat) : Int)), (48, .slice a90 x77.length c91), (49, .int .i64 ((x77).length : Int)), (50, .int .i64 ((k95 : Nat) : Int)), (64, .bool q114)] ∧ St w s (R)) ?_ ?_
                    · refine W.gen fun K115 hK115 => ?_
                      refine W.region ?_
                      refine WL.vS hS hE (runs_plain rfl) (Gives.p hE rfl) rfl ?_; clear hE a; intro a hE
                      refine WL.vS hS hE (runs_plain rfl) (Gives.p hE rfl) rfl ?_; clear hE a; intro a hE
                      refine WL.vS hS hE (runs_plain rfl) (Gives.p hE rfl) rfl ?_; clear hE a; intro a hE
                      refine WL.vS hS hE (runs_plain rfl) (Gives.p hE rfl) rfl ?_; clear hE a; intro a hE
                      rcases Bool.eq_false_or_eq_true (((k76 : Nat) : Int) == ((k95 : Nat) : Int)) with hg116 | hg116
                      · replace hq110 := iteT hg116 hq110
                        refine WL.vS hS hE (runs_if hE rfl rfl rfl hg116) (Gives.p hE rfl) rfl ?_; clear hE a; intro a hE
                        refine WL.vS hS hE (runs_if hE rfl rfl rfl hg116) (Gives.p hE rfl) rfl ?_; clear hE a; intro a hE
                        refine WL.vS hS hE (runs_plain rfl) (Gives.pickT hE rfl hg116 rfl) rfl ?_; clear hE a; intro a hE
                        refine WL.nil ?_
                        subst hK115
                        exact ⟨(x96 != 0), hq110, hE.pick _ ⟨rfl, rfl, rfl, rfl, rfl, rfl, rfl, rfl, rfl, rfl, trivial⟩, hS⟩
                      · replace hq110 := iteF hg116 hq110
                        refine WL.no hE (runs_not hE rfl rfl rfl (by rw [hg116]; decide)) rfl ?_; clear hE a; intro a hE
                        refine WL.no hE (runs_not hE rfl rfl rfl (by rw [hg116]; decide)) rfl ?_; clear hE a; intro a hE
                        refine WL.vS hS hE (runs_plain rfl) (Gives.pickF hE rfl hg116 rfl) rfl ?_; clear hE a; intro a hE
                        refine WL.nil ?_
                        subst hK115
                        exact ⟨false, hq110, hE.pick _ ⟨rfl, rfl, rfl, rfl, rfl, rfl, rfl, rfl, rfl, rfl, trivial⟩, hS⟩
                    · clear hE hS a w; rintro a w ⟨q114, rfl, hE, hS⟩
                      refine W.cond hE rfl (fun hc117 => ?_) (fun hc117 => ?_)
                      · replace hq93 := iteT hc117 hq93
                        refine W.seq ?_
                        refine W.region ?_
                        refine WL.vS hS hE (runs_plain rfl) (Gives.p hE rfl) rfl ?_; clear hE a; intro a hE
                        refine WL.nil ?_
                        refine W.ret ?_
                        subst hK104
                        subst hK85
                        rw [← hq93] at hq74
                        dsimp only at hq74
                        rw [← hq74] at hr
                        dsimp only at hr
                        refine finG (fn := Try.f22) (rs := [.tmp 6]) (vs := [_]) hE rfl ⟨rfl, trivial⟩ ?_
                        obtain rfl := Option.some.inj hr
                        exact ⟨rfl, hS⟩
                      · replace hq93 := iteF hc117 hq93
                        refine W.skip ?_
                        refine W.region ?_
                        refine WL.vS hS hE (runs_plain rfl) (Gives.inc hE rfl (by have := h92.small; omega)) rfl ?_; clear hE a; intro a hE
                        refine WL.vS hS hE (runs_plain rfl) (Gives.p hE rfl) rfl ?_; clear hE a; intro a hE
                        refine WL.nil ?_
                        subst hK104
                        exact ⟨rest97.length, Nat.lt_succ_self _, rest97, k95 + 1, rfl, hd98, hq93, hE.pick _ ⟨rfl, rfl, rfl, rfl, rfl, rfl, rfl, rfl, rfl, trivial⟩, hS⟩
              · clear hE hS a w; rintro a w ⟨rfl, hE, hS⟩
                dsimp only at hq74
                refine W.region ?_
                refine WL.vS hS hE (runs_plain rfl) (Gives.inc hE rfl (by have := h2.small; omega)) rfl ?_; clear hE a; intro a hE
                refine WL.vS hS hE (runs_plain rfl) (Gives.p hE rfl) rfl ?_; clear hE a; intro a hE
                refine WL.nil ?_
                subst hK85
                exact ⟨rest78.length, Nat.lt_succ_self _, rest78, k76 + 1, rfl, hd79, hq74, hE.pick _ ⟨rfl, rfl, rfl, rfl, rfl, trivial⟩, hS⟩
          · clear hE hS a w; rintro a w ⟨rfl, hE, hS⟩
            dsimp only at hr
            refine W.seq ?_
            refine W.seq ?_
            refine W.region ?_
            refine WL.vS hS hE (runs_plain rfl) (Gives.p hE rfl) rfl ?_; clear hE a; intro a hE
            refine WL.vS hS hE (runs_plain rfl) (Gives.len hE rfl sl25) rfl ?_; clear hE a; intro a hE
            refine WL.vS hS hE (runs_plain rfl) (Gives.p hE rfl) rfl ?_; clear hE a; intro a hE
            refine WL.nil ?_
            obtain ⟨q119, hq118, hr⟩ := bindS hr
            refine W.cut (fun a w => (.next ()) = q119 ∧ Rep a 130 [(0, .slice a0 x0.length c0), (2, .slice a2 x2.length c2)] ∧ St w s (R)) ?_ ?_
            · refine W.block ?_
              refine W.loop (fun m a w => ∃ (rest122 : List (List Int)) (k120 : Nat), rest122.length = m ∧ x2.drop k120 = rest122 ∧ Fishref2EmptyFault.loop4 x2 rest122 = some q119 ∧ Rep a 130 [(0, .slice a0 x0.length c0), (2, .slice a2 x2.length c2), (68, .int .i64 ((x2).length : Int)), (69, .int .i64 ((k120 : Nat) : Int))] ∧ St w s (R)) (m := x2.length) ⟨x2, 0, rfl, rfl, hq118, hE.pick _ ⟨rfl, rfl, rfl, rfl, trivial⟩, hS⟩ ?_
              clear hE hS a w hq118; rintro m126 a w ⟨rest122, k120, rfl, hd123, hq118, hE, hS⟩
              refine W.gen fun K129 hK129 => ?_
              rcases rest122 with _ | ⟨x121, rest122⟩
              · have hlt124 := drop_nil hd123
                refine W.seq ?_
                refine W.region ?_
                refine WL.vS hS hE (runs_plain rfl) (Gives.p hE rfl) rfl ?_; clear hE a; intro a hE
                refine WL.nil ?_
                refine W.seq ?_
                refine W.condF hE rfl (decide_eq_false (by omega)) ?_
                subst hK129
                refine W.exit rfl ?_
                exact ⟨Option.some.inj hq118, hE.pick _ ⟨rfl, rfl, trivial⟩, hS⟩
              · obtain ⟨hlt124, hx125, hd123⟩ := drop_cons hd123
                rw [Fishref2EmptyFault.loop4] at hq118
                refine W.seq ?_
                refine W.region ?_
                refine WL.vS hS hE (runs_plain rfl) (Gives.p hE rfl) rfl ?_; clear hE a; intro a hE
                refine WL.nil ?_
                refine W.seq ?_
                refine W.condT hE rfl (decide_eq_true (by omega)) ?_
                refine W.skip ?_
                refine W.seq ?_
                refine W.block ?_
                refine W.seq ?_
                refine W.region ?_
                refine WL.vS hS hE (runs_plain rfl) (Gives.p hE rfl) rfl ?_; clear hE a; intro a hE
                refine WL.vS hS hE (runs_plain rfl) (Gives.p hE rfl) rfl ?_; clear hE a; intro a hE
                refine WL.nil ?_
                refine W.seq ?_
                refine W.region ?_
                refine WL.vS hS hE (runs_plain rfl) (Gives.p hE rfl) rfl ?_; clear hE a; intro a hE
                refine WL.vS hS hE (runs_plain rfl) (Gives.len hE rfl sl25) rfl ?_; clear hE a; intro a hE
                refine WL.vS hS hE (runs_plain rfl) (Gives.p hE rfl) rfl ?_; clear hE a; intro a hE
                refine WL.nil ?_
                obtain ⟨q131, hq130, hq118⟩ := bindS hq118
                refine W.cut (fun a w => (.next ()) = q131 ∧ Rep a 130 [(0, .slice a0 x0.length c0), (2, .slice a2 x2.length c2), (68, .int .i64 ((x2).length : Int)), (69, .int .i64 ((k120 : Nat) : Int))] ∧ St w s (R)) ?_ ?_
                · refine W.block ?_
                  refine W.loop (fun m a w => ∃ (rest134 : List (List Int)) (k132 : Nat), rest134.length = m ∧ x2.drop k132 = rest134 ∧ Fishref2EmptyFault.loop5 x2 x121 rest134 k132 = some q131 ∧ Rep a 130 [(0, .slice a0 x0.length c0), (2, .slice a2 x2.length c2), (14, .int .i64 ((k120 : Nat) : Int)), (68, .int .i64 ((x2).length : Int)), (69, .int .i64 ((k120 : Nat) : Int)), (73, .int .i64 ((x2).length : Int)), (74, .int .i64 ((k132 : Nat) : Int))] ∧ St w s (R)) (m := x2.length) ⟨x2, 0, rfl, rfl, hq130, hE.pick _ ⟨rfl, rfl, rfl, rfl, rfl, rfl, rfl, trivial⟩, hS⟩ ?_
                  clear hE hS a w hq130; rintro m138 a w ⟨rest134, k132, rfl, hd135, hq130, hE, hS⟩
                  refine W.gen fun K141 hK141 => ?_
                  rcases rest134 with _ | ⟨x133, rest134⟩
                  · have hlt136 := drop_nil hd135
                    refine W.seq ?_
                    refine W.region ?_
                    refine WL.vS hS hE (runs_plain rfl) (Gives.p hE rfl) rfl ?_; clear hE a; intro a hE
                    refine WL.nil ?_
                    refine W.seq ?_
                    refine W.condF hE rfl (decide_eq_false (by omega)) ?_
                    subst hK141
                    refine W.exit rfl ?_
                    exact ⟨Option.some.inj hq130, hE.pick _ ⟨rfl, rfl, rfl, rfl, trivial⟩, hS⟩
                  · obtain ⟨hlt136, hx137, hd135⟩ := drop_cons hd135
                    rw [Fishref2EmptyFault.loop5] at hq130
                    refine W.seq ?_
                    refine W.region ?_
                    refine WL.vS hS hE (runs_plain rfl) (Gives.p hE rfl) rfl ?_; clear hE a; intro a hE
                    refine WL.nil ?_
                    refine W.seq ?_
                    refine W.condT hE rfl (decide_eq_true (by omega)) ?_
                    refine W.skip ?_
                    refine W.seq ?_
                    refine W.block ?_
                    refine W.seq ?_
                    refine W.region ?_
                    refine WL.vS hS hE (runs_plain rfl) (Gives.p hE rfl) rfl ?_; clear hE a; intro a hE
                    refine WL.vS hS hE (runs_plain rfl) (Gives.p hE rfl) rfl ?_; clear hE a; intro a hE
                    refine WL.nil ?_
                    refine W.seq ?_
                    refine W.region ?_
                    refine WL.vS hS hE (runs_plain rfl) (Gives.p hE rfl) rfl ?_; clear hE a; intro a hE
                    refine WL.vS hS hE (runs_plain rfl) (Gives.len hE rfl sl25) rfl ?_; clear hE a; intro a hE
                    refine WL.vS hS hE (runs_plain rfl) (Gives.p hE rfl) rfl ?_; clear hE a; intro a hE
                    refine WL.nil ?_
                    obtain ⟨q143, hq142, hq130⟩ := bindS hq130
                    refine W.cut (fun a w => (.next ()) = q143 ∧ Rep a 130 [(0, .slice a0 x0.length c0), (2, .slice a2 x2.length c2), (14, .int .i64 ((k120 : Nat) : Int)), (68, .int .i64 ((x2).length : Int)), (69, .int .i64 ((k120 : Nat) : Int)), (73, .int .i64 ((x2).length : Int)), (74, .int .i64 ((k132 : Nat) : Int))] ∧ St w s (R)) ?_ ?_
                    · refine W.block ?_
                      refine W.loop (fun m a w => ∃ (rest146 : List (List Int)) (k144 : Nat), rest146.length = m ∧ x2.drop k144 = rest146 ∧ Fishref2EmptyFault.loop6 x121 x133 k132 rest146 k144 = some q143 ∧ Rep a 130 [(0, .slice a0 x0.length c0), (2, .slice a2 x2.length c2), (14, .int .i64 ((k120 : Nat) : Int)), (15, .int .i64 ((k132 : Nat) : Int)), (68, .int .i64 ((x2).length : Int)), (69, .int .i64 ((k120 : Nat) : Int)), (73, .int .i64 ((x2).length : Int)), (74, .int .i64 ((k132 : Nat) : Int)), (78, .int .i64 ((x2).length : Int)), (79, .int .i64 ((k144 : Nat) : Int))] ∧ St w s (R)) (m := x2.length) ⟨x2, 0, rfl, rfl, hq142, hE.pick _ ⟨rfl, rfl, rfl, rfl, rfl, rfl, rfl, rfl, rfl, rfl, trivial⟩, hS⟩ ?_
                      clear hE hS a w hq142; rintro m150 a w ⟨rest146, k144, rfl, hd147, hq142, hE, hS⟩
                      refine W.gen fun K153 hK153 => ?_
                      rcases rest146 with _ | ⟨x145, rest146⟩
                      · have hlt148 := drop_nil hd147
                        refine W.seq ?_
                        refine W.region ?_
                        refine WL.vS hS hE (runs_plain rfl) (Gives.p hE rfl) rfl ?_; clear hE a; intro a hE
                        refine WL.nil ?_
                        refine W.seq ?_
                        refine W.condF hE rfl (decide_eq_false (by omega)) ?_
                        subst hK153
                        refine W.exit rfl ?_
                        exact ⟨Option.some.inj hq142, hE.pick _ ⟨rfl, rfl, rfl, rfl, rfl, rfl, rfl, trivial⟩, hS⟩
                      · obtain ⟨hlt148, hx149, hd147⟩ := drop_cons hd147
                        rw [Fishref2EmptyFault.loop6] at hq142
                        refine W.seq ?_
                        refine W.region ?_
                        refine WL.vS hS hE (runs_plain rfl) (Gives.p hE rfl) rfl ?_; clear hE a; intro a hE
                        refine WL.nil ?_
                        refine W.seq ?_
                        refine W.condT hE rfl (decide_eq_true (by omega)) ?_
                        refine W.skip ?_
                        refine W.seq ?_
                        refine W.block ?_
                        refine W.seq ?_
                        refine W.region ?_
                        refine WL.vS hS hE (runs_plain rfl) (Gives.p hE rfl) rfl ?_; clear hE a; intro a hE
                        refine WL.vS hS hE (runs_plain rfl) (Gives.p hE rfl) rfl ?_; clear hE a; intro a hE
                        refine WL.nil ?_
                        refine W.seq ?_
                        refine W.regionQ (C := fun w => St w s (R)) mixed (by kernel_rfl) hS.drew ?_
                        refine QL.v hE (runs_plain rfl) (Gives.p hE rfl) rfl ?_; clear hE a; intro a hE
                        refine QL.v hE (runs_plain rfl) (Gives.p hE rfl) rfl ?_; clear hE a; intro a hE
                        obtain ⟨cs154, hl155, hR156, hat157⟩ := h2.at hx125
                        obtain ⟨a158, c159, rfl, h160⟩ := hR156
                        refine QL.v hE (runs_plain rfl) (Gives.idx hE k120 rfl rfl sl25 rfl hlt124 (h2.aok hlt124)) rfl ?_; clear hE a; intro a hE
                        refine QL.v hE (runs_plain rfl) (Gives.load1 hE rfl (fun w h => hat157 w _ h) ty44) rfl ?_; clear hE a; intro a hE
                        refine QL.v hE (runs_plain rfl) (Gives.p hE rfl) rfl ?_; clear hE a; intro a hE
                        obtain ⟨x161, hx162, hq142⟩ := bindS hq142
                        obtain ⟨hi163, hlt164, hy165⟩ := gx_some hx162
                        obtain ⟨cs166, hl167, hR168, hat169⟩ := h160.at hy165
                        subst hR168
                        refine QL.v hE (runs_plain rfl) (Gives.idx hE (((k144 : Nat) : Int)).toNat rfl rfl sl44 hi163 hlt164 (h160.aok hlt164)) rfl ?_; clear hE a; intro a hE
                        refine QL.v hE (runs_plain rfl) (Gives.load1 hE rfl (fun w h => hat169 w _ h) ty3) rfl ?_; clear hE a; intro a hE
                        refine QL.v hE (runs_plain rfl) (Gives.p hE rfl) rfl ?_; clear hE a; intro a hE
                        refine QL.v hE (runs_plain rfl) (Gives.p hE rfl) rfl ?_; clear hE a; intro a hE
                        refine QL.v hE (runs_plain rfl) (Gives.idx hE k120 rfl rfl sl25 rfl hlt124 (h2.aok hlt124)) rfl ?_; clear hE a; intro a hE
                        refine QL.v hE (runs_plain rfl) (Gives.load1 hE rfl (fun w h => hat157 w _ h) ty44) rfl ?_; clear hE a; intro a hE
                        refine QL.v hE (runs_plain rfl) (Gives.p hE rfl) rfl ?_; clear hE a; intro a hE
                        obtain ⟨x170, hx171, hq142⟩ := bindS hq142
                        obtain ⟨hi172, hlt173, hy174⟩ := gx_some hx171
                        obtain ⟨cs175, hl176, hR177, hat178⟩ := h160.at hy174
                        subst hR177
                        refine QL.v hE (runs_plain rfl) (Gives.idx hE (((k132 : Nat) : Int)).toNat rfl rfl sl44 hi172 hlt173 (h160.aok hlt173)) rfl ?_; clear hE a; intro a hE
                        refine QL.v hE (runs_plain rfl) (Gives.load1 hE rfl (fun w h => hat178 w _ h) ty3) rfl ?_; clear hE a; intro a hE
                        refine QL.v hE (runs_plain rfl) (Gives.p hE rfl) rfl ?_; clear hE a; intro a hE
                        refine QL.v hE (runs_plain rfl) (Gives.p hE rfl) rfl ?_; clear hE a; intro a hE
                        obtain ⟨cs179, hl180, hR181, hat182⟩ := h2.at hx137
                        obtain ⟨a183, c184, rfl, h185⟩ := hR181
                        refine QL.v hE (runs_plain rfl) (Gives.idx hE k132 rfl rfl sl25 rfl hlt136 (h2.aok hlt136)) rfl ?_; clear hE a; intro a hE
                        refine QL.v hE (runs_plain rfl) (Gives.load1 hE rfl (fun w h => hat182 w _ h) ty44) rfl ?_; clear hE a; intro a hE
                        refine QL.v hE (runs_plain rfl) (Gives.p hE rfl) rfl ?_; clear hE a; intro a hE
                        obtain ⟨x186, hx187, hq142⟩ := bindS hq142
                        obtain ⟨hi188, hlt189, hy190⟩ := gx_some hx187
                        obtain ⟨cs191, hl192, hR193, hat194⟩ := h185.at hy190
                        subst hR193
                        refine QL.v hE (runs_plain rfl) (Gives.idx hE (((k144 : Nat) : Int)).toNat rfl rfl sl44 hi188 hlt189 (h185.aok hlt189)) rfl ?_; clear hE a; intro a hE
                        refine QL.v hE (runs_plain rfl) (Gives.load1 hE rfl (fun w h => hat194 w _ h) ty3) rfl ?_; clear hE a; intro a hE
                        refine QL.v hE (runs_plain rfl) (Gives.p hE rfl) rfl ?_; clear hE a; intro a hE
                        refine QL.v hE (runs_plain rfl) (Gives.p hE rfl) rfl ?_; clear hE a; intro a hE
                        refine QL.nil ?_; clear hS w; intro w hS
                        refine W.cond hE rfl (fun hc195 => ?_) (fun hc195 => ?_)
                        · replace hq142 := iteT hc195 hq142
                          refine W.seq ?_
                          refine W.region ?_
                          refine WL.vS hS hE (runs_plain rfl) (Gives.p hE rfl) rfl ?_; clear hE a; intro a hE
                          refine WL.nil ?_
                          refine W.ret ?_
                          subst hK153
                          subst hK141
                          subst hK129
                          rw [← Option.some.inj hq142] at hq130
                          dsimp only at hq130
                          rw [← Option.some.inj hq130] at hq118
                          dsimp only at hq118
                          rw [← Option.some.inj hq118] at hr
                          dsimp only at hr
                          refine finG (fn := Try.f22) (rs := [.tmp 6]) (vs := [_]) hE rfl ⟨rfl, trivial⟩ ?_
                          obtain rfl := Option.some.inj hr
                          exact ⟨rfl, hS⟩
                        · replace hq142 := iteF hc195 hq142
                          refine W.skip ?_
                          refine W.region ?_
                          refine WL.vS hS hE (runs_plain rfl) (Gives.inc hE rfl (by have := h2.small; omega)) rfl ?_; clear hE a; intro a hE
                          refine WL.vS hS hE (runs_plain rfl) (Gives.p hE rfl) rfl ?_; clear hE a; intro a hE
                          refine WL.nil ?_
                          subst hK153
                          exact ⟨rest146.length, Nat.lt_succ_self _, rest146, k144 + 1, rfl, hd147, hq142, hE.pick _ ⟨rfl, rfl, rfl, rfl, rfl, rfl, rfl, rfl, rfl, rfl, trivial⟩, hS⟩
                    · clear hE hS a w; rintro a w ⟨rfl, hE, hS⟩
                      dsimp only at hq130
                      refine W.region ?_
                      refine WL.vS hS hE (runs_plain rfl) (Gives.inc hE rfl (by have := h2.small; omega)) rfl ?_; clear hE a; intro a hE
                      refine WL.vS hS hE (runs_plain rfl) (Gives.p hE rfl) rfl ?_; clear hE a; intro a hE
                      refine WL.nil ?_
                      subst hK141
                      exact ⟨rest134.length, Nat.lt_succ_self _, rest134, k132 + 1, rfl, hd135, hq130, hE.pick _ ⟨rfl, rfl, rfl, rfl, rfl, rfl, rfl, trivial⟩, hS⟩
                · clear hE hS a w; rintro a w ⟨rfl, hE, hS⟩
                  dsimp only at hq118
                  refine W.region ?_
                  refine WL.vS hS hE (runs_plain rfl) (Gives.inc hE rfl (by have := h2.small; omega)) rfl ?_; clear hE a; intro a hE
                  refine WL.vS hS hE (runs_plain rfl) (Gives.p hE rfl) rfl ?_; clear hE a; intro a hE
                  refine WL.nil ?_
                  subst hK129
                  exact ⟨rest122.length, Nat.lt_succ_self _, rest122, k120 + 1, rfl, hd123, hq118, hE.pick _ ⟨rfl, rfl, rfl, rfl, trivial⟩, hS⟩
            · clear hE hS a w; rintro a w ⟨rfl, hE, hS⟩
              dsimp only at hr
              refine W.seq ?_
              refine W.seq ?_
              refine W.region ?_
              refine WL.vS hS hE (runs_plain rfl) (Gives.p hE rfl) rfl ?_; clear hE a; intro a hE
              refine WL.vS hS hE (runs_plain rfl) (Gives.len hE rfl sl32) rfl ?_; clear hE a; intro a hE
              refine WL.vS hS hE (runs_plain rfl) (Gives.p hE rfl) rfl ?_; clear hE a; intro a hE
              refine WL.nil ?_
              obtain ⟨q197, hq196, hr⟩ := bindS hr
              refine W.cut (fun a w => (.next ()) = q197 ∧ Rep a 130 [] ∧ St w s (R)) ?_ ?_
              · refine W.block ?_
                refine W.loop (fun m a w => ∃ (rest200 : List FleetTask) (k198 : Nat), rest200.length = m ∧ x0.drop k198 = rest200 ∧ Fishref2EmptyFault.loop7 x2 rest200 = some q197 ∧ Rep a 130 [(2, .slice a2 x2.length c2), (108, .slice a0 x0.length c0), (109, .int .i64 ((x0).length : Int)), (110, .int .i64 ((k198 : Nat) : Int))] ∧ St w s (R)) (m := x0.length) ⟨x0, 0, rfl, rfl, hq196, hE.pick _ ⟨rfl, rfl, rfl, rfl, trivial⟩, hS⟩ ?_
                clear hE hS a w hq196; rintro m204 a w ⟨rest200, k198, rfl, hd201, hq196, hE, hS⟩
                refine W.gen fun K207 hK207 => ?_
                rcases rest200 with _ | ⟨x199, rest200⟩
                · have hlt202 := drop_nil hd201
                  refine W.seq ?_
                  refine W.region ?_
                  refine WL.vS hS hE (runs_plain rfl) (Gives.p hE rfl) rfl ?_; clear hE a; intro a hE
                  refine WL.nil ?_
                  refine W.seq ?_
                  refine W.condF hE rfl (decide_eq_false (by omega)) ?_
                  subst hK207
                  refine W.exit rfl ?_
                  exact ⟨Option.some.inj hq196, hE.pick _ trivial, hS⟩
                · obtain ⟨hlt202, hx203, hd201⟩ := drop_cons hd201
                  rw [Fishref2EmptyFault.loop7] at hq196
                  refine W.seq ?_
                  refine W.region ?_
                  refine WL.vS hS hE (runs_plain rfl) (Gives.p hE rfl) rfl ?_; clear hE a; intro a hE
                  refine WL.nil ?_
                  refine W.seq ?_
                  refine W.condT hE rfl (decide_eq_true (by omega)) ?_
                  refine W.skip ?_
                  refine W.seq ?_
                  refine W.block ?_
                  refine W.seq ?_
                  refine W.region ?_
                  obtain ⟨cs208, hl209, hR210, hat211⟩ := h0.at hx203
                  subst hR210
                  refine WL.vS hS hE (runs_plain rfl) (Gives.idx hE k198 rfl rfl sl32 rfl hlt202 (h0.aok hlt202)) rfl ?_; clear hE a; intro a hE
                  refine WL.vS hS hE (runs_plain rfl) (Gives.loadA hE rfl (fun w h => hat211 w _ h) ty78) rfl ?_; clear hE a; intro a hE
                  refine WL.alloc hE hS (runs_plain rfl) zr78 rfl ?_; clear hE hS a w; intro b212 a w hE hS
                  refine WL.storeI hE hS 0 rfl (FleetTask.cells x199) (runs_plain rfl) rfl rfl rfl ty78 rfl rfl rfl rfl ?_; clear hE hS a w; intro a w hE hS
                  refine WL.nil ?_
                  refine W.seq ?_
                  refine W.regionQ (C := fun w => St w s (pt b212 (.cells (FleetTask.cells x199).toArray 78 (0, 0)) :: R)) mixed (by kernel_rfl) hS.drew ?_
                  refine QL.v hE (runs_plain rfl) (Gives.p hE rfl) rfl ?_; clear hE a; intro a hE
                  refine QL.v hE (runs_plain rfl) (Gives.fld hE rfl fl78_0) rfl ?_; clear hE a; intro a hE
                  refine QL.v hE (runs_plain rfl) (Gives.loadB hE 0 rfl rfl rfl ty3) rfl ?_; clear hE a; intro a hE
                  obtain ⟨x213, hx214, hq196⟩ := bindS hq196
                  obtain ⟨hi215, hlt216, hy217⟩ := gx_some hx214
                  obtain ⟨cs218, hl219, hR220, hat221⟩ := h2.at hy217
                  obtain ⟨a222, c223, rfl, h224⟩ := hR220
                  refine QL.v hE (runs_plain rfl) (Gives.idx hE (x199.From).toNat rfl rfl sl25 hi215 hlt216 (h2.aok hlt216)) rfl ?_; clear hE a; intro a hE
                  refine QL.v hE (runs_plain rfl) (Gives.load1 hE rfl (fun w h => hat221 w _ h) ty44) rfl ?_; clear hE a; intro a hE
                  refine QL.v hE (runs_plain rfl) (Gives.fld hE rfl fl78_1) rfl ?_; clear hE a; intro a hE
                  refine QL.v hE (runs_plain rfl) (Gives.loadB hE 0 rfl rfl rfl ty3) rfl ?_; clear hE a; intro a hE
                  obtain ⟨x225, hx226, hq196⟩ := bindS hq196
                  obtain ⟨hi227, hlt228, hy229⟩ := gx_some hx226
                  obtain ⟨cs230, hl231, hR232, hat233⟩ := h224.at hy229
                  subst hR232
                  refine QL.v hE (runs_plain rfl) (Gives.idx hE (x199.To).toNat rfl rfl sl44 hi227 hlt228 (h224.aok hlt228)) rfl ?_; clear hE a; intro a hE
                  refine QL.v hE (runs_plain rfl) (Gives.load1 hE rfl (fun w h => hat233 w _ h) ty3) rfl ?_; clear hE a; intro a hE
                  refine QL.v hE (runs_plain rfl) (Gives.fld hE rfl fl78_3) rfl ?_; clear hE a; intro a hE
                  refine QL.v hE (runs_plain rfl) (Gives.loadB hE 0 rfl rfl rfl ty3) rfl ?_; clear hE a; intro a hE
                  refine QL.v hE (runs_plain rfl) (Gives.fld hE rfl fl78_2) rfl ?_; clear hE a; intro a hE
                  refine QL.v hE (runs_plain rfl) (Gives.loadB hE 0 rfl rfl rfl ty3) rfl ?_; clear hE a; intro a hE
                  refine QL.v hE (runs_plain rfl) (Gives.p hE rfl) rfl ?_; clear hE a; intro a hE
                  refine QL.v hE (runs_plain rfl) (Gives.p hE rfl) rfl ?_; clear hE a; intro a hE
                  refine QL.nil ?_; clear hS w; intro w hS
                  refine W.cond hE rfl (fun hc234 => ?_) (fun hc234 => ?_)
                  · replace hq196 := iteT hc234 hq196
                    refine W.seq ?_
                    refine W.region ?_
                    refine WL.vS hS hE (runs_plain rfl) (Gives.p hE rfl) rfl ?_; clear hE a; intro a hE
                    refine WL.nil ?_
                    refine W.ret ?_
                    subst hK207
                    rw [← Option.some.inj hq196] at hr
                    dsimp only at hr
                    refine finG (fn := Try.f22) (rs := [.tmp 6]) (vs := [_]) hE rfl ⟨rfl, trivial⟩ ?_
                    obtain rfl := Option.some.inj hr
                    replace hS := hS.tail
                    exact ⟨rfl, hS⟩
                  · replace hq196 := iteF hc234 hq196
                    refine W.skip ?_
                    refine W.region ?_
                    refine WL.vS hS hE (runs_plain rfl) (Gives.inc hE rfl (by have := h0.small; omega)) rfl ?_; clear hE a; intro a hE
                    refine WL.vS hS hE (runs_plain rfl) (Gives.p hE rfl) rfl ?_; clear hE a; intro a hE
                    refine WL.nil ?_
                    replace hS := hS.tail
                    subst hK207
                    exact ⟨rest200.length, Nat.lt_succ_self _, rest200, k198 + 1, rfl, hd201, hq196, hE.pick _ ⟨rfl, rfl, rfl, rfl, trivial⟩, hS⟩
              · clear hE hS a w; rintro a w ⟨rfl, hE, hS⟩
                dsimp only at hr
                refine W.seq ?_
                refine W.region ?_
                refine WL.vS hS hE (runs_plain rfl) (Gives.p hE rfl) rfl ?_; clear hE a; intro a hE
                refine WL.nil ?_
                refine W.ret ?_
                refine finG (fn := Try.f22) (rs := [.tmp 6]) (vs := [_]) hE rfl ⟨rfl, trivial⟩ ?_
                obtain rfl := Option.some.inj hr
                exact ⟨rfl, hS⟩
set_option maxHeartbeats 8000000 in
theorem CmpisNaNint_ok  {w : World} {s : Sg} {R : List HP} {x0 : Int} (hS : St w s (R))  {r : Bool} (hr : CmpisNaNint x0 = r) :
    Calls Try.prog 130 [.int .i64 x0].toArray w (fun e w => e = .returned (.bool r) ∧ St w s (R)) := by
  refine enter Try.func130 rfl rfl rfl fun a hE => ?_
  rw [CmpisNaNint] at hr
  refine W.seq ?_
  refine W.region ?_
  refine WL.vS hS hE (runs_plain rfl) (Gives.p hE rfl) rfl ?_; clear hE a; intro a hE
  refine WL.nil ?_
  refine W.seq ?_
  refine W.region ?_
  refine WL.vS hS hE (runs_plain rfl) (Gives.p hE rfl) rfl ?_; clear hE a; intro a hE
  refine WL.vS hS hE (runs_plain rfl) (Gives.p hE rfl) rfl ?_; clear hE a; intro a hE
  refine WL.vS hS hE (runs_plain rfl) (Gives.p hE rfl) rfl ?_; clear hE a; intro a hE
  refine WL.vS hS hE (runs_plain rfl) (Gives.p hE rfl) rfl ?_; clear hE a; intro a hE
  refine WL.nil ?_
  refine W.ret ?_
  refine finG (fn := Try.f130) (rs := [.tmp 2]) (vs := [_]) hE rfl ⟨rfl, trivial⟩ ?_
  subst hr
  exact ⟨rfl, hS⟩
set_option maxHeartbeats 8000000 in
theorem CmpCompareint_ok  {w : World} {s : Sg} {R : List HP} {x0 : Int} {x1 : Int} (hS : St w s (R))  {r : Int} (hr : CmpCompareint x0 x1 = r) :
    Calls Try.prog 105 [.int .i64 x0, .int .i64 x1].toArray w (fun e w => e = .returned (.int .i64 r) ∧ St w s (R)) := by
  refine enter Try.func105 rfl rfl rfl fun a hE => ?_
  rw [CmpCompareint] at hr
  refine W.seq ?_
  refine W.region ?_
  refine WL.vS hS hE (runs_plain rfl) (Gives.p hE rfl) rfl ?_; clear hE a; intro a hE
  refine WL.nil ?_
  refine W.seq ?_
  refine W.region ?_
  refine WL.vS hS hE (runs_plain rfl) (Gives.p hE rfl) rfl ?_; clear hE a; intro a hE
  refine WL.fnq hE (CmpisNaNint_ok hS  rfl (r := CmpisNaNint x0)) (runs_plain rfl) bd130 rfl rfl rfl ?_
  clear hE hS; rintro e w ⟨rfl, hS⟩; refine ⟨_, rfl, ?_⟩; clear a; intro a hE
  refine WL.vS hS hE (runs_plain rfl) (Gives.p hE rfl) rfl ?_; clear hE a; intro a hE
  refine WL.nil ?_
  refine W.seq ?_
  refine W.region ?_
  refine WL.vS hS hE (runs_plain rfl) (Gives.p hE rfl) rfl ?_; clear hE a; intro a hE
  refine WL.fnq hE (CmpisNaNint_ok hS  rfl (r := CmpisNaNint x1)) (runs_plain rfl) bd130 rfl rfl rfl ?_
  clear hE hS; rintro e w ⟨rfl, hS⟩; refine ⟨_, rfl, ?_⟩; clear a; intro a hE
  refine WL.vS hS hE (runs_plain rfl) (Gives.p hE rfl) rfl ?_; clear hE a; intro a hE
  refine WL.nil ?_
  refine W.seq ?_
  refine W.seq ?_
  refine W.region ?_
  refine WL.vS hS hE (runs_plain rfl) (Gives.p hE rfl) rfl ?_; clear hE a; intro a hE
  refine WL.nil ?_
  refine W.cond hE rfl (fun hc51 => ?_) (fun hc51 => ?_)
  · replace hr := iteT hc51 hr
    refine W.seq ?_
    refine W.seq ?_
    refine W.region ?_
    refine WL.vS hS hE (runs_plain rfl) (Gives.p hE rfl) rfl ?_; clear hE a; intro a hE
    refine WL.nil ?_
    refine W.cond hE rfl (fun hc52 => ?_) (fun hc52 => ?_)
    · replace hr := iteT hc52 hr
      refine W.seq ?_
      refine W.region ?_
      refine WL.vS hS hE (runs_plain rfl) (Gives.p hE rfl) rfl ?_; clear hE a; intro a hE
      refine WL.nil ?_
      refine W.ret ?_
      refine finG (fn := Try.f105) (rs := [.tmp 4]) (vs := [_]) hE rfl ⟨rfl, trivial⟩ ?_
      subst hr
      exact ⟨rfl, hS⟩
    · replace hr := iteF hc52 hr
      refine W.skip ?_
      refine W.seq ?_
      refine W.region ?_
      refine WL.vS hS hE (runs_plain rfl) (Gives.p hE rfl) rfl ?_; clear hE a; intro a hE
      refine WL.nil ?_
      refine W.ret ?_
      refine finG (fn := Try.f105) (rs := [.tmp 4]) (vs := [_]) hE rfl ⟨rfl, trivial⟩ ?_
      subst hr
      exact ⟨rfl, hS⟩
  · replace hr := iteF hc51 hr
    refine W.skip ?_
    refine W.seq ?_
    refine W.seq ?_
    refine W.region ?_
    refine WL.vS hS hE (runs_plain rfl) (Gives.p hE rfl) rfl ?_; clear hE a; intro a hE
    refine WL.nil ?_
    refine W.cond hE rfl (fun hc53 => ?_) (fun hc53 => ?_)
    · replace hr := iteT hc53 hr
      refine W.seq ?_
      refine W.region ?_
      refine WL.vS hS hE (runs_plain rfl) (Gives.p hE rfl) rfl ?_; clear hE a; intro a hE
      refine WL.nil ?_
      refine W.ret ?_
      refine finG (fn := Try.f105) (rs := [.tmp 4]) (vs := [_]) hE rfl ⟨rfl, trivial⟩ ?_
      subst hr
      exact ⟨rfl, hS⟩
    · replace hr := iteF hc53 hr
      refine W.skip ?_
      refine W.seq ?_
      refine W.seq ?_
      refine W.region ?_
      refine WL.vS hS hE (runs_plain rfl) (Gives.p hE rfl) rfl ?_; clear hE a; intro a hE
      refine WL.vS hS hE (runs_plain rfl) (Gives.p hE rfl) rfl ?_; clear hE a; intro a hE
      refine WL.vS hS hE (runs_plain rfl) (Gives.p hE rfl) rfl ?_; clear hE a; intro a hE
      refine WL.nil ?_
      refine W.cond hE rfl (fun hc54 => ?_) (fun hc54 => ?_)
      · replace hr := iteT hc54 hr
        refine W.seq ?_
        refine W.region ?_
        refine WL.vS hS hE (runs_plain rfl) (Gives.p hE rfl) rfl ?_; clear hE a; intro a hE
        refine WL.nil ?_
        refine W.ret ?_
        refine finG (fn := Try.f105) (rs := [.tmp 4]) (vs := [_]) hE rfl ⟨rfl, trivial⟩ ?_
        subst hr
        exact ⟨rfl, hS⟩
      · replace hr := iteF hc54 hr
        refine W.skip ?_
        refine W.seq ?_
        refine W.seq ?_
        refine W.region ?_
        refine WL.vS hS hE (runs_plain rfl) (Gives.p hE rfl) rfl ?_; clear hE a; intro a hE
        refine WL.vS hS hE (runs_plain rfl) (Gives.p hE rfl) rfl ?_; clear hE a; intro a hE
        refine WL.vS hS hE (runs_plain rfl) (Gives.p hE rfl) rfl ?_; clear hE a; intro a hE
        refine WL.nil ?_
        refine W.cond hE rfl (fun hc55 => ?_) (fun hc55 => ?_)
        · replace hr := iteT hc55 hr
          refine W.seq ?_
          refine W.region ?_
          refine WL.vS hS hE (runs_plain rfl) (Gives.p hE rfl) rfl ?_; clear hE a; intro a hE
          refine WL.nil ?_
          refine W.ret ?_
          refine finG (fn := Try.f105) (rs := [.tmp 4]) (vs := [_]) hE rfl ⟨rfl, trivial⟩ ?_
          subst hr
          exact ⟨rfl, hS⟩
        · replace hr := iteF hc55 hr
          refine W.skip ?_
          refine W.seq ?_
          refine W.region ?_
          refine WL.vS hS hE (runs_plain rfl) (Gives.p hE rfl) rfl ?_; clear hE a; intro a hE
          refine WL.nil ?_
          refine W.ret ?_
          refine finG (fn := Try.f105) (rs := [.tmp 4]) (vs := [_]) hE rfl ⟨rfl, trivial⟩ ?_
          subst hr
          exact ⟨rfl, hS⟩
set_option maxHeartbeats 8000000 in
theorem Fleetorder_1_v1_ok  {w : World} {s : Sg} {R : List HP} {pb0 : Nat} {x0 : Int} {x1 : Int} {y0 : List FleetTask} {a_y0_0 : Option Addr} {c_y0_0 : Nat} (hS : St w s (pt pb0 (.cells #[.slice a_y0_0 y0.length c_y0_0] 32 (0, 0)) :: R)) (h_y0_0 : Sl 6 RFleetTask s a_y0_0 c_y0_0 y0) {r : Int} (hr : Fleetorder_1_v1 x0 x1 y0 = some r) :
    Calls Try.prog 104 [.int .i64 x0, .int .i64 x1, .pointer (some ⟨pb0, 0, none⟩)].toArray w (fun e w => e = .returned (.int .i64 r) ∧ St w s (pt pb0 (.cells #[.slice a_y0_0 y0.length c_y0_0] 32 (0, 0)) :: R)) := by
  refine enter Try.func104 rfl rfl rfl fun a hE => ?_
  rw [Fleetorder_1_v1] at hr
  refine W.seq ?_
  refine W.region ?_
  refine WL.vS hS hE (runs_plain rfl) (Gives.p hE rfl) rfl ?_; clear hE a; intro a hE
  refine WL.nil ?_
  refine W.seq ?_
  refine W.regionQ (C := fun w => St w s (pt pb0 (.cells #[.slice a_y0_0 y0.length c_y0_0] 32 (0, 0)) :: R)) mixed (by kernel_rfl) hS.drew ?_
  refine QL.v hE (runs_plain rfl) (Gives.loadB hE 0 rfl rfl rfl ty32) rfl ?_; clear hE a; intro a hE
  refine QL.v hE (runs_plain rfl) (Gives.p hE rfl) rfl ?_; clear hE a; intro a hE
  obtain ⟨x51, hx52, hr⟩ := bindS hr
  obtain ⟨hi53, hlt54, hy55⟩ := gx_some hx52
  obtain ⟨cs56, hl57, hR58, hat59⟩ := h_y0_0.at hy55
  subst hR58
  refine QL.v hE (runs_plain rfl) (Gives.idx hE (x0).toNat rfl rfl sl32 hi53 hlt54 (h_y0_0.aok hlt54)) rfl ?_; clear hE a; intro a hE
  refine QL.v hE (runs_plain rfl) (Gives.fld hE rfl fl78_2) rfl ?_; clear hE a; intro a hE
  refine QL.v hE (runs_plain rfl) (Gives.load1 hE rfl (fun w h => (hat59 w _ h).one rfl) ty3) rfl ?_; clear hE a; intro a hE
  refine QL.v hE (runs_plain rfl) (Gives.loadB hE 0 rfl rfl rfl ty32) rfl ?_; clear hE a; intro a hE
  refine QL.v hE (runs_plain rfl) (Gives.p hE rfl) rfl ?_; clear hE a; intro a hE
  obtain ⟨x60, hx61, hr⟩ := bindS hr
  obtain ⟨hi62, hlt63, hy64⟩ := gx_some hx61
  obtain ⟨cs65, hl66, hR67, hat68⟩ := h_y0_0.at hy64
  subst hR67
  refine QL.v hE (runs_plain rfl) (Gives.idx hE (x1).toNat rfl rfl sl32 hi62 hlt63 (h_y0_0.aok hlt63)) rfl ?_; clear hE a; intro a hE
  refine QL.v hE (runs_plain rfl) (Gives.fld hE rfl fl78_2) rfl ?_; clear hE a; intro a hE
  refine QL.v hE (runs_plain rfl) (Gives.load1 hE rfl (fun w h => (hat68 w _ h).one rfl) ty3) rfl ?_; clear hE a; intro a hE
  refine QL.fnq hE (fun w hS => CmpCompareint_ok hS  rfl (r := CmpCompareint x51.Dep x60.Dep)) (runs_plain rfl) bd105 rfl rfl rfl ?_; clear hE a; intro a hE
  refine QL.v hE (runs_plain rfl) (Gives.p hE rfl) rfl ?_; clear hE a; intro a hE
  refine QL.nil ?_; clear hS w; intro w hS
  refine W.ret ?_
  refine finG (fn := Try.f104) (rs := [.tmp 5]) (vs := [_]) hE rfl ⟨rfl, trivial⟩ ?_
  obtain rfl := Option.some.inj hr
  exact ⟨rfl, hS⟩
set_option maxHeartbeats 8000000 in
theorem SlicesinsertionSortCmpFuncint_v1_ok {fu : Nat}  {w : World} {s : Sg} {R : List HP} {pb0 : Nat} {x0 : List Int} {a_v0 : Option Addr} {c_v0 n_v0 : Nat} {cs_v0 : List Value} {x1 : Int} {x2 : Int} {y0 : List FleetTask} {a_y0_0 : Option Addr} {c_y0_0 : Nat} (hS : St w s (pt pb0 (.cells #[.slice a_y0_0 y0.length c_y0_0] 32 (0, 0)) :: vecC 3 1 a_v0 c_v0 n_v0 cs_v0 :: R)) (h_v0 : Ev 1 (RI .i64) s cs_v0 x0) (hn_v0 : x0.length = n_v0) (h_y0_0 : Sl 6 RFleetTask s a_y0_0 c_y0_0 y0) {r : (List Int)} (hr : SlicesinsertionSortCmpFuncint_v1 fu x0 x1 x2 y0 = some r) :
    Calls Try.prog 159 [.slice a_v0 n_v0 c_v0, .int .i64 x1, .int .i64 x2, .func (.func 104) #[] #[.pointer (some ⟨pb0, 0, none⟩)]].toArray w (fun e w => ∃ (cs55 : List Value), e = .returned (.tuple #[]) ∧ Ev 1 (RI .i64) s cs55 r ∧ r.length = n_v0 ∧ St w s (pt pb0 (.cells #[.slice a_y0_0 y0.length c_y0_0] 32 (0, 0)) :: vecC 3 1 a_v0 c_v0 n_v0 cs55 :: R)) := by
  refine enter Try.func159 rfl rfl rfl fun a hE => ?_
  rw [SlicesinsertionSortCmpFuncint_v1] at hr
  subst hn_v0
  refine W.seq ?_
  refine W.region ?_
  refine WL.vS hS hE (runs_plain rfl) (Gives.p hE rfl) rfl ?_; clear hE a; intro a hE
  refine WL.vS hS hE (runs_plain rfl) (Gives.p hE rfl) rfl ?_; clear hE a; intro a hE
  refine WL.vS hS hE (runs_plain rfl) (Gives.p hE rfl) rfl ?_; clear hE a; intro a hE
  refine WL.nil ?_
  obtain ⟨q58, hq57, hr⟩ := bindS hr
  refine W.cut (fun a w => ∃ (q63 : Int), ∃ (q64 : List Int), ∃ (cs68 : List Value), (q63, q64) = q58 ∧ Ev 1 (RI .i64) s cs68 q64 ∧ q64.length = x0.length ∧ Rep a 53 [] ∧ St w s (pt pb0 (.cells #[.slice a_y0_0 y0.length c_y0_0] 32 (0, 0)) :: vecC 3 1 a_v0 c_v0 x0.length cs68 :: R)) ?_ ?_
  · refine W.block ?_
    refine W.loop (fun m a w => ∃ (n59 : Nat), ∃ (q63 : Int), ∃ (q64 : List Int), ∃ (cs68 : List Value), n59 = m ∧ SlicesinsertionSortCmpFuncint_v1.loop1 x1 x2 y0 fu n59 q63 q64 = some q58 ∧ Ev 1 (RI .i64) s cs68 q64 ∧ q64.length = x0.length ∧ Rep a 53 [(0, .slice a_v0 x0.length c_v0), (1, .int .i64 x1), (2, .int .i64 x2), (3, .func (.func 104) #[] #[.pointer (some ⟨pb0, 0, none⟩)]), (8, .int .i64 q63)] ∧ St w s (pt pb0 (.cells #[.slice a_y0_0 y0.length c_y0_0] 32 (0, 0)) :: vecC 3 1 a_v0 c_v0 x0.length cs68 :: R)) (m := fu) ⟨fu, (w64 (x1 + 1)), x0, cs_v0, rfl, hq57, h_v0, (rfl), hE.pick _ ⟨rfl, rfl, rfl, rfl, rfl, trivial⟩, hS⟩ ?_
    clear hE hS a w hq57; rintro m60 a w ⟨n59, q63, q64, cs68, rfl, hq57, h67, hn69, hE, hS⟩
    refine W.gen fun K70 hK70 => ?_
    rcases n59 with _ | n59
    · rw [SlicesinsertionSortCmpFuncint_v1.loop1] at hq57; exact absurd hq57 (by simp)
    rw [SlicesinsertionSortCmpFuncint_v1.loop1] at hq57
    refine W.seq ?_
    refine W.seq ?_
    refine W.region ?_
    refine WL.vS hS hE (runs_plain rfl) (Gives.p hE rfl) rfl ?_; clear hE a; intro a hE
    refine WL.vS hS hE (runs_plain rfl) (Gives.p hE rfl) rfl ?_; clear hE a; intro a hE
    refine WL.vS hS hE (runs_plain rfl) (Gives.p hE rfl) rfl ?_; clear hE a; intro a hE
    refine WL.nil ?_
    refine W.cond hE rfl (fun hc71 => ?_) (fun hc71 => ?_)
    · replace hq57 := iteT hc71 hq57
      refine W.skip ?_
      refine W.seq ?_
      refine W.block ?_
      refine W.seq ?_
      refine W.region ?_
      refine WL.vS hS hE (runs_plain rfl) (Gives.p hE rfl) rfl ?_; clear hE a; intro a hE
      refine WL.vS hS hE (runs_plain rfl) (Gives.p hE rfl) rfl ?_; clear hE a; intro a hE
      refine WL.nil ?_
      obtain ⟨q73, hq72, hq57⟩ := bindS hq57
      refine W.cut (fun a w => ∃ (q78 : Int), ∃ (q79 : List Int), ∃ (cs83 : List Value), (q78, q79) = q73 ∧ Ev 1 (RI .i64) s cs83 q79 ∧ q79.length = x0.length ∧ Rep a 53 [(0, .slice a_v0 x0.length c_v0), (1, .int .i64 x1), (2, .int .i64 x2), (3, .func (.func 104) #[] #[.pointer (some ⟨pb0, 0, none⟩)]), (8, .int .i64 q63)] ∧ St w s (pt pb0 (.cells #[.slice a_y0_0 y0.length c_y0_0] 32 (0, 0)) :: vecC 3 1 a_v0 c_v0 x0.length cs83 :: R)) ?_ ?_
      · refine W.block ?_
        refine W.loop (fun m a w => ∃ (n74 : Nat), ∃ (q78 : Int), ∃ (q79 : List Int), ∃ (cs83 : List Value), n74 = m ∧ SlicesinsertionSortCmpFuncint_v1.loop2 x1 y0 n74 q78 q79 = some q73 ∧ Ev 1 (RI .i64) s cs83 q79 ∧ q79.length = x0.length ∧ Rep a 53 [(0, .slice a_v0 x0.length c_v0), (1, .int .i64 x1), (2, .int .i64 x2), (3, .func (.func 104) #[] #[.pointer (some ⟨pb0, 0, none⟩)]), (8, .int .i64 q63), (9, .int .i64 q78)] ∧ St w s (pt pb0 (.cells #[.slice a_y0_0 y0.length c_y0_0] 32 (0, 0)) :: vecC 3 1 a_v0 c_v0 x0.length cs83 :: R)) (m := fu) ⟨fu, q63, q64, cs68, rfl, hq72, h67, hn69, hE.pick _ ⟨rfl, rfl, rfl, rfl, rfl, rfl, trivial⟩, hS⟩ ?_
        clear hE hS a w hq72; rintro m75 a w ⟨n74, q78, q79, cs83, rfl, hq72, h82, hn84, hE, hS⟩
        refine W.gen fun K85 hK85 => ?_
        rcases n74 with _ | n74
        · rw [SlicesinsertionSortCmpFuncint_v1.loop2] at hq72; exact absurd hq72 (by simp)
        rw [SlicesinsertionSortCmpFuncint_v1.loop2] at hq72
        refine W.seq ?_
        refine W.seq ?_
        obtain ⟨q87, hq86, hq72⟩ := bindS hq72
        refine W.cut (fun a w => ∃ (q90 : Bool), q90 = q87 ∧ Rep a 53 [(0, .slice a_v0 x0.length c_v0), (1, .int .i64 x1), (2, .int .i64 x2), (3, .func (.func 104) #[] #[.pointer (some ⟨pb0, 0, none⟩)]), (8, .int .i64 q63), (9, .int .i64 q78), (34, .bool q90)] ∧ St w s (pt pb0 (.cells #[.slice a_y0_0 y0.length c_y0_0] 32 (0, 0)) :: vecC 3 1 a_v0 c_v0 x0.length cs83 :: R)) ?_ ?_
        · refine W.gen fun K91 hK91 => ?_
          refine W.regionQ (C := fun w => St w s (pt pb0 (.cells #[.slice a_y0_0 y0.length c_y0_0] 32 (0, 0)) :: vecC 3 1 a_v0 c_v0 x0.length cs83 :: R)) mixed (by kernel_rfl) hS.drew ?_
          refine QL.v hE (runs_plain rfl) (Gives.p hE rfl) rfl ?_; clear hE a; intro a hE
          refine QL.v hE (runs_plain rfl) (Gives.p hE rfl) rfl ?_; clear hE a; intro a hE
          refine QL.v hE (runs_plain rfl) (Gives.p hE rfl) rfl ?_; clear hE a; intro a hE
          refine QL.v hE (runs_plain rfl) (Gives.p hE rfl) rfl ?_; clear hE a; intro a hE
          rcases Bool.eq_false_or_eq_true (decide (q78 > x1)) with hg92 | hg92
          · replace hq86 := iteT hg92 hq86
            refine QL.v hE (runs_if hE rfl rfl rfl hg92) (Gives.p hE rfl) rfl ?_; clear hE a; intro a hE
            refine QL.v hE (runs_if hE rfl rfl rfl hg92) (Gives.p hE rfl) rfl ?_; clear hE a; intro a hE
            refine QL.v hE (runs_if hE rfl rfl rfl hg92) (Gives.p hE rfl) rfl ?_; clear hE a; intro a hE
            obtain ⟨x93, hx94, hq86⟩ := bindS hq86
            obtain ⟨hi95, hlt96, hy97⟩ := gx_some hx94
            obtain ⟨vs98, hl99, hR100, hd101, hget102⟩ := h82.at hy97
            subst hR100
            refine QL.v hE (runs_if hE rfl rfl rfl hg92) (Gives.idx hE ((q78).toNat) rfl rfl sl44 hi95 (by have := hn84; omega) (hS.vecAok 1 rfl (by have := hn84; omega : (q78).toNat < x0.length))) rfl ?_; clear hE a; intro a hE
            refine QL.v hE (runs_if hE rfl rfl rfl hg92) (Gives.load1 hE rfl (fun w h => St.vecSees h 1 rfl ((q78).toNat * 1) _ hget102) ty3) rfl ?_; clear hE a; intro a hE
            refine QL.v hE (runs_if hE rfl rfl rfl hg92) (Gives.p hE rfl) rfl ?_; clear hE a; intro a hE
            refine QL.v hE (runs_if hE rfl rfl rfl hg92) (Gives.p hE rfl) rfl ?_; clear hE a; intro a hE
            refine QL.v hE (runs_if hE rfl rfl rfl hg92) (Gives.p hE rfl) rfl ?_; clear hE a; intro a hE
            obtain ⟨x103, hx104, hq86⟩ := bindS hq86
            obtain ⟨hi105, hlt106, hy107⟩ := gx_some hx104
            obtain ⟨vs108, hl109, hR110, hd111, hget112⟩ := h82.at hy107
            subst hR110
            refine QL.v hE (runs_if hE rfl rfl rfl hg92) (Gives.idx hE ((w64 (q78 - 1)).toNat) rfl rfl sl44 hi105 (by have := hn84; omega) (hS.vecAok 1 rfl (by have := hn84; omega : (w64 (q78 - 1)).toNat < x0.length))) rfl ?_; clear hE a; intro a hE
            refine QL.v hE (runs_if hE rfl rfl rfl hg92) (Gives.load1 hE rfl (fun w h => St.vecSees h 1 rfl ((w64 (q78 - 1)).toNat * 1) _ hget112) ty3) rfl ?_; clear hE a; intro a hE
            obtain ⟨q113, hq114, hq86⟩ := bindS hq86
            refine QL.fnw hE (fun w hS => Fleetorder_1_v1_ok hS h_y0_0 hq114) rfl (runs_if hE rfl rfl rfl hg92) bd104 rfl rfl rfl ?_; clear hE a; intro a hE
            refine QL.v hE (runs_if hE rfl rfl rfl hg92) (Gives.p hE rfl) rfl ?_; clear hE a; intro a hE
            refine QL.v hE (runs_plain rfl) (Gives.pickT hE rfl hg92 rfl) rfl ?_; clear hE a; intro a hE
            refine QL.nil ?_; clear hS w; intro w hS
            subst hK91
            exact ⟨decide (q113 < 0), Option.some.inj hq86, hE.pick _ ⟨rfl, rfl, rfl, rfl, rfl, rfl, rfl, trivial⟩, hS⟩
          · replace hq86 := iteF hg92 hq86
            refine QL.no hE (runs_not hE rfl rfl rfl (by rw [hg92]; decide)) rfl ?_; clear hE a; intro a hE
            refine QL.no hE (runs_not hE rfl rfl rfl (by rw [hg92]; decide)) rfl ?_; clear hE a; intro a hE
            refine QL.no hE (runs_not hE rfl rfl rfl (by rw [hg92]; decide)) rfl ?_; clear hE a; intro a hE
            refine QL.no hE (runs_not hE rfl rfl rfl (by rw [hg92]; decide)) rfl ?_; clear hE a; intro a hE
            refine QL.no hE (runs_not hE rfl rfl rfl (by rw [hg92]; decide)) rfl ?_; clear hE a; intro a hE
            refine QL.no hE (runs_not hE rfl rfl rfl (by rw [hg92]; decide)) rfl ?_; clear hE a; intro a hE
            refine QL.no hE (runs_not hE rfl rfl rfl (by rw [hg92]; decide)) rfl ?_; clear hE a; intro a hE
            refine QL.no hE (runs_not hE rfl rfl rfl (by rw [hg92]; decide)) rfl ?_; clear hE a; intro a hE
            refine QL.no hE (runs_not hE rfl rfl rfl (by rw [hg92]; decide)) rfl ?_; clear hE a; intro a hE
            refine QL.no hE (runs_not hE rfl rfl rfl (by rw [hg92]; decide)) rfl ?_; clear hE a; intro a hE
            refine QL.no hE (runs_not hE rfl rfl rfl (by rw [hg92]; decide)) rfl ?_; clear hE a; intro a hE
            refine QL.no hE (runs_not hE rfl rfl rfl (by rw [hg92]; decide)) rfl ?_; clear hE a; intro a hE
            refine QL.v hE (runs_plain rfl) (Gives.pickF hE rfl hg92 rfl) rfl ?_; clear hE a; intro a hE
            refine QL.nil ?_; clear hS w; intro w hS
            subst hK91
            exact ⟨false, Option.some.inj hq86, hE.pick _ ⟨rfl, rfl, rfl, rfl, rfl, rfl, rfl, trivial⟩, hS⟩
        · clear hE hS a w; rintro a w ⟨q90, rfl, hE, hS⟩
          refine W.cond hE rfl (fun hc115 => ?_) (fun hc115 => ?_)
          · replace hq72 := iteT hc115 hq72
            refine W.skip ?_
            refine W.seq ?_
            refine W.block ?_
            refine W.gen fun K116 hK116 => ?_
            refine W.regionE (sel (fun w => St w s (pt pb0 (.cells #[.slice a_y0_0 y0.length c_y0_0] 32 (0, 0)) :: vecC 3 1 a_v0 c_v0 x0.length cs83 :: R)) (fun w => St w s (pt pb0 (.cells #[.slice a_y0_0 y0.length c_y0_0] 32 (0, 0)) :: R))) (fun b i => cond b ([0, 1, 2, 3, 4, 5, 6, 7, 8, 9, 10, 11, 12, 13, 14, 16].contains i) ([0, 1, 2, 3, 4, 5, 6, 7, 8, 9, 10, 11, 12, 13, 14, 15, 16, 17].contains i)) mixed ?_
            replace hS := hS.drew
            refine Rg.takeP (i := 0) hE rfl (by kernel_rfl) (runs_plain rfl) (Gives.p hE rfl) rfl (tw_sel (fun _ => hS) (fun _ => (hS.dropAt 1))) ?_; clear hE a; intro a hE
            refine Rg.takeP (i := 1) hE rfl (by kernel_rfl) (runs_plain rfl) (Gives.p hE rfl) rfl (tw_sel (fun _ => hS) (fun _ => (hS.dropAt 1))) ?_; clear hE a; intro a hE
            refine Rg.takeP (i := 2) hE rfl (by kernel_rfl) (runs_plain rfl) (Gives.p hE rfl) rfl (tw_sel (fun _ => hS) (fun _ => (hS.dropAt 1))) ?_; clear hE a; intro a hE
            refine Rg.takeP (i := 3) hE rfl (by kernel_rfl) (runs_plain rfl) (Gives.p hE rfl) rfl (tw_sel (fun _ => hS) (fun _ => (hS.dropAt 1))) ?_; clear hE a; intro a hE
            refine Rg.takeP (i := 4) hE rfl (by kernel_rfl) (runs_plain rfl) (Gives.p hE rfl) rfl (tw_sel (fun _ => hS) (fun _ => (hS.dropAt 1))) ?_; clear hE a; intro a hE
            refine Rg.takeP (i := 5) hE rfl (by kernel_rfl) (runs_plain rfl) (Gives.p hE rfl) rfl (tw_sel (fun _ => hS) (fun _ => (hS.dropAt 1))) ?_; clear hE a; intro a hE
            refine Rg.takeP (i := 6) hE rfl (by kernel_rfl) (runs_plain rfl) (Gives.p hE rfl) rfl (tw_sel (fun _ => hS) (fun _ => (hS.dropAt 1))) ?_; clear hE a; intro a hE
            refine Rg.takeP (i := 7) hE rfl (by kernel_rfl) (runs_plain rfl) (Gives.p hE rfl) rfl (tw_sel (fun _ => hS) (fun _ => (hS.dropAt 1))) ?_; clear hE a; intro a hE
            obtain ⟨x117, hx118, hq72⟩ := bindS hq72
            obtain ⟨hi119, hlt120, hy121⟩ := gx_some hx118
            obtain ⟨vs122, hl123, hR124, hd125, hget126⟩ := h82.at hy121
            subst hR124
            refine Rg.takeP (i := 8) hE rfl (by kernel_rfl) (runs_plain rfl) (Gives.idx hE ((w64 (q78 - 1)).toNat) rfl rfl sl44 hi119 (by have := hn84; omega) (hS.vecAok 1 rfl (by have := hn84; omega : (w64 (q78 - 1)).toNat < x0.length))) rfl (tw_sel (fun _ => hS) (fun _ => (hS.dropAt 1))) ?_; clear hE a; intro a hE
            have hT := tw_sel (A := fun w => St w s (pt pb0 (.cells #[.slice a_y0_0 y0.length c_y0_0] 32 (0, 0)) :: vecC 3 1 a_v0 c_v0 x0.length cs83 :: R)) (B := fun w => St w s (pt pb0 (.cells #[.slice a_y0_0 y0.length c_y0_0] 32 (0, 0)) :: R)) (w := _) (x := true) (y := true) (fun _ => hS) (fun _ => (hS.dropAt 1))
            have hF := hS; replace hS := hS
            refine Rg.take (i := 9) true rfl hE rfl (by kernel_rfl) (runs_plain rfl) (Gives.load1 hE rfl (fun w h => St.vecSees h 1 rfl ((w64 (q78 - 1)).toNat * 1) _ hget126) ty3) rfl hT ?_; clear hE a; intro a hE
            replace hS := hF; clear hF hT
            refine Rg.takeP (i := 10) hE rfl (by kernel_rfl) (runs_plain rfl) (Gives.p hE rfl) rfl (tw_sel (fun _ => hS) (fun _ => (hS.dropAt 1))) ?_; clear hE a; intro a hE
            refine Rg.takeP (i := 11) hE rfl (by kernel_rfl) (runs_plain rfl) (Gives.p hE rfl) rfl (tw_sel (fun _ => hS) (fun _ => (hS.dropAt 1))) ?_; clear hE a; intro a hE
            obtain ⟨x127, hx128, hq72⟩ := bindS hq72
            obtain ⟨hi129, hlt130, hy131⟩ := gx_some hx128
            obtain ⟨vs132, hl133, hR134, hd135, hget136⟩ := h82.at hy131
            subst hR134
            refine Rg.takeP (i := 12) hE rfl (by kernel_rfl) (runs_plain rfl) (Gives.idx hE ((q78).toNat) rfl rfl sl44 hi129 (by have := hn84; omega) (hS.vecAok 1 rfl (by have := hn84; omega : (q78).toNat < x0.length))) rfl (tw_sel (fun _ => hS) (fun _ => (hS.dropAt 1))) ?_; clear hE a; intro a hE
            have hT := tw_sel (A := fun w => St w s (pt pb0 (.cells #[.slice a_y0_0 y0.length c_y0_0] 32 (0, 0)) :: vecC 3 1 a_v0 c_v0 x0.length cs83 :: R)) (B := fun w => St w s (pt pb0 (.cells #[.slice a_y0_0 y0.length c_y0_0] 32 (0, 0)) :: R)) (w := _) (x := true) (y := true) (fun _ => hS) (fun _ => (hS.dropAt 1))
            have hF := hS; replace hS := hS
            refine Rg.take (i := 13) true rfl hE rfl (by kernel_rfl) (runs_plain rfl) (Gives.load1 hE rfl (fun w h => St.vecSees h 1 rfl ((q78).toNat * 1) _ hget136) ty3) rfl hT ?_; clear hE a; intro a hE
            replace hS := hF; clear hF hT
            obtain ⟨_, hx138, hq72⟩ := bindS hq72
            obtain ⟨h139, h140⟩ := ix_some hx138
            refine Rg.takeP (i := 14) hE rfl (by kernel_rfl) (runs_plain rfl) (Gives.idx hE ((q78).toNat) rfl rfl sl44 h139 (by have := hn84; omega) (hS.vecAok 1 rfl (by have := hn84; omega : (q78).toNat < x0.length))) rfl (tw_sel (fun _ => hS) (fun _ => (hS.dropAt 1))) ?_; clear hE a; intro a hE
            refine Rg.one (i := 15) false true rfl (by kernel_rfl) (by kernel_rfl) (by kernel_rfl) ?_
            obtain ⟨x142, hx143, hq72⟩ := bindS hq72
            refine WL.setD hE hS 1 rfl (runs_plain rfl) rfl rfl (vs := [.int .i64 x117]) rfl ty3 rfl rfl rfl h82 hn84 (sx_some hx143).1 hx143 rfl rfl ?_; clear hE hS a w; intro cs144 a w h145 hn146 hE hS
            refine WL.nil ?_
            refine ⟨⟨fun h => absurd h (by decide), fun _ => (hS.dropAt 1)⟩, ?_⟩
            obtain ⟨_, hx148, hq72⟩ := bindS hq72
            obtain ⟨h149, h150⟩ := ix_some hx148
            refine Rg.takeP (i := 16) hE rfl (by kernel_rfl) (runs_plain rfl) (Gives.idx hE ((w64 (q78 - 1)).toNat) rfl rfl sl44 h149 (by have := hn146; omega) (hS.vecAok 1 rfl (by have := hn146; omega : (w64 (q78 - 1)).toNat < x0.length))) rfl (tw_sel (fun h => absurd h (by decide)) (fun _ => (hS.dropAt 1))) ?_; clear hE a; intro a hE
            refine Rg.one (i := 17) false true rfl (by kernel_rfl) (by kernel_rfl) (by kernel_rfl) ?_
            obtain ⟨x152, hx153, hq72⟩ := bindS hq72
            refine WL.setD hE hS 1 rfl (runs_plain rfl) rfl rfl (vs := [.int .i64 x127]) rfl ty3 rfl rfl rfl h145 hn146 (sx_some hx153).1 hx153 rfl rfl ?_; clear hE hS a w; intro cs154 a w h155 hn156 hE hS
            refine WL.nil ?_
            refine ⟨⟨fun h => absurd h (by decide), fun _ => (hS.dropAt 1)⟩, ?_⟩
            refine Rg.done (by kernel_rfl) ?_
            subst hK116
            refine W.region ?_
            refine WL.vS hS hE (runs_plain rfl) (Gives.p hE rfl) rfl ?_; clear hE a; intro a hE
            refine WL.vS hS hE (runs_plain rfl) (Gives.p hE rfl) rfl ?_; clear hE a; intro a hE
            refine WL.vS hS hE (runs_plain rfl) (Gives.p hE rfl) rfl ?_; clear hE a; intro a hE
            refine WL.nil ?_
            subst hK85
            exact ⟨n74, Nat.lt_succ_self _, n74, (w64 (q78 - 1)), x152, cs154, rfl, hq72, h155, hn156, hE.pick _ ⟨rfl, rfl, rfl, rfl, rfl, rfl, trivial⟩, hS⟩
          · replace hq72 := iteF hc115 hq72
            subst hK85
            refine W.exit rfl ?_
            exact ⟨q78, q79, cs83, Option.some.inj hq72, h82, hn84, hE.pick _ ⟨rfl, rfl, rfl, rfl, rfl, trivial⟩, hS⟩
      · clear hE hS a w; rintro a w ⟨q78, q79, cs83, rfl, h82, hn84, hE, hS⟩
        dsimp only at hq57
        refine W.region ?_
        refine WL.vS hS hE (runs_plain rfl) (Gives.p hE rfl) rfl ?_; clear hE a; intro a hE
        refine WL.vS hS hE (runs_plain rfl) (Gives.p hE rfl) rfl ?_; clear hE a; intro a hE
        refine WL.vS hS hE (runs_plain rfl) (Gives.p hE rfl) rfl ?_; clear hE a; intro a hE
        refine WL.nil ?_
        subst hK70
        exact ⟨n59, Nat.lt_succ_self _, n59, (w64 (q63 + 1)), q79, cs83, rfl, hq57, h82, hn84, hE.pick _ ⟨rfl, rfl, rfl, rfl, rfl, trivial⟩, hS⟩
    · replace hq57 := iteF hc71 hq57
      subst hK70
      refine W.exit rfl ?_
      exact ⟨q63, q64, cs68, Option.some.inj hq57, h67, hn69, hE.pick _ trivial, hS⟩
  · clear hE hS a w; rintro a w ⟨q63, q64, cs68, rfl, h67, hn69, hE, hS⟩
    dsimp only at hr
    refine finG (fn := Try.f159) (rs := []) (vs := []) hE rfl trivial ?_
    obtain rfl := Option.some.inj hr
    exact ⟨cs68, rfl, h67, hn69, hS⟩
set_option maxHeartbeats 8000000 in
theorem SlicesswapRangeCmpFuncint_v1_ok {fu : Nat}  {w : World} {s : Sg} {R : List HP} {pb0 : Nat} {x0 : List Int} {a_v0 : Option Addr} {c_v0 n_v0 : Nat} {cs_v0 : List Value} {x1 : Int} {x2 : Int} {x3 : Int} {y0 : List FleetTask} {a_y0_0 : Option Addr} {c_y0_0 : Nat} (hS : St w s (pt pb0 (.cells #[.slice a_y0_0 y0.length c_y0_0] 32 (0, 0)) :: vecC 3 1 a_v0 c_v0 n_v0 cs_v0 :: R)) (h_v0 : Ev 1 (RI .i64) s cs_v0 x0) (hn_v0 : x0.length = n_v0) (_h_y0_0 : Sl 6 RFleetTask s a_y0_0 c_y0_0 y0) {r : (List Int)} (hr : SlicesswapRangeCmpFuncint_v1 fu x0 x1 x2 x3 y0 = some r) :
    Calls Try.prog 196 [.slice a_v0 n_v0 c_v0, .int .i64 x1, .int .i64 x2, .int .i64 x3, .func (.func 104) #[] #[.pointer (some ⟨pb0, 0, none⟩)]].toArray w (fun e w => ∃ (cs55 : List Value), e = .returned (.tuple #[]) ∧ Ev 1 (RI .i64) s cs55 r ∧ r.length = n_v0 ∧ St w s (pt pb0 (.cells #[.slice a_y0_0 y0.length c_y0_0] 32 (0, 0)) :: vecC 3 1 a_v0 c_v0 n_v0 cs55 :: R)) := by
  refine enter Try.func196 rfl rfl rfl fun a hE => ?_
  rw [SlicesswapRangeCmpFuncint_v1] at hr
  subst hn_v0
  refine W.seq ?_
  refine W.region ?_
  refine WL.vS hS hE (runs_plain rfl) (Gives.p hE rfl) rfl ?_; clear hE a; intro a hE
  refine WL.nil ?_
  obtain ⟨q58, hq57, hr⟩ := bindS hr
  refine W.cut (fun a w => ∃ (q63 : Int), ∃ (q64 : List Int), ∃ (cs68 : List Value), (q63, q64) = q58 ∧ Ev 1 (RI .i64) s cs68 q64 ∧ q64.length = x0.length ∧ Rep a 38 [] ∧ St w s (pt pb0 (.cells #[.slice a_y0_0 y0.length c_y0_0] 32 (0, 0)) :: vecC 3 1 a_v0 c_v0 x0.length cs68 :: R)) ?_ ?_
  · refine W.block ?_
    refine W.loop (fun m a w => ∃ (n59 : Nat), ∃ (q63 : Int), ∃ (q64 : List Int), ∃ (cs68 : List Value), n59 = m ∧ SlicesswapRangeCmpFuncint_v1.loop1 x1 x2 x3 n59 q63 q64 = some q58 ∧ Ev 1 (RI .i64) s cs68 q64 ∧ q64.length = x0.length ∧ Rep a 38 [(0, .slice a_v0 x0.length c_v0), (1, .int .i64 x1), (2, .int .i64 x2), (3, .int .i64 x3), (10, .int .i64 q63)] ∧ St w s (pt pb0 (.cells #[.slice a_y0_0 y0.length c_y0_0] 32 (0, 0)) :: vecC 3 1 a_v0 c_v0 x0.length cs68 :: R)) (m := fu) ⟨fu, 0, x0, cs_v0, rfl, hq57, h_v0, (rfl), hE.pick _ ⟨rfl, rfl, rfl, rfl, rfl, trivial⟩, hS⟩ ?_
    clear hE hS a w hq57; rintro m60 a w ⟨n59, q63, q64, cs68, rfl, hq57, h67, hn69, hE, hS⟩
    refine W.gen fun K70 hK70 => ?_
    rcases n59 with _ | n59
    · rw [SlicesswapRangeCmpFuncint_v1.loop1] at hq57; exact absurd hq57 (by simp)
    rw [SlicesswapRangeCmpFuncint_v1.loop1] at hq57
    refine W.seq ?_
    refine W.seq ?_
    refine W.region ?_
    refine WL.vS hS hE (runs_plain rfl) (Gives.p hE rfl) rfl ?_; clear hE a; intro a hE
    refine WL.vS hS hE (runs_plain rfl) (Gives.p hE rfl) rfl ?_; clear hE a; intro a hE
    refine WL.vS hS hE (runs_plain rfl) (Gives.p hE rfl) rfl ?_; clear hE a; intro a hE
    refine WL.nil ?_
    refine W.cond hE rfl (fun hc71 => ?_) (fun hc71 => ?_)
    · replace hq57 := iteT hc71 hq57
      refine W.skip ?_
      refine W.seq ?_
      refine W.block ?_
      refine W.gen fun K72 hK72 => ?_
      refine W.regionE (sel (fun w => St w s (pt pb0 (.cells #[.slice a_y0_0 y0.length c_y0_0] 32 (0, 0)) :: vecC 3 1 a_v0 c_v0 x0.length cs68 :: R)) (fun w => St w s (pt pb0 (.cells #[.slice a_y0_0 y0.length c_y0_0] 32 (0, 0)) :: R))) (fun b i => cond b ([0, 1, 2, 3, 4, 5, 6, 7, 8, 9, 10, 11, 12, 13, 14, 15, 16, 17, 18, 19, 20, 22].contains i) ([0, 1, 2, 3, 4, 5, 6, 7, 8, 9, 10, 11, 12, 13, 14, 15, 16, 17, 18, 19, 20, 21, 22, 23].contains i)) mixed ?_
      replace hS := hS.drew
      refine Rg.takeP (i := 0) hE rfl (by kernel_rfl) (runs_plain rfl) (Gives.p hE rfl) rfl (tw_sel (fun _ => hS) (fun _ => (hS.dropAt 1))) ?_; clear hE a; intro a hE
      refine Rg.takeP (i := 1) hE rfl (by kernel_rfl) (runs_plain rfl) (Gives.p hE rfl) rfl (tw_sel (fun _ => hS) (fun _ => (hS.dropAt 1))) ?_; clear hE a; intro a hE
      refine Rg.takeP (i := 2) hE rfl (by kernel_rfl) (runs_plain rfl) (Gives.p hE rfl) rfl (tw_sel (fun _ => hS) (fun _ => (hS.dropAt 1))) ?_; clear hE a; intro a hE
      refine Rg.takeP (i := 3) hE rfl (by kernel_rfl) (runs_plain rfl) (Gives.p hE rfl) rfl (tw_sel (fun _ => hS) (fun _ => (hS.dropAt 1))) ?_; clear hE a; intro a hE
      refine Rg.takeP (i := 4) hE rfl (by kernel_rfl) (runs_plain rfl) (Gives.p hE rfl) rfl (tw_sel (fun _ => hS) (fun _ => (hS.dropAt 1))) ?_; clear hE a; intro a hE
      refine Rg.takeP (i := 5) hE rfl (by kernel_rfl) (runs_plain rfl) (Gives.p hE rfl) rfl (tw_sel (fun _ => hS) (fun _ => (hS.dropAt 1))) ?_; clear hE a; intro a hE
      refine Rg.takeP (i := 6) hE rfl (by kernel_rfl) (runs_plain rfl) (Gives.p hE rfl) rfl (tw_sel (fun _ => hS) (fun _ => (hS.dropAt 1))) ?_; clear hE a; intro a hE
      refine Rg.takeP (i := 7) hE rfl (by kernel_rfl) (runs_plain rfl) (Gives.p hE rfl) rfl (tw_sel (fun _ => hS) (fun _ => (hS.dropAt 1))) ?_; clear hE a; intro a hE
      refine Rg.takeP (i := 8) hE rfl (by kernel_rfl) (runs_plain rfl) (Gives.p hE rfl) rfl (tw_sel (fun _ => hS) (fun _ => (hS.dropAt 1))) ?_; clear hE a; intro a hE
      refine Rg.takeP (i := 9) hE rfl (by kernel_rfl) (runs_plain rfl) (Gives.p hE rfl) rfl (tw_sel (fun _ => hS) (fun _ => (hS.dropAt 1))) ?_; clear hE a; intro a hE
      refine Rg.takeP (i := 10) hE rfl (by kernel_rfl) (runs_plain rfl) (Gives.p hE rfl) rfl (tw_sel (fun _ => hS) (fun _ => (hS.dropAt 1))) ?_; clear hE a; intro a hE
      refine Rg.takeP (i := 11) hE rfl (by kernel_rfl) (runs_plain rfl) (Gives.p hE rfl) rfl (tw_sel (fun _ => hS) (fun _ => (hS.dropAt 1))) ?_; clear hE a; intro a hE
      obtain ⟨x73, hx74, hq57⟩ := bindS hq57
      obtain ⟨hi75, hlt76, hy77⟩ := gx_some hx74
      obtain ⟨vs78, hl79, hR80, hd81, hget82⟩ := h67.at hy77
      subst hR80
      refine Rg.takeP (i := 12) hE rfl (by kernel_rfl) (runs_plain rfl) (Gives.idx hE ((w64 (x2 + q63)).toNat) rfl rfl sl44 hi75 (by have := hn69; omega) (hS.vecAok 1 rfl (by have := hn69; omega : (w64 (x2 + q63)).toNat < x0.length))) rfl (tw_sel (fun _ => hS) (fun _ => (hS.dropAt 1))) ?_; clear hE a; intro a hE
      have hT := tw_sel (A := fun w => St w s (pt pb0 (.cells #[.slice a_y0_0 y0.length c_y0_0] 32 (0, 0)) :: vecC 3 1 a_v0 c_v0 x0.length cs68 :: R)) (B := fun w => St w s (pt pb0 (.cells #[.slice a_y0_0 y0.length c_y0_0] 32 (0, 0)) :: R)) (w := _) (x := true) (y := true) (fun _ => hS) (fun _ => (hS.dropAt 1))
      have hF := hS; replace hS := hS
      refine Rg.take (i := 13) true rfl hE rfl (by kernel_rfl) (runs_plain rfl) (Gives.load1 hE rfl (fun w h => St.vecSees h 1 rfl ((w64 (x2 + q63)).toNat * 1) _ hget82) ty3) rfl hT ?_; clear hE a; intro a hE
      replace hS := hF; clear hF hT
      refine Rg.takeP (i := 14) hE rfl (by kernel_rfl) (runs_plain rfl) (Gives.p hE rfl) rfl (tw_sel (fun _ => hS) (fun _ => (hS.dropAt 1))) ?_; clear hE a; intro a hE
      refine Rg.takeP (i := 15) hE rfl (by kernel_rfl) (runs_plain rfl) (Gives.p hE rfl) rfl (tw_sel (fun _ => hS) (fun _ => (hS.dropAt 1))) ?_; clear hE a; intro a hE
      refine Rg.takeP (i := 16) hE rfl (by kernel_rfl) (runs_plain rfl) (Gives.p hE rfl) rfl (tw_sel (fun _ => hS) (fun _ => (hS.dropAt 1))) ?_; clear hE a; intro a hE
      refine Rg.takeP (i := 17) hE rfl (by kernel_rfl) (runs_plain rfl) (Gives.p hE rfl) rfl (tw_sel (fun _ => hS) (fun _ => (hS.dropAt 1))) ?_; clear hE a; intro a hE
      obtain ⟨x83, hx84, hq57⟩ := bindS hq57
      obtain ⟨hi85, hlt86, hy87⟩ := gx_some hx84
      obtain ⟨vs88, hl89, hR90, hd91, hget92⟩ := h67.at hy87
      subst hR90
      refine Rg.takeP (i := 18) hE rfl (by kernel_rfl) (runs_plain rfl) (Gives.idx hE ((w64 (x1 + q63)).toNat) rfl rfl sl44 hi85 (by have := hn69; omega) (hS.vecAok 1 rfl (by have := hn69; omega : (w64 (x1 + q63)).toNat < x0.length))) rfl (tw_sel (fun _ => hS) (fun _ => (hS.dropAt 1))) ?_; clear hE a; intro a hE
      have hT := tw_sel (A := fun w => St w s (pt pb0 (.cells #[.slice a_y0_0 y0.length c_y0_0] 32 (0, 0)) :: vecC 3 1 a_v0 c_v0 x0.length cs68 :: R)) (B := fun w => St w s (pt pb0 (.cells #[.slice a_y0_0 y0.length c_y0_0] 32 (0, 0)) :: R)) (w := _) (x := true) (y := true) (fun _ => hS) (fun _ => (hS.dropAt 1))
      have hF := hS; replace hS := hS
      refine Rg.take (i := 19) true rfl hE rfl (by kernel_rfl) (runs_plain rfl) (Gives.load1 hE rfl (fun w h => St.vecSees h 1 rfl ((w64 (x1 + q63)).toNat * 1) _ hget92) ty3) rfl hT ?_; clear hE a; intro a hE
      replace hS := hF; clear hF hT
      obtain ⟨_, hx94, hq57⟩ := bindS hq57
      obtain ⟨h95, h96⟩ := ix_some hx94
      refine Rg.takeP (i := 20) hE rfl (by kernel_rfl) (runs_plain rfl) (Gives.idx hE ((w64 (x1 + q63)).toNat) rfl rfl sl44 h95 (by have := hn69; omega) (hS.vecAok 1 rfl (by have := hn69; omega : (w64 (x1 + q63)).toNat < x0.length))) rfl (tw_sel (fun _ => hS) (fun _ => (hS.dropAt 1))) ?_; clear hE a; intro a hE
      refine Rg.one (i := 21) false true rfl (by kernel_rfl) (by kernel_rfl) (by kernel_rfl) ?_
      obtain ⟨x98, hx99, hq57⟩ := bindS hq57
      refine WL.setD hE hS 1 rfl (runs_plain rfl) rfl rfl (vs := [.int .i64 x73]) rfl ty3 rfl rfl rfl h67 hn69 (sx_some hx99).1 hx99 rfl rfl ?_; clear hE hS a w; intro cs100 a w h101 hn102 hE hS
      refine WL.nil ?_
      refine ⟨⟨fun h => absurd h (by decide), fun _ => (hS.dropAt 1)⟩, ?_⟩
      obtain ⟨_, hx104, hq57⟩ := bindS hq57
      obtain ⟨h105, h106⟩ := ix_some hx104
      refine Rg.takeP (i := 22) hE rfl (by kernel_rfl) (runs_plain rfl) (Gives.idx hE ((w64 (x2 + q63)).toNat) rfl rfl sl44 h105 (by have := hn102; omega) (hS.vecAok 1 rfl (by have := hn102; omega : (w64 (x2 + q63)).toNat < x0.length))) rfl (tw_sel (fun h => absurd h (by decide)) (fun _ => (hS.dropAt 1))) ?_; clear hE a; intro a hE
      refine Rg.one (i := 23) false true rfl (by kernel_rfl) (by kernel_rfl) (by kernel_rfl) ?_
      obtain ⟨x108, hx109, hq57⟩ := bindS hq57
      refine WL.setD hE hS 1 rfl (runs_plain rfl) rfl rfl (vs := [.int .i64 x83]) rfl ty3 rfl rfl rfl h101 hn102 (sx_some hx109).1 hx109 rfl rfl ?_; clear hE hS a w; intro cs110 a w h111 hn112 hE hS
      refine WL.nil ?_
      refine ⟨⟨fun h => absurd h (by decide), fun _ => (hS.dropAt 1)⟩, ?_⟩
      refine Rg.done (by kernel_rfl) ?_
      subst hK72
      refine W.region ?_
      refine WL.vS hS hE (runs_plain rfl) (Gives.p hE rfl) rfl ?_; clear hE a; intro a hE
      refine WL.vS hS hE (runs_plain rfl) (Gives.p hE rfl) rfl ?_; clear hE a; intro a hE
      refine WL.vS hS hE (runs_plain rfl) (Gives.p hE rfl) rfl ?_; clear hE a; intro a hE
      refine WL.nil ?_
      subst hK70
      exact ⟨n59, Nat.lt_succ_self _, n59, (w64 (q63 + 1)), x108, cs110, rfl, hq57, h111, hn112, hE.pick _ ⟨rfl, rfl, rfl, rfl, rfl, trivial⟩, hS⟩
    · replace hq57 := iteF hc71 hq57
      subst hK70
      refine W.exit rfl ?_
      exact ⟨q63, q64, cs68, Option.some.inj hq57, h67, hn69, hE.pick _ trivial, hS⟩
  · clear hE hS a w; rintro a w ⟨q63, q64, cs68, rfl, h67, hn69, hE, hS⟩
    dsimp only at hr
    refine finG (fn := Try.f196) (rs := []) (vs := []) hE rfl trivial ?_
    obtain rfl := Option.some.inj hr
    exact ⟨cs68, rfl, h67, hn69, hS⟩
set_option maxHeartbeats 8000000 in
theorem SlicesrotateCmpFuncint_v1_ok {fu : Nat}  {w : World} {s : Sg} {R : List HP} {pb0 : Nat} {x0 : List Int} {a_v0 : Option Addr} {c_v0 n_v0 : Nat} {cs_v0 : List Value} {x1 : Int} {x2 : Int} {x3 : Int} {y0 : List FleetTask} {a_y0_0 : Option Addr} {c_y0_0 : Nat} (hS : St w s (pt pb0 (.cells #[.slice a_y0_0 y0.length c_y0_0] 32 (0, 0)) :: vecC 3 1 a_v0 c_v0 n_v0 cs_v0 :: R)) (h_v0 : Ev 1 (RI .i64) s cs_v0 x0) (hn_v0 : x0.length = n_v0) (h_y0_0 : Sl 6 RFleetTask s a_y0_0 c_y0_0 y0) {r : (List Int)} (hr : SlicesrotateCmpFuncint_v1 fu x0 x1 x2 x3 y0 = some r) :
    Calls Try.prog 187 [.slice a_v0 n_v0 c_v0, .int .i64 x1, .int .i64 x2, .int .i64 x3, .func (.func 104) #[] #[.pointer (some ⟨pb0, 0, none⟩)]].toArray w (fun e w => ∃ (cs55 : List Value), e = .returned (.tuple #[]) ∧ Ev 1 (RI .i64) s cs55 r ∧ r.length = n_v0 ∧ St w s (pt pb0 (.cells #[.slice a_y0_0 y0.length c_y0_0] 32 (0, 0)) :: vecC 3 1 a_v0 c_v0 n_v0 cs55 :: R)) := by
  refine enter Try.func187 rfl rfl rfl fun a hE => ?_
  rw [SlicesrotateCmpFuncint_v1] at hr
  subst hn_v0
  refine W.seq ?_
  refine W.region ?_
  refine WL.vS hS hE (runs_plain rfl) (Gives.p hE rfl) rfl ?_; clear hE a; intro a hE
  refine WL.vS hS hE (runs_plain rfl) (Gives.p hE rfl) rfl ?_; clear hE a; intro a hE
  refine WL.vS hS hE (runs_plain rfl) (Gives.p hE rfl) rfl ?_; clear hE a; intro a hE
  refine WL.vS hS hE (runs_plain rfl) (Gives.p hE rfl) rfl ?_; clear hE a; intro a hE
  refine WL.nil ?_
  refine W.seq ?_
  refine W.region ?_
  refine WL.vS hS hE (runs_plain rfl) (Gives.p hE rfl) rfl ?_; clear hE a; intro a hE
  refine WL.vS hS hE (runs_plain rfl) (Gives.p hE rfl) rfl ?_; clear hE a; intro a hE
  refine WL.vS hS hE (runs_plain rfl) (Gives.p hE rfl) rfl ?_; clear hE a; intro a hE
  refine WL.vS hS hE (runs_plain rfl) (Gives.p hE rfl) rfl ?_; clear hE a; intro a hE
  refine WL.nil ?_
  refine W.seq ?_
  obtain ⟨q58, hq57, hr⟩ := bindS hr
  refine W.cut (fun a w => ∃ (q63 : Int), ∃ (q64 : Int), ∃ (q65 : List Int), ∃ (cs69 : List Value), (q63, q64, q65) = q58 ∧ Ev 1 (RI .i64) s cs69 q65 ∧ q65.length = x0.length ∧ Rep a 58 [(0, .slice a_v0 x0.length c_v0), (2, .int .i64 x2), (4, .func (.func 104) #[] #[.pointer (some ⟨pb0, 0, none⟩)]), (10, .int .i64 q63)] ∧ St w s (pt pb0 (.cells #[.slice a_y0_0 y0.length c_y0_0] 32 (0, 0)) :: vecC 3 1 a_v0 c_v0 x0.length cs69 :: R)) ?_ ?_
  · refine W.block ?_
    refine W.loop (fun m a w => ∃ (n59 : Nat), ∃ (q63 : Int), ∃ (q64 : Int), ∃ (q65 : List Int), ∃ (cs69 : List Value), n59 = m ∧ SlicesrotateCmpFuncint_v1.loop1 x2 y0 fu n59 q63 q64 q65 = some q58 ∧ Ev 1 (RI .i64) s cs69 q65 ∧ q65.length = x0.length ∧ Rep a 58 [(0, .slice a_v0 x0.length c_v0), (2, .int .i64 x2), (4, .func (.func 104) #[] #[.pointer (some ⟨pb0, 0, none⟩)]), (10, .int .i64 q63), (11, .int .i64 q64)] ∧ St w s (pt pb0 (.cells #[.slice a_y0_0 y0.length c_y0_0] 32 (0, 0)) :: vecC 3 1 a_v0 c_v0 x0.length cs69 :: R)) (m := fu) ⟨fu, (w64 (x2 - x1)), (w64 (x3 - x2)), x0, cs_v0, rfl, hq57, h_v0, (rfl), hE.pick _ ⟨rfl, rfl, rfl, rfl, rfl, trivial⟩, hS⟩ ?_
    clear hE hS a w hq57; rintro m60 a w ⟨n59, q63, q64, q65, cs69, rfl, hq57, h68, hn70, hE, hS⟩
    refine W.gen fun K71 hK71 => ?_
    rcases n59 with _ | n59
    · rw [SlicesrotateCmpFuncint_v1.loop1] at hq57; exact absurd hq57 (by simp)
    rw [SlicesrotateCmpFuncint_v1.loop1] at hq57
    refine W.seq ?_
    refine W.seq ?_
    refine W.region ?_
    refine WL.vS hS hE (runs_plain rfl) (Gives.p hE rfl) rfl ?_; clear hE a; intro a hE
    refine WL.vS hS hE (runs_plain rfl) (Gives.p hE rfl) rfl ?_; clear hE a; intro a hE
    refine WL.vS hS hE (runs_plain rfl) (Gives.p hE rfl) rfl ?_; clear hE a; intro a hE
    refine WL.nil ?_
    refine W.cond hE rfl (fun hc72 => ?_) (fun hc72 => ?_)
    · replace hq57 := iteT hc72 hq57
      refine W.skip ?_
      refine W.block ?_
      refine W.seq ?_
      refine W.region ?_
      refine WL.vS hS hE (runs_plain rfl) (Gives.p hE rfl) rfl ?_; clear hE a; intro a hE
      refine WL.vS hS hE (runs_plain rfl) (Gives.p hE rfl) rfl ?_; clear hE a; intro a hE
      refine WL.vS hS hE (runs_plain rfl) (Gives.p hE rfl) rfl ?_; clear hE a; intro a hE
      refine WL.nil ?_
      obtain ⟨q74, hq73, hq57⟩ := bindS hq57
      refine W.cut (fun a w => ∃ (q77 : Int), ∃ (q78 : Int), ∃ (q79 : List Int), ∃ (cs83 : List Value), (q77, q78, q79) = q74 ∧ Ev 1 (RI .i64) s cs83 q79 ∧ q79.length = x0.length ∧ Rep a 58 [(0, .slice a_v0 x0.length c_v0), (2, .int .i64 x2), (4, .func (.func 104) #[] #[.pointer (some ⟨pb0, 0, none⟩)]), (10, .int .i64 q77), (11, .int .i64 q78)] ∧ St w s (pt pb0 (.cells #[.slice a_y0_0 y0.length c_y0_0] 32 (0, 0)) :: vecC 3 1 a_v0 c_v0 x0.length cs83 :: R)) ?_ ?_
      · refine W.gen fun K85 hK85 => ?_
        refine W.cond hE rfl (fun hc86 => ?_) (fun hc86 => ?_)
        · replace hq73 := iteT hc86 hq73
          refine W.seq ?_
          refine W.region ?_
          refine WL.vS hS hE (runs_plain rfl) (Gives.p hE rfl) rfl ?_; clear hE a; intro a hE
          refine WL.vS hS hE (runs_plain rfl) (Gives.p hE rfl) rfl ?_; clear hE a; intro a hE
          refine WL.vS hS hE (runs_plain rfl) (Gives.p hE rfl) rfl ?_; clear hE a; intro a hE
          refine WL.vS hS hE (runs_plain rfl) (Gives.p hE rfl) rfl ?_; clear hE a; intro a hE
          refine WL.vS hS hE (runs_plain rfl) (Gives.p hE rfl) rfl ?_; clear hE a; intro a hE
          refine WL.vS hS hE (runs_plain rfl) (Gives.p hE rfl) rfl ?_; clear hE a; intro a hE
          refine WL.vS hS hE (runs_plain rfl) (Gives.p hE rfl) rfl ?_; clear hE a; intro a hE
          obtain ⟨q87, hq88, hq73⟩ := bindS hq73
          have hc_ := SlicesswapRangeCmpFuncint_v1_ok hS h68 hn70 h_y0_0 hq88
          refine WL.fnq hE (hc_) (runs_plain rfl) bd196 rfl rfl rfl ?_
          clear hE hS hc_; rintro e w ⟨cs89, rfl, h90, hn91, hS⟩; refine ⟨_, rfl, ?_⟩; clear a; intro a hE
          refine WL.nil ?_
          refine W.region ?_
          refine WL.vS hS hE (runs_plain rfl) (Gives.p hE rfl) rfl ?_; clear hE a; intro a hE
          refine WL.vS hS hE (runs_plain rfl) (Gives.p hE rfl) rfl ?_; clear hE a; intro a hE
          refine WL.vS hS hE (runs_plain rfl) (Gives.p hE rfl) rfl ?_; clear hE a; intro a hE
          refine WL.vS hS hE (runs_plain rfl) (Gives.p hE rfl) rfl ?_; clear hE a; intro a hE
          refine WL.nil ?_
          subst hK85
          exact ⟨w64 (q63 - q64), q64, q87, cs89, Option.some.inj hq73, h90, hn91, hE.pick _ ⟨rfl, rfl, rfl, rfl, rfl, trivial⟩, hS⟩
        · replace hq73 := iteF hc86 hq73
          refine W.seq ?_
          refine W.region ?_
          refine WL.vS hS hE (runs_plain rfl) (Gives.p hE rfl) rfl ?_; clear hE a; intro a hE
          refine WL.vS hS hE (runs_plain rfl) (Gives.p hE rfl) rfl ?_; clear hE a; intro a hE
          refine WL.vS hS hE (runs_plain rfl) (Gives.p hE rfl) rfl ?_; clear hE a; intro a hE
          refine WL.vS hS hE (runs_plain rfl) (Gives.p hE rfl) rfl ?_; clear hE a; intro a hE
          refine WL.vS hS hE (runs_plain rfl) (Gives.p hE rfl) rfl ?_; clear hE a; intro a hE
          refine WL.vS hS hE (runs_plain rfl) (Gives.p hE rfl) rfl ?_; clear hE a; intro a hE
          refine WL.vS hS hE (runs_plain rfl) (Gives.p hE rfl) rfl ?_; clear hE a; intro a hE
          refine WL.vS hS hE (runs_plain rfl) (Gives.p hE rfl) rfl ?_; clear hE a; intro a hE
          refine WL.vS hS hE (runs_plain rfl) (Gives.p hE rfl) rfl ?_; clear hE a; intro a hE
          refine WL.vS hS hE (runs_plain rfl) (Gives.p hE rfl) rfl ?_; clear hE a; intro a hE
          refine WL.vS hS hE (runs_plain rfl) (Gives.p hE rfl) rfl ?_; clear hE a; intro a hE
          obtain ⟨q92, hq93, hq73⟩ := bindS hq73
          have hc_ := SlicesswapRangeCmpFuncint_v1_ok hS h68 hn70 h_y0_0 hq93
          refine WL.fnq hE (hc_) (runs_plain rfl) bd196 rfl rfl rfl ?_
          clear hE hS hc_; rintro e w ⟨cs94, rfl, h95, hn96, hS⟩; refine ⟨_, rfl, ?_⟩; clear a; intro a hE
          refine WL.nil ?_
          refine W.region ?_
          refine WL.vS hS hE (runs_plain rfl) (Gives.p hE rfl) rfl ?_; clear hE a; intro a hE
          refine WL.vS hS hE (runs_plain rfl) (Gives.p hE rfl) rfl ?_; clear hE a; intro a hE
          refine WL.vS hS hE (runs_plain rfl) (Gives.p hE rfl) rfl ?_; clear hE a; intro a hE
          refine WL.vS hS hE (runs_plain rfl) (Gives.p hE rfl) rfl ?_; clear hE a; intro a hE
          refine WL.nil ?_
          subst hK85
          exact ⟨q63, w64 (q64 - q63), q92, cs94, Option.some.inj hq73, h95, hn96, hE.pick _ ⟨rfl, rfl, rfl, rfl, rfl, trivial⟩, hS⟩
      · clear hE hS a w; rintro a w ⟨q77, q78, q79, cs83, rfl, h82, hn84, hE, hS⟩
        dsimp only at hq57
        subst hK71
        exact ⟨n59, Nat.lt_succ_self _, n59, q77, q78, q79, cs83, rfl, hq57, h82, hn84, hE.pick _ ⟨rfl, rfl, rfl, rfl, rfl, trivial⟩, hS⟩
    · replace hq57 := iteF hc72 hq57
      subst hK71
      refine W.exit rfl ?_
      exact ⟨q63, q64, q65, cs69, Option.some.inj hq57, h68, hn70, hE.pick _ ⟨rfl, rfl, rfl, rfl, trivial⟩, hS⟩
  · clear hE hS a w; rintro a w ⟨q63, q64, q65, cs69, rfl, h68, hn70, hE, hS⟩
    dsimp only at hr
    refine W.region ?_
    refine WL.vS hS hE (runs_plain rfl) (Gives.p hE rfl) rfl ?_; clear hE a; intro a hE
    refine WL.vS hS hE (runs_plain rfl) (Gives.p hE rfl) rfl ?_; clear hE a; intro a hE
    refine WL.vS hS hE (runs_plain rfl) (Gives.p hE rfl) rfl ?_; clear hE a; intro a hE
    refine WL.vS hS hE (runs_plain rfl) (Gives.p hE rfl) rfl ?_; clear hE a; intro a hE
    refine WL.vS hS hE (runs_plain rfl) (Gives.p hE rfl) rfl ?_; clear hE a; intro a hE
    refine WL.vS hS hE (runs_plain rfl) (Gives.p hE rfl) rfl ?_; clear hE a; intro a hE
    refine WL.vS hS hE (runs_plain rfl) (Gives.p hE rfl) rfl ?_; clear hE a; intro a hE
    obtain ⟨q97, hq98, hr⟩ := bindS hr
    have hc_ := SlicesswapRangeCmpFuncint_v1_ok hS h68 hn70 h_y0_0 hq98
    refine WL.fnq hE (hc_) (runs_plain rfl) bd196 rfl rfl rfl ?_
    clear hE hS hc_; rintro e w ⟨cs99, rfl, h100, hn101, hS⟩; refine ⟨_, rfl, ?_⟩; clear a; intro a hE
    refine WL.nil ?_
    refine finG (fn := Try.f187) (rs := []) (vs := []) hE rfl trivial ?_
    obtain rfl := Option.some.inj hr
    exact ⟨cs99, rfl, h100, hn101, hS⟩
end Go.Proofs.Ytfhkpdnohcidgaa
