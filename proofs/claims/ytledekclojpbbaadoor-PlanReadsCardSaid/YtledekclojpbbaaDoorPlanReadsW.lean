/- The walks of the functions that PlanReads reaches: each call comes to what its mirror says. The conditions are those of each contract. -/
import Derived.Test.YtledekclojpbbaaDoorProg
import Derived.Test.YtledekclojpbbaaDoorPlanReadsM
import Derived.Test.YtledekclojpbbaaDoorFpAllT
import Derived.Test.YtledekclojpbbaaDoorPlanReadsS
import Derived.Test.YtledekclojpbbaaDoorFpMapS
import Derived.Test.YtledekclojpbbaaDoorFpErr
import Derived.Test.YtledekclojpbbaaDoorFpHot
import Derived.Test.YtledekclojpbbaaDoorPlanReadsW2
set_option maxRecDepth 10000
namespace Go.Proofs.YtledekclojpbbaaDoor
open Go Go.Fp
set_option maxHeartbeats 8000000 in
theorem Fishlaw2PlanReads_ok {fu : Nat}  {w : World} {s : Sg} {R : List HP} {x0 : ByteArray} (hS : St w s (R)) (hTab : TabX s) {r : Bool} (hr : Fishlaw2PlanReads fu x0 = some r) :
    Calls Tryd.prog 5 [.string x0].toArray w (fun e w => e = .returned (.bool r) ∧ St w s (R)) := by
  refine enter Tryd.func5 rfl rfl rfl fun a hE => ?_
  rw [Fishlaw2PlanReads] at hr
  refine W.seq ?_
  refine W.region ?_
  refine WL.vS hS hE (runs_plain rfl) (Gives.p hE rfl) rfl ?_; clear hE a; intro a hE
  refine WL.nil ?_
  refine W.seq ?_
  refine W.region ?_
  refine WL.vS hS hE (runs_plain rfl) (Gives.p hE rfl) rfl ?_; clear hE a; intro a hE
  obtain ⟨q51, hq52, hr⟩ := bindS hr
  have hc_ := PlanRead_ok hS (TabG.mono (Sg.Le.refl _) hTab) hq52
  refine WL.fnq hE (hc_) (runs_plain rfl) bd14 rfl rfl rfl ?_
  clear hE hS hc_; rintro e w ⟨cs53, s55, rfl, hle56, h54, hS⟩; refine ⟨_, rfl, ?_⟩; clear a; intro a hE
  obtain ⟨a57, c58, a60, c61, rfl, h59, h62⟩ := h54
  refine WL.vS hS hE (runs_plain rfl) (Gives.p hE rfl) rfl ?_; clear hE a; intro a hE
  refine WL.vS hS hE (runs_plain rfl) (Gives.p hE rfl) rfl ?_; clear hE a; intro a hE
  refine WL.vS hS hE (runs_plain rfl) (Gives.p hE rfl) rfl ?_; clear hE a; intro a hE
  refine WL.alloc hE hS (runs_plain rfl) zr33 rfl ?_; clear hE hS a w; intro b63 a w hE hS
  refine WL.storeI hE hS 0 rfl [.slice a57 q51.1.Trains.length c58, .slice a60 q51.1.Turns.length c61] (runs_plain rfl) rfl rfl rfl ty33 rfl rfl rfl rfl ?_; clear hE hS a w; intro a w hE hS
  refine WL.vS hS hE (runs_plain rfl) (Gives.p hE rfl) rfl ?_; clear hE a; intro a hE
  refine WL.nil ?_
  refine W.seq ?_
  refine W.region ?_
  refine WL.vS hS hE (runs_plain rfl) (Gives.p hE rfl) rfl ?_; clear hE a; intro a hE
  obtain ⟨q64, hq65, hr⟩ := bindS hr
  have hc_ := Fishref2ReadDay_ok hS (TabG.mono hle56 hTab) hq65
  refine WL.fnq hE (hc_) (runs_plain rfl) bd17 rfl rfl rfl ?_
  clear hE hS hc_; rintro e w ⟨cs66, s68, rfl, hle69, h67, hS⟩; refine ⟨_, rfl, ?_⟩; clear a; intro a hE
  replace h59 := Sl.mono RApiTrain.mono hle69 h59
  replace h62 := Sl.mono (RL.mono RI.mono) hle69 h62
  obtain ⟨a70, c71, a73, c74, rfl, h72, h75⟩ := h67
  refine WL.vS hS hE (runs_plain rfl) (Gives.p hE rfl) rfl ?_; clear hE a; intro a hE
  refine WL.vS hS hE (runs_plain rfl) (Gives.p hE rfl) rfl ?_; clear hE a; intro a hE
  refine WL.vS hS hE (runs_plain rfl) (Gives.p hE rfl) rfl ?_; clear hE a; intro a hE
  refine WL.alloc hE hS (runs_plain rfl) zr33 rfl ?_; clear hE hS a w; intro b76 a w hE hS
  refine WL.storeI hE hS 0 rfl [.slice a70 q64.1.Trains.length c71, .slice a73 q64.1.Turns.length c74] (runs_plain rfl) rfl rfl rfl ty33 rfl rfl rfl rfl ?_; clear hE hS a w; intro a w hE hS
  refine WL.vS hS hE (runs_plain rfl) (Gives.p hE rfl) rfl ?_; clear hE a; intro a hE
  refine WL.nil ?_
  refine W.seq ?_
  obtain ⟨q78, hq77, hr⟩ := bindS hr
  refine W.cut (fun a w => ∃ (q81 : Bool), q81 = q78 ∧ Rep a 28 [(2, .bool q81)] ∧ St w s68 (pt b76 (.cells #[.slice a70 q64.1.Trains.length c71, .slice a73 q64.1.Turns.length c74] 33 (0, 0)) :: pt b63 (.cells #[.slice a57 q51.1.Trains.length c58, .slice a60 q51.1.Turns.length c61] 33 (0, 0)) :: R)) ?_ ?_
  · refine W.gen fun K82 hK82 => ?_
    refine W.region ?_
    obtain ⟨q83, hq84, hq77⟩ := bindS hq77
    have hc_ := Fishlaw2plans_ok hS (TabG.mono (Sg.Le.trans hle56 hle69) hTab) hq84
    refine WL.fnq hE (hc_) (runs_plain rfl) bd10 rfl rfl rfl ?_
    clear hE hS hc_; rintro e w ⟨rfl, hS⟩; refine ⟨_, rfl, ?_⟩; clear a; intro a hE
    refine WL.vS hS hE (runs_plain rfl) (Gives.p hE rfl) rfl ?_; clear hE a; intro a hE
    rcases Bool.eq_false_or_eq_true q83 with hg85 | hg85
    · replace hq77 := iteT hg85 hq77
      refine WL.vS hS hE (runs_if hE rfl rfl rfl hg85) (Gives.p hE rfl) rfl ?_; clear hE a; intro a hE
      refine WL.vS hS hE (runs_if hE rfl rfl rfl hg85) (Gives.p hE rfl) rfl ?_; clear hE a; intro a hE
      refine WL.vS hS hE (runs_if hE rfl rfl rfl hg85) (Gives.p hE rfl) rfl ?_; clear hE a; intro a hE
      refine WL.vS hS hE (runs_plain rfl) (Gives.pickT hE rfl hg85 rfl) rfl ?_; clear hE a; intro a hE
      refine WL.vS hS hE (runs_plain rfl) (Gives.p hE rfl) rfl ?_; clear hE a; intro a hE
      rcases Bool.eq_false_or_eq_true (q51.2 == q64.2) with hg86 | hg86
      · replace hq77 := iteT hg86 hq77
        refine WL.vS hS hE (runs_if hE rfl rfl rfl hg86) (Gives.loadBA hE 1 rfl rfl ty33) rfl ?_; clear hE a; intro a hE
        refine WL.vS hS hE (runs_if hE rfl rfl rfl hg86) (Gives.loadBA hE 0 rfl rfl ty33) rfl ?_; clear hE a; intro a hE
        obtain ⟨q87, hq88, hq77⟩ := bindS hq77
        have hc_ := Fishref2SameDay_ok hS h59 h62 h72 h75 hq88
        refine WL.fnq hE (hc_) (runs_if hE rfl rfl rfl hg86) bd16 rfl rfl rfl ?_
        clear hE hS hc_; rintro e w ⟨rfl, hS⟩; refine ⟨_, rfl, ?_⟩; clear a; intro a hE
        refine WL.vS hS hE (runs_plain rfl) (Gives.pickT hE rfl hg86 rfl) rfl ?_; clear hE a; intro a hE
        refine WL.vS hS hE (runs_plain rfl) (Gives.p hE rfl) rfl ?_; clear hE a; intro a hE
        refine WL.nil ?_
        subst hK82
        exact ⟨q87, Option.some.inj hq77, hE.pick _ ⟨rfl, trivial⟩, hS⟩
      · replace hq77 := iteF hg86 hq77
        refine WL.no hE (runs_not hE rfl rfl rfl (by rw [hg86]; decide)) rfl ?_; clear hE a; intro a hE
        refine WL.no hE (runs_not hE rfl rfl rfl (by rw [hg86]; decide)) rfl ?_; clear hE a; intro a hE
        refine WL.no hE (runs_not hE rfl rfl rfl (by rw [hg86]; decide)) rfl ?_; clear hE a; intro a hE
        refine WL.vS hS hE (runs_plain rfl) (Gives.pickF hE rfl hg86 rfl) rfl ?_; clear hE a; intro a hE
        refine WL.vS hS hE (runs_plain rfl) (Gives.p hE rfl) rfl ?_; clear hE a; intro a hE
        refine WL.nil ?_
        subst hK82
        exact ⟨false, Option.some.inj hq77, hE.pick _ ⟨rfl, trivial⟩, hS⟩
    · replace hq77 := iteF hg85 hq77
      refine WL.no hE (runs_not hE rfl rfl rfl (by rw [hg85]; decide)) rfl ?_; clear hE a; intro a hE
      refine WL.no hE (runs_not hE rfl rfl rfl (by rw [hg85]; decide)) rfl ?_; clear hE a; intro a hE
      refine WL.no hE (runs_not hE rfl rfl rfl (by rw [hg85]; decide)) rfl ?_; clear hE a; intro a hE
      refine WL.vS hS hE (runs_plain rfl) (Gives.pickF hE rfl hg85 rfl) rfl ?_; clear hE a; intro a hE
      refine WL.vS hS hE (runs_plain rfl) (Gives.p hE rfl) rfl ?_; clear hE a; intro a hE
      refine WL.no hE (runs_not hE rfl rfl rfl (by decide)) rfl ?_; clear hE a; intro a hE
      refine WL.no hE (runs_not hE rfl rfl rfl (by decide)) rfl ?_; clear hE a; intro a hE
      refine WL.no hE (runs_not hE rfl rfl rfl (by decide)) rfl ?_; clear hE a; intro a hE
      refine WL.vS hS hE (runs_plain rfl) (Gives.pickF hE rfl rfl rfl) rfl ?_; clear hE a; intro a hE
      refine WL.vS hS hE (runs_plain rfl) (Gives.p hE rfl) rfl ?_; clear hE a; intro a hE
      refine WL.nil ?_
      subst hK82
      exact ⟨false, Option.some.inj hq77, hE.pick _ ⟨rfl, trivial⟩, hS⟩
  · clear hE hS a w; rintro a w ⟨q81, rfl, hE, hS⟩
    refine W.ret ?_
    refine finG (fn := Tryd.f5) (rs := [.tmp 2]) (vs := [_]) hE rfl ⟨rfl, trivial⟩ ?_
    obtain rfl := Option.some.inj hr
    replace hS := hS.tail
    replace hS := hS.tail
    exact ⟨rfl, (hS.down (Sg.Le.trans hle56 hle69))⟩
end Go.Proofs.YtledekclojpbbaaDoor
