/- The walks of the functions that FareAccepts reaches: each call comes to what its mirror says. The conditions are those of each contract. -/
import Derived.Test.YtledekclojpbbaaDoorProg
import Derived.Test.YtledekclojpbbaaDoorFareAcceptsM
import Derived.Test.YtledekclojpbbaaDoorFpAllT
import Derived.Test.YtledekclojpbbaaDoorFareAcceptsS
import Derived.Test.YtledekclojpbbaaDoorFpErr
import Derived.Test.YtledekclojpbbaaDoorFpPan
import Derived.Test.YtledekclojpbbaaDoorFareAcceptsW2
set_option maxRecDepth 10000
namespace Go.Proofs.YtledekclojpbbaaDoor
open Go Go.Fp
set_option maxHeartbeats 8000000 in
theorem Fishref2AcceptOf_ok {fu : Nat}  {w : World} {s : Sg} {R : List HP} {x0 : FareKey} {x1 : ByteArray} {x2 : Int} {x3 : Int} {x4 : Int} {x5 : List Int} {a5 : Option Addr} {c5 : Nat} (hS : St w s (R)) (hTab : TabX s) (h5 : Sl 1 (RI .i64) s a5 c5 x5) {r : Int} (hr : Fishref2AcceptOf fu x0 x1 x2 x3 x4 x5 = some r) :
    Calls Tryd.prog 24 [.agg (FareKey.cells x0).toArray, .string x1, .int .i64 x2, .int .i64 x3, .int .i64 x4, .slice a5 x5.length c5].toArray w (fun e w => e = .returned (.int .i64 r) ∧ St w s (R)) := by
  refine enter Tryd.func24 rfl rfl rfl fun a hE => ?_
  rw [Fishref2AcceptOf] at hr
  refine W.seq ?_
  refine W.region ?_
  refine WL.box hE hS (runs_plain rfl) rfl rfl rfl ?_; clear hE hS a w; intro b51 a w hE hS
  refine WL.vS hS hE (runs_plain rfl) (Gives.p hE rfl) rfl ?_; clear hE a; intro a hE
  refine WL.nil ?_
  refine W.seq ?_
  refine W.region ?_
  refine WL.vS hS hE (runs_plain rfl) (Gives.loadBA hE 0 rfl rfl ty44) rfl ?_; clear hE a; intro a hE
  refine WL.vS hS hE (runs_plain rfl) (Gives.p hE rfl) rfl ?_; clear hE a; intro a hE
  obtain ⟨q52, hq53, hr⟩ := bindS hr
  have hc_ := Fishref2OpenOf_ok hS (TabG.mono (Sg.Le.refl _) hTab) hq53
  refine WL.fnq hE (hc_) (runs_plain rfl) bd19 rfl rfl rfl ?_
  clear hE hS hc_; rintro e w ⟨cs54, s56, rfl, hle57, h55, hS⟩; refine ⟨_, rfl, ?_⟩; clear a; intro a hE
  replace h5 := Sl.mono RI.mono hle57 h5
  obtain ⟨a58, c59, rfl, h60⟩ := h55
  refine WL.vS hS hE (runs_plain rfl) (Gives.p hE rfl) rfl ?_; clear hE a; intro a hE
  refine WL.vS hS hE (runs_plain rfl) (Gives.p hE rfl) rfl ?_; clear hE a; intro a hE
  refine WL.vS hS hE (runs_plain rfl) (Gives.p hE rfl) rfl ?_; clear hE a; intro a hE
  refine WL.alloc hE hS (runs_plain rfl) zr46 rfl ?_; clear hE hS a w; intro b61 a w hE hS
  refine WL.storeI hE hS 0 rfl [.int .i64 q52.1.No, .int .i64 q52.1.Day, .int .i64 q52.1.Start, .int .i64 q52.1.End, .int .i64 q52.1.Price, .slice a58 q52.1.Zones.length c59] (runs_plain rfl) rfl rfl rfl ty46 rfl rfl rfl rfl ?_; clear hE hS a w; intro a w hE hS
  refine WL.vS hS hE (runs_plain rfl) (Gives.p hE rfl) rfl ?_; clear hE a; intro a hE
  refine WL.nil ?_
  refine W.seq ?_
  refine W.block ?_
  refine W.seq ?_
  refine W.region ?_
  refine WL.vS hS hE (runs_plain rfl) (Gives.p hE rfl) rfl ?_; clear hE a; intro a hE
  refine WL.vS hS hE (runs_plain rfl) (Gives.p hE rfl) rfl ?_; clear hE a; intro a hE
  refine WL.vS hS hE (runs_plain rfl) (Gives.p hE rfl) rfl ?_; clear hE a; intro a hE
  refine WL.nil ?_
  refine W.cond hE rfl (fun hc62 => ?_) (fun hc62 => ?_)
  · replace hr := iteT hc62 hr
    refine W.seq ?_
    refine W.region ?_
    refine WL.vS hS hE (runs_plain rfl) (Gives.p hE rfl) rfl ?_; clear hE a; intro a hE
    refine WL.vS hS hE (runs_plain rfl) (Gives.p hE rfl) rfl ?_; clear hE a; intro a hE
    refine WL.nil ?_
    refine W.ret ?_
    refine finG (fn := Tryd.f24) (rs := [.tmp 12]) (vs := [_]) hE rfl ⟨rfl, trivial⟩ ?_
    obtain rfl := Option.some.inj hr
    replace hS := hS.tail
    replace hS := hS.tail
    exact ⟨rfl, (hS.down hle57)⟩
  · replace hr := iteF hc62 hr
    refine W.seq ?_
    obtain ⟨q64, hq63, hr⟩ := bndS hr
    refine W.cut (fun a w => ∃ (q67 : Bool), q67 = q64 ∧ Rep a 53 [(4, .int .i64 x4), (5, .slice a5 x5.length c5), (13, .pointer (some ⟨b61, 0, none⟩)), (25, .bool q67)] ∧ St w s56 (pt b61 (.cells #[.int .i64 q52.1.No, .int .i64 q52.1.Day, .int .i64 q52.1.Start, .int .i64 q52.1.End, .int .i64 q52.1.Price, .slice a58 q52.1.Zones.length c59] 46 (0, 0)) :: pt b51 (.cells (FareKey.cells x0).toArray 44 (0, 0)) :: R)) ?_ ?_
    · refine W.gen fun K68 hK68 => ?_
      refine W.region ?_
      refine WL.vS hS hE (runs_plain rfl) (Gives.fld hE rfl fl46_1) rfl ?_; clear hE a; intro a hE
      refine WL.vS hS hE (runs_plain rfl) (Gives.loadB hE 0 rfl rfl rfl ty3) rfl ?_; clear hE a; intro a hE
      refine WL.vS hS hE (runs_plain rfl) (Gives.p hE rfl) rfl ?_; clear hE a; intro a hE
      refine WL.vS hS hE (runs_plain rfl) (Gives.p hE rfl) rfl ?_; clear hE a; intro a hE
      refine WL.vS hS hE (runs_plain rfl) (Gives.p hE rfl) rfl ?_; clear hE a; intro a hE
      rcases Bool.eq_false_or_eq_true (q52.1.Day != x2) with hg69 | hg69
      · replace hq63 := iteT hg69 hq63
        refine WL.no hE (runs_not hE rfl rfl rfl (by rw [hg69]; decide)) rfl ?_; clear hE a; intro a hE
        refine WL.no hE (runs_not hE rfl rfl rfl (by rw [hg69]; decide)) rfl ?_; clear hE a; intro a hE
        refine WL.no hE (runs_not hE rfl rfl rfl (by rw [hg69]; decide)) rfl ?_; clear hE a; intro a hE
        refine WL.no hE (runs_not hE rfl rfl rfl (by rw [hg69]; decide)) rfl ?_; clear hE a; intro a hE
        refine WL.vS hS hE (runs_plain rfl) (Gives.pickT hE rfl hg69 rfl) rfl ?_; clear hE a; intro a hE
        refine WL.vS hS hE (runs_plain rfl) (Gives.p hE rfl) rfl ?_; clear hE a; intro a hE
        refine WL.no hE (runs_not hE rfl rfl rfl (by decide)) rfl ?_; clear hE a; intro a hE
        refine WL.no hE (runs_not hE rfl rfl rfl (by decide)) rfl ?_; clear hE a; intro a hE
        refine WL.no hE (runs_not hE rfl rfl rfl (by decide)) rfl ?_; clear hE a; intro a hE
        refine WL.no hE (runs_not hE rfl rfl rfl (by decide)) rfl ?_; clear hE a; intro a hE
        refine WL.vS hS hE (runs_plain rfl) (Gives.pickT hE rfl rfl rfl) rfl ?_; clear hE a; intro a hE
        refine WL.vS hS hE (runs_plain rfl) (Gives.p hE rfl) rfl ?_; clear hE a; intro a hE
        refine WL.nil ?_
        subst hK68
        exact ⟨true, hq63, hE.pick _ ⟨rfl, rfl, rfl, rfl, trivial⟩, hS⟩
      · replace hq63 := iteF hg69 hq63
        refine WL.vS hS hE (runs_if hE rfl rfl rfl hg69) (Gives.p hE rfl) rfl ?_; clear hE a; intro a hE
        refine WL.vS hS hE (runs_if hE rfl rfl rfl hg69) (Gives.fld hE rfl fl46_2) rfl ?_; clear hE a; intro a hE
        refine WL.vS hS hE (runs_if hE rfl rfl rfl hg69) (Gives.loadB hE 0 rfl rfl rfl ty3) rfl ?_; clear hE a; intro a hE
        refine WL.vS hS hE (runs_if hE rfl rfl rfl hg69) (Gives.p hE rfl) rfl ?_; clear hE a; intro a hE
        refine WL.vS hS hE (runs_plain rfl) (Gives.pickF hE rfl hg69 rfl) rfl ?_; clear hE a; intro a hE
        refine WL.vS hS hE (runs_plain rfl) (Gives.p hE rfl) rfl ?_; clear hE a; intro a hE
        rcases Bool.eq_false_or_eq_true (decide (x3 < q52.1.Start)) with hg70 | hg70
        · replace hq63 := iteT hg70 hq63
          refine WL.no hE (runs_not hE rfl rfl rfl (by rw [hg70]; decide)) rfl ?_; clear hE a; intro a hE
          refine WL.no hE (runs_not hE rfl rfl rfl (by rw [hg70]; decide)) rfl ?_; clear hE a; intro a hE
          refine WL.no hE (runs_not hE rfl rfl rfl (by rw [hg70]; decide)) rfl ?_; clear hE a; intro a hE
          refine WL.no hE (runs_not hE rfl rfl rfl (by rw [hg70]; decide)) rfl ?_; clear hE a; intro a hE
          refine WL.vS hS hE (runs_plain rfl) (Gives.pickT hE rfl hg70 rfl) rfl ?_; clear hE a; intro a hE
          refine WL.vS hS hE (runs_plain rfl) (Gives.p hE rfl) rfl ?_; clear hE a; intro a hE
          refine WL.nil ?_
          subst hK68
          exact ⟨true, hq63, hE.pick _ ⟨rfl, rfl, rfl, rfl, trivial⟩, hS⟩
        · replace hq63 := iteF hg70 hq63
          refine WL.vS hS hE (runs_if hE rfl rfl rfl hg70) (Gives.p hE rfl) rfl ?_; clear hE a; intro a hE
          refine WL.vS hS hE (runs_if hE rfl rfl rfl hg70) (Gives.fld hE rfl fl46_3) rfl ?_; clear hE a; intro a hE
          refine WL.vS hS hE (runs_if hE rfl rfl rfl hg70) (Gives.loadB hE 0 rfl rfl rfl ty3) rfl ?_; clear hE a; intro a hE
          refine WL.vS hS hE (runs_if hE rfl rfl rfl hg70) (Gives.p hE rfl) rfl ?_; clear hE a; intro a hE
          refine WL.vS hS hE (runs_plain rfl) (Gives.pickF hE rfl hg70 rfl) rfl ?_; clear hE a; intro a hE
          refine WL.vS hS hE (runs_plain rfl) (Gives.p hE rfl) rfl ?_; clear hE a; intro a hE
          refine WL.nil ?_
          subst hK68
          exact ⟨decide (x3 > q52.1.End), hq63, hE.pick _ ⟨rfl, rfl, rfl, rfl, trivial⟩, hS⟩
    · clear hE hS a w; rintro a w ⟨q67, rfl, hE, hS⟩
      refine W.cond hE rfl (fun hc71 => ?_) (fun hc71 => ?_)
      · replace hr := iteT hc71 hr
        refine W.seq ?_
        refine W.region ?_
        refine WL.vS hS hE (runs_plain rfl) (Gives.p hE rfl) rfl ?_; clear hE a; intro a hE
        refine WL.nil ?_
        refine W.ret ?_
        refine finG (fn := Tryd.f24) (rs := [.tmp 12]) (vs := [_]) hE rfl ⟨rfl, trivial⟩ ?_
        obtain rfl := Option.some.inj hr
        replace hS := hS.tail
        replace hS := hS.tail
        exact ⟨rfl, (hS.down hle57)⟩
      · replace hr := iteF hc71 hr
        refine W.seq ?_
        refine W.region ?_
        refine WL.vS hS hE (runs_plain rfl) (Gives.fld hE rfl fl46_5) rfl ?_; clear hE a; intro a hE
        refine WL.vS hS hE (runs_plain rfl) (Gives.loadB hE 0 rfl rfl rfl ty23) rfl ?_; clear hE a; intro a hE
        refine WL.vS hS hE (runs_plain rfl) (Gives.p hE rfl) rfl ?_; clear hE a; intro a hE
        refine WL.fnq hE (SlicesContainsLint_ok hS h60 rfl (r := SlicesContainsLint q52.1.Zones x4)) (runs_plain rfl) bd64 rfl rfl rfl ?_
        clear hE hS; rintro e w ⟨rfl, hS⟩; refine ⟨_, rfl, ?_⟩; clear a; intro a hE
        refine WL.vS hS hE (runs_plain rfl) (Gives.p hE rfl) rfl ?_; clear hE a; intro a hE
        refine WL.vS hS hE (runs_plain rfl) (Gives.p hE rfl) rfl ?_; clear hE a; intro a hE
        refine WL.nil ?_
        refine W.cond hE rfl (fun hc72 => ?_) (fun hc72 => ?_)
        · replace hr := iteT hc72 hr
          refine W.seq ?_
          refine W.region ?_
          refine WL.vS hS hE (runs_plain rfl) (Gives.p hE rfl) rfl ?_; clear hE a; intro a hE
          refine WL.nil ?_
          refine W.ret ?_
          refine finG (fn := Tryd.f24) (rs := [.tmp 12]) (vs := [_]) hE rfl ⟨rfl, trivial⟩ ?_
          obtain rfl := Option.some.inj hr
          replace hS := hS.tail
          replace hS := hS.tail
          exact ⟨rfl, (hS.down hle57)⟩
        · replace hr := iteF hc72 hr
          refine W.seq ?_
          refine W.region ?_
          refine WL.vS hS hE (runs_plain rfl) (Gives.p hE rfl) rfl ?_; clear hE a; intro a hE
          refine WL.vS hS hE (runs_plain rfl) (Gives.fld hE rfl fl46_0) rfl ?_; clear hE a; intro a hE
          refine WL.vS hS hE (runs_plain rfl) (Gives.loadB hE 0 rfl rfl rfl ty3) rfl ?_; clear hE a; intro a hE
          refine WL.fnq hE (SlicesContainsLint_ok hS h5 rfl (r := SlicesContainsLint x5 q52.1.No)) (runs_plain rfl) bd64 rfl rfl rfl ?_
          clear hE hS; rintro e w ⟨rfl, hS⟩; refine ⟨_, rfl, ?_⟩; clear a; intro a hE
          refine WL.vS hS hE (runs_plain rfl) (Gives.p hE rfl) rfl ?_; clear hE a; intro a hE
          refine WL.nil ?_
          refine W.cond hE rfl (fun hc73 => ?_) (fun hc73 => ?_)
          · replace hr := iteT hc73 hr
            refine W.seq ?_
            refine W.region ?_
            refine WL.vS hS hE (runs_plain rfl) (Gives.p hE rfl) rfl ?_; clear hE a; intro a hE
            refine WL.nil ?_
            refine W.ret ?_
            refine finG (fn := Tryd.f24) (rs := [.tmp 12]) (vs := [_]) hE rfl ⟨rfl, trivial⟩ ?_
            obtain rfl := Option.some.inj hr
            replace hS := hS.tail
            replace hS := hS.tail
            exact ⟨rfl, (hS.down hle57)⟩
          · replace hr := iteF hc73 hr
            refine W.skip ?_
            refine W.seq ?_
            refine W.region ?_
            refine WL.vS hS hE (runs_plain rfl) (Gives.p hE rfl) rfl ?_; clear hE a; intro a hE
            refine WL.nil ?_
            refine W.ret ?_
            refine finG (fn := Tryd.f24) (rs := [.tmp 12]) (vs := [_]) hE rfl ⟨rfl, trivial⟩ ?_
            obtain rfl := Option.some.inj hr
            replace hS := hS.tail
            replace hS := hS.tail
            exact ⟨rfl, (hS.down hle57)⟩
set_option maxHeartbeats 8000000 in
theorem Fishlaw2FareAccepts_ok {fu : Nat}  {w : World} {s : Sg} {R : List HP} {x0 : FareKey} {x1 : FareTicket} {a1_0 : Option Addr} {c1_0 : Nat} {x2 : ByteArray} {x3 : Int} {x4 : Int} {x5 : Int} {x6 : List Int} {a6 : Option Addr} {c6 : Nat} (hS : St w s (R)) (hTab : TabX s) (h1_0 : Sl 1 (RI .i64) s a1_0 c1_0 x1.Zones) (h6 : Sl 1 (RI .i64) s a6 c6 x6) {r : Bool} (hr : Fishlaw2FareAccepts fu x0 x1 x2 x3 x4 x5 x6 = some r) :
    Calls Tryd.prog 7 [.agg (FareKey.cells x0).toArray, .agg (List.toArray [.int .i64 x1.No, .int .i64 x1.Day, .int .i64 x1.Start, .int .i64 x1.End, .int .i64 x1.Price, .slice a1_0 x1.Zones.length c1_0]), .string x2, .int .i64 x3, .int .i64 x4, .int .i64 x5, .slice a6 x6.length c6].toArray w (fun e w => e = .returned (.bool r) ∧ St w s (R)) := by
  refine enter Tryd.func7 rfl rfl rfl fun a hE => ?_
  rw [Fishlaw2FareAccepts] at hr
  refine W.seq ?_
  refine W.region ?_
  refine WL.box hE hS (runs_plain rfl) rfl rfl rfl ?_; clear hE hS a w; intro b51 a w hE hS
  refine WL.box hE hS (runs_plain rfl) rfl rfl rfl ?_; clear hE hS a w; intro b52 a w hE hS
  refine WL.vS hS hE (runs_plain rfl) (Gives.p hE rfl) rfl ?_; clear hE a; intro a hE
  refine WL.nil ?_
  refine W.seq ?_
  refine W.seq ?_
  refine W.region ?_
  refine WL.vS hS hE (runs_plain rfl) (Gives.loadBA hE 1 rfl rfl ty44) rfl ?_; clear hE a; intro a hE
  refine WL.vS hS hE (runs_plain rfl) (Gives.loadBA hE 0 rfl rfl ty46) rfl ?_; clear hE a; intro a hE
  obtain ⟨q53, hq54, hr⟩ := bindS hr
  have hc_ := Fishref2IssueOf_ok hS (TabG.mono (Sg.Le.refl _) hTab) h1_0 hq54
  refine WL.fnq hE (hc_) (runs_plain rfl) bd22 rfl rfl rfl ?_
  clear hE hS hc_; rintro e w ⟨rfl, hS⟩; refine ⟨_, rfl, ?_⟩; clear a; intro a hE
  refine WL.vS hS hE (runs_plain rfl) (Gives.p hE rfl) rfl ?_; clear hE a; intro a hE
  refine WL.vS hS hE (runs_plain rfl) (Gives.p hE rfl) rfl ?_; clear hE a; intro a hE
  refine WL.vS hS hE (runs_plain rfl) (Gives.p hE rfl) rfl ?_; clear hE a; intro a hE
  refine WL.vS hS hE (runs_plain rfl) (Gives.p hE rfl) rfl ?_; clear hE a; intro a hE
  refine WL.vS hS hE (runs_plain rfl) (Gives.p hE rfl) rfl ?_; clear hE a; intro a hE
  refine WL.nil ?_
  refine W.seq ?_
  refine W.region ?_
  refine WL.vS hS hE (runs_plain rfl) (Gives.p hE rfl) rfl ?_; clear hE a; intro a hE
  refine WL.vS hS hE (runs_plain rfl) (Gives.p hE rfl) rfl ?_; clear hE a; intro a hE
  refine WL.nil ?_
  obtain ⟨q56, hq55, hr⟩ := bndS hr
  refine W.cut (fun a w => ∃ (q59 : ByteArray), q59 = q56 ∧ Rep a 44 [(2, .string q59), (3, .int .i64 x3), (4, .int .i64 x4), (5, .int .i64 x5), (6, .slice a6 x6.length c6), (7, .pointer (some ⟨b51, 0, none⟩))] ∧ St w s (pt b52 (.cells #[.int .i64 x1.No, .int .i64 x1.Day, .int .i64 x1.Start, .int .i64 x1.End, .int .i64 x1.Price, .slice a1_0 x1.Zones.length c1_0] 46 (0, 0)) :: pt b51 (.cells (FareKey.cells x0).toArray 44 (0, 0)) :: R)) ?_ ?_
  · refine W.gen fun K60 hK60 => ?_
    refine W.cond hE rfl (fun hc61 => ?_) (fun hc61 => ?_)
    · replace hq55 := iteT hc61 hq55
      refine W.region ?_
      refine WL.vS hS hE (runs_plain rfl) (Gives.p hE rfl) rfl ?_; clear hE a; intro a hE
      refine WL.vS hS hE (runs_plain rfl) (Gives.p hE rfl) rfl ?_; clear hE a; intro a hE
      refine WL.nil ?_
      subst hK60
      exact ⟨q53.1, hq55, hE.pick _ ⟨rfl, rfl, rfl, rfl, rfl, rfl, trivial⟩, hS⟩
    · replace hq55 := iteF hc61 hq55
      refine W.skip ?_
      subst hK60
      exact ⟨x2, hq55, hE.pick _ ⟨rfl, rfl, rfl, rfl, rfl, rfl, trivial⟩, hS⟩
  · clear hE hS a w; rintro a w ⟨q59, rfl, hE, hS⟩
    refine W.seq ?_
    obtain ⟨q63, hq62, hr⟩ := bindS hr
    refine W.cut (fun a w => ∃ (q66 : Bool), q66 = q63 ∧ Rep a 44 [(14, .bool q66)] ∧ St w s (pt b52 (.cells #[.int .i64 x1.No, .int .i64 x1.Day, .int .i64 x1.Start, .int .i64 x1.End, .int .i64 x1.Price, .slice a1_0 x1.Zones.length c1_0] 46 (0, 0)) :: pt b51 (.cells (FareKey.cells x0).toArray 44 (0, 0)) :: R)) ?_ ?_
    · refine W.gen fun K67 hK67 => ?_
      refine W.regionQ (C := fun w => St w s (pt b52 (.cells #[.int .i64 x1.No, .int .i64 x1.Day, .int .i64 x1.Start, .int .i64 x1.End, .int .i64 x1.Price, .slice a1_0 x1.Zones.length c1_0] 46 (0, 0)) :: pt b51 (.cells (FareKey.cells x0).toArray 44 (0, 0)) :: R)) mixed (by kernel_rfl) hS.drew ?_
      obtain ⟨q68, hq69, hq62⟩ := bindS hq62
      refine QL.fnq hE (fun w hS => Fishlaw2fares_ok hS  hq69) (runs_plain rfl) bd20 rfl rfl rfl ?_; clear hE a; intro a hE
      refine QL.v hE (runs_plain rfl) (Gives.p hE rfl) rfl ?_; clear hE a; intro a hE
      rcases Bool.eq_false_or_eq_true q68 with hg70 | hg70
      · replace hq62 := iteT hg70 hq62
        refine QL.v hE (runs_if hE rfl rfl rfl hg70) (Gives.loadBA hE 1 rfl rfl ty44) rfl ?_; clear hE a; intro a hE
        refine QL.v hE (runs_if hE rfl rfl rfl hg70) (Gives.p hE rfl) rfl ?_; clear hE a; intro a hE
        refine QL.v hE (runs_if hE rfl rfl rfl hg70) (Gives.p hE rfl) rfl ?_; clear hE a; intro a hE
        refine QL.v hE (runs_if hE rfl rfl rfl hg70) (Gives.p hE rfl) rfl ?_; clear hE a; intro a hE
        refine QL.v hE (runs_if hE rfl rfl rfl hg70) (Gives.p hE rfl) rfl ?_; clear hE a; intro a hE
        refine QL.v hE (runs_if hE rfl rfl rfl hg70) (Gives.p hE rfl) rfl ?_; clear hE a; intro a hE
        obtain ⟨q71, hq72, hq62⟩ := bindS hq62
        refine QL.fnq hE (fun w hS => FareAccept_ok hS (TabG.mono (Sg.Le.refl _) hTab) h6 hq72) (runs_if hE rfl rfl rfl hg70) bd23 rfl rfl rfl ?_; clear hE a; intro a hE
        refine QL.v hE (runs_if hE rfl rfl rfl hg70) (Gives.loadBA hE 1 rfl rfl ty44) rfl ?_; clear hE a; intro a hE
        refine QL.v hE (runs_if hE rfl rfl rfl hg70) (Gives.p hE rfl) rfl ?_; clear hE a; intro a hE
        refine QL.v hE (runs_if hE rfl rfl rfl hg70) (Gives.p hE rfl) rfl ?_; clear hE a; intro a hE
        refine QL.v hE (runs_if hE rfl rfl rfl hg70) (Gives.p hE rfl) rfl ?_; clear hE a; intro a hE
        refine QL.v hE (runs_if hE rfl rfl rfl hg70) (Gives.p hE rfl) rfl ?_; clear hE a; intro a hE
        refine QL.v hE (runs_if hE rfl rfl rfl hg70) (Gives.p hE rfl) rfl ?_; clear hE a; intro a hE
        obtain ⟨q73, hq74, hq62⟩ := bindS hq62
        refine QL.fnq hE (fun w hS => Fishref2AcceptOf_ok hS (TabG.mono (Sg.Le.refl _) hTab) h6 hq74) (runs_if hE rfl rfl rfl hg70) bd24 rfl rfl rfl ?_; clear hE a; intro a hE
        refine QL.v hE (runs_if hE rfl rfl rfl hg70) (Gives.p hE rfl) rfl ?_; clear hE a; intro a hE
        refine QL.v hE (runs_plain rfl) (Gives.pickT hE rfl hg70 rfl) rfl ?_; clear hE a; intro a hE
        refine QL.v hE (runs_plain rfl) (Gives.p hE rfl) rfl ?_; clear hE a; intro a hE
        refine QL.nil ?_; clear hS w; intro w hS
        subst hK67
        exact ⟨(q71 == q73), Option.some.inj hq62, hE.pick _ ⟨rfl, trivial⟩, hS⟩
      · replace hq62 := iteF hg70 hq62
        refine QL.no hE (runs_not hE rfl rfl rfl (by rw [hg70]; decide)) rfl ?_; clear hE a; intro a hE
        refine QL.no hE (runs_not hE rfl rfl rfl (by rw [hg70]; decide)) rfl ?_; clear hE a; intro a hE
        refine QL.no hE (runs_not hE rfl rfl rfl (by rw [hg70]; decide)) rfl ?_; clear hE a; intro a hE
        refine QL.no hE (runs_not hE rfl rfl rfl (by rw [hg70]; decide)) rfl ?_; clear hE a; intro a hE
        refine QL.no hE (runs_not hE rfl rfl rfl (by rw [hg70]; decide)) rfl ?_; clear hE a; intro a hE
        refine QL.no hE (runs_not hE rfl rfl rfl (by rw [hg70]; decide)) rfl ?_; clear hE a; intro a hE
        refine QL.no hE (runs_not hE rfl rfl rfl (by rw [hg70]; decide)) rfl ?_; clear hE a; intro a hE
        refine QL.no hE (runs_not hE rfl rfl rfl (by rw [hg70]; decide)) rfl ?_; clear hE a; intro a hE
        refine QL.no hE (runs_not hE rfl rfl rfl (by rw [hg70]; decide)) rfl ?_; clear hE a; intro a hE
        refine QL.no hE (runs_not hE rfl rfl rfl (by rw [hg70]; decide)) rfl ?_; clear hE a; intro a hE
        refine QL.no hE (runs_not hE rfl rfl rfl (by rw [hg70]; decide)) rfl ?_; clear hE a; intro a hE
        refine QL.no hE (runs_not hE rfl rfl rfl (by rw [hg70]; decide)) rfl ?_; clear hE a; intro a hE
        refine QL.no hE (runs_not hE rfl rfl rfl (by rw [hg70]; decide)) rfl ?_; clear hE a; intro a hE
        refine QL.no hE (runs_not hE rfl rfl rfl (by rw [hg70]; decide)) rfl ?_; clear hE a; intro a hE
        refine QL.no hE (runs_not hE rfl rfl rfl (by rw [hg70]; decide)) rfl ?_; clear hE a; intro a hE
        refine QL.v hE (runs_plain rfl) (Gives.pickF hE rfl hg70 rfl) rfl ?_; clear hE a; intro a hE
        refine QL.v hE (runs_plain rfl) (Gives.p hE rfl) rfl ?_; clear hE a; intro a hE
        refine QL.nil ?_; clear hS w; intro w hS
        subst hK67
        exact ⟨false, Option.some.inj hq62, hE.pick _ ⟨rfl, trivial⟩, hS⟩
    · clear hE hS a w; rintro a w ⟨q66, rfl, hE, hS⟩
      refine W.ret ?_
      refine finG (fn := Tryd.f7) (rs := [.tmp 14]) (vs := [_]) hE rfl ⟨rfl, trivial⟩ ?_
      obtain rfl := Option.some.inj hr
      replace hS := hS.tail
      replace hS := hS.tail
      exact ⟨rfl, hS⟩
end Go.Proofs.YtledekclojpbbaaDoor
